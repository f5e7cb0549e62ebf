/- The newest value of a series at a time, plain; the walk through query.layers (chapter 15). -/
import Derived.Test.YthdbmgjlegpbaaaQrPlain
import Derived.Test.YthdbmgjlegpbaaaQrBack
import Derived.Test.YthdbmgjlegpbaaaSgGet
namespace Go.Proofs.Ythdbmgjlegpbaaa
open Go.RowKit
set_option linter.unusedVariables false

def Qr.hit (s : ByteArray) (t : Int) (p : Pt.Point) : Bool := decide (p.1 = s) && decide (p.2.1 = t)
def Qr.newest (s : ByteArray) (t : Int) (ps : List Pt.Point) : Option Int := (ps.reverse.find? (Qr.hit s t)).map (·.2.2)
def Qr.lastIn (s : ByteArray) (t : Int) (ls : List (List Pt.Point)) : Option Int := ls.reverse.findSome? (Qr.newest s t)
def Qr.okS (segs : List ByteArray) : Bool := segs.all fun s => decide ((Sg.getR s).2.2 = 0)
def Qr.ptsOf (s : ByteArray) : List Pt.Point := (Sg.getR s).2.1
def Qr.lastR (segs : List ByteArray) (o : List Pt.Point) (s : ByteArray) (t : Int) : Int × Bool × Int :=
  if Qr.okS segs = true then ((Qr.lastIn s t (segs.map Qr.ptsOf ++ [o])).getD 0, (Qr.lastIn s t (segs.map Qr.ptsOf ++ [o])).isSome, 0) else (0, false, 1500)
theorem okS_step {segs : List ByteArray} {k : Nat} (hk : k < segs.length) (h : Qr.okS (segs.take k) = true) (he : (Sg.getR segs[k]).2.2 = 0) : Qr.okS (segs.take (k + 1)) = true := by
  unfold Qr.okS at h ⊢
  rw [List.take_succ_eq_append_getElem hk, List.all_append, h]; simp [he]
theorem okS_stop {segs : List ByteArray} {k : Nat} (hk : k < segs.length) (he : (Sg.getR segs[k]).2.2 ≠ 0) : Qr.okS segs = false := by
  unfold Qr.okS
  rw [List.all_eq_false]
  exact ⟨segs[k], List.getElem_mem _, by simp [he]⟩
theorem info_pts : (Try.prog.info? 38).map (fun i => (i.zero, i.size, i.bytes)) = some (some (.slice none 0 0), 1, 24) := by kernel_rfl
def OwnLays (base : Nat) (w : World) (L : List Lay) : Prop := ∀ y ∈ L, w.ownsRow base 52 3 (layV y) y.2.2.length (y.2.2.flatMap pointCells)
def LaysPost (w : World) (segs : List ByteArray) (o : Lay) (e : Ending) (w' : World) : Prop :=
  Below w.heap.size w w' ∧ ((Qr.okS segs = false ∧ e = .returned (.tuple #[.slice none 0 0, .bool false])) ∨
    (Qr.okS segs = true ∧ ∃ v L, e = .returned (.tuple #[v, .bool true]) ∧ w'.ownsRow w.heap.size 38 1 v (segs.length + 1) ((L ++ [o]).map layV) ∧ OwnLays w.heap.size w' L ∧ L.map (·.2.2) = segs.map Qr.ptsOf ∧ L.length = segs.length))
set_option maxRecDepth 100000 in
set_option maxHeartbeats 2000000 in
theorem layers_any (A : Option Addr) (c : Nat) (segs : List ByteArray) (o : Lay) (w : World) (B : Nat) (hr : Reads w B 1 A segs.length (segs.map Value.string)) (hB : B ≤ w.heap.size) (hn : (segs.length + 1) * 24 ≤ 140737488355328) (hss : ∀ s ∈ segs, s.size ≤ 140737488355328) :
    Calls Try.prog 49 #[.slice A segs.length c, layV o] w (LaysPost w segs o) := by
  obtain ⟨i0, hi, hz0, hz1, hz2⟩ := info_parts info_pts
  obtain ⟨oa, oc, ops⟩ := o
  have HR := Lib.hid hr
  have HSs := Lib.hid hss
  clear hr hss
  unfold layV
  dsimp only
  go_enter Try.func49, Try.ntmps49
  go_wp2_with fail
  go_loopw [6, 8, 9, 10, 11, 14] (fun vo _ _ _ _ i wr => ∃ (k : Nat) (L : List Lay), k ≤ segs.length ∧ i = .int .i64 (k : Int) ∧ Hid (L.length = k) ∧ Hid (wr.ownsRow w.heap.size 38 1 vo k (L.map layV)) ∧ Hid (OwnLays w.heap.size wr L) ∧ Hid (L.map (·.2.2) = (segs.take k).map Qr.ptsOf) ∧ Hid (Qr.okS (segs.take k) = true) ∧ Hid (Below w.heap.size w wr)) (fun _ _ _ _ _ i _ => segs.length - (intOf i).toNat)
  case atStart => exact ⟨0, [], Nat.zero_le _, rfl, Lib.hid rfl, Lib.hid (own_nil _ _ _ _), Lib.hid (fun y hy => by cases hy), Lib.hid (by simp), Lib.hid (by simp [Qr.okS]), Lib.hid (Below.refl _ _)⟩
  case round =>
    obtain ⟨k, L, hk, rfl, hLl, hown, hlays, hLm, hok, hbw⟩ := hrel
    have hsw := hbw.out.size
    by_cases hlt : k < segs.length
    · obtain ⟨b, off, rfl, hbl, hc⟩ := HR.out.2 (by omega)
      have hcm : wr.cell? ⟨b, off + k, none⟩ = some (.string segs[k]) := (hbw.out.cell (p := ⟨b, off + k, none⟩) (show b < w.heap.size by omega)).trans (hc k _ (by simp [hlt]))
      have HG := fun W => Lib.hid (sgget_any segs[k] W (HSs.out _ (List.getElem_mem _)))
      have HY := Lib.hid (fun h => okS_step hlt hok.out h)
      have HN := Lib.hid (fun h => okS_stop hlt h)
      have HP : Hid (∀ q, Sg.getR segs[k] = q → (segs.take (k + 1)).map Qr.ptsOf = (segs.take k).map Qr.ptsOf ++ [q.2.1]) := fun q hq => by
        rw [map_take_snoc _ _ _ hlt]; unfold Qr.ptsOf; rw [hq]
      clear hc hok
      generalize segs[k] = sg at *
      generalize Sg.getR sg = q at *
      have HP' := Lib.hid (HP.out q rfl)
      clear HP
      obtain ⟨r, ps, e1⟩ := q
      unfold GetPost at HG
      dsimp only at HG HY HN HP'
      by_cases he : e1 = 0
      · have HO := Lib.hid (HY.out he)
        subst he
        clear HY HN
        go_wp2_with fail
        refine (HG _).out.mono ?_
        rintro e w3 ⟨v3, rfl, hown3, hb3⟩
        obtain ⟨A3, c3, rfl, hnc3, _⟩ := own_slice hown3
        have hs3 := hb3.size
        have Hown' := Lib.hid (own_only hown.out (Only.new (fun _ => False) hb3) (fun _ _ h => h))
        have Hlays' : Hid (OwnLays w.heap.size w3 (L ++ [(A3, c3, ps)])) := by
          intro y hy
          rcases List.mem_append.1 hy with hy | hy
          · exact own_only (hlays.out y hy) (Only.new (fun _ => False) hb3) (fun _ _ h => h)
          · rw [List.mem_singleton] at hy
            subst hy
            exact own_down hown3 hsw
        have Hbw' : Hid (Below w.heap.size w w3) := hbw.out.trans (hb3.mono hsw)
        have hsw3 := Hbw'.out.size
        clear hown3 hb3
        go_wp2_with (at_builtin; refine wpList_push_beside _ rfl _ _ 37 rfl w.heap.size 38 i0 _ 1 24 Try.underlying37 hi hz0 hz1 hz2 rfl (by decide) _ k _ (by rfl) Hown'.out [.slice A3 ps.length c3] (by rfl) rfl (by simp [Value.oneCell']) (by unfold maxLen; omega) (by omega) w Hbw'.out hsw3 ?_; intro v8 w8 hown8 hb8 hg8)
        have Hown8 : Hid (w8.ownsRow w.heap.size 38 1 v8 (k + 1) ((L ++ [(A3, c3, ps)]).map layV)) := by
          show World.ownsRow _ _ _ _ _ _ _
          rw [List.map_append]; exact hown8
        have Hlays8 : Hid (OwnLays w.heap.size w8 (L ++ [(A3, c3, ps)])) := fun y hy => own_beside (Hlays'.out y hy) Hown'.out (by decide) hg8
        have Hb8 := Lib.hid hb8
        have HLl : Hid ((L ++ [(A3, c3, ps)]).length = k + 1) := by show _ = _; rw [List.length_append, hLl.out]; rfl
        have HLm : Hid ((L ++ [(A3, c3, ps)]).map (·.2.2) = (segs.take (k + 1)).map Qr.ptsOf) := by show _ = _; rw [List.map_append, hLm.out, HP'.out]; rfl
        clear hown8 hb8 hg8
        go_wp2_with fail
        go_roundw
        case rel => exact ⟨k + 1, L ++ [(A3, c3, ps)], by omega, by go_num, HLl, Hown8, Hlays8, HLm, HO, Hb8⟩
        case measure => simp [intOf]; omega
      · have HO := Lib.hid (HN.out he)
        have hz : (e1 != 0) = true := by simp [he]
        clear HY HN he
        go_wp2_with fail
        refine (HG _).out.mono ?_
        rintro e w3 ⟨v3, rfl, hown3, hb3⟩
        have Hbw' : Hid (Below w.heap.size w w3) := hbw.out.trans (hb3.mono hsw)
        clear hown3 hb3
        go_wp2_with fail
        go_ret2
        exact ⟨Hbw'.out, .inl ⟨HO.out, rfl⟩⟩
    · have htk : segs.take k = segs := List.take_of_length_le (by omega)
      rw [htk] at hLm hok
      have hkl : Hid (k = segs.length) := by show _ = _; omega
      clear htk
      go_wp2_with (at_builtin; refine wpList_push_beside _ rfl _ _ 37 rfl w.heap.size 38 i0 _ 1 24 Try.underlying37 hi hz0 hz1 hz2 rfl (by decide) _ k _ (by rfl) hown.out [.slice oa ops.length oc] (by rfl) rfl (by simp [Value.oneCell']) (by unfold maxLen; omega) (by omega) w hbw.out hsw ?_; intro v8 w8 hown8 hb8 hg8)
      have Hown8 : Hid (w8.ownsRow w.heap.size 38 1 v8 (segs.length + 1) ((L ++ [(oa, oc, ops)]).map layV)) := by
        show World.ownsRow _ _ _ _ _ _ _
        rw [List.map_append, ← hkl.out]; exact hown8
      have Hlays8 : Hid (OwnLays w.heap.size w8 L) := fun y hy => own_beside (hlays.out y hy) hown.out (by decide) hg8
      have Hb8 := Lib.hid hb8
      clear hown8 hb8 hg8
      obtain ⟨A8, c8, rfl, _, _⟩ := own_slice Hown8.out
      go_wp2_with fail
      go_ret2
      exact ⟨Hb8.out, .inr ⟨hok.out, _, L, rfl, Hown8.out, Hlays8.out, hLm.out, by rw [hLl.out, hkl.out]⟩⟩
end Go.Proofs.Ythdbmgjlegpbaaa
