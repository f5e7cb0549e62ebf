/- The walk through the reference's all: the points of segments. -/
import Derived.Test.YthdbmgjlegpbaaaK7
import Derived.Test.YthdbmgjlegpbaaaK8
namespace Go.Proofs.Ythdbmgjlegpbaaa
open Go.RowKit
set_option linter.unusedVariables false

def AllPost (w : World) (segs : List ByteArray) (e : Ending) (w' : World) : Prop :=
  Below w.heap.size w w' ∧ ((Qr.okS segs = false ∧ e = .returned (.tuple #[.slice none 0 0, .bool false])) ∨
    (Qr.okS segs = true ∧ ∃ v L, e = .returned (.tuple #[v, .bool true]) ∧ w'.ownsRow w.heap.size 38 1 v segs.length (L.map layV) ∧ OwnLays w.heap.size w' L ∧ L.map (·.2.2) = segs.map Qr.ptsOf ∧ L.length = segs.length))
set_option maxRecDepth 100000 in
set_option maxHeartbeats 2000000 in
theorem rall_any (A : Option Addr) (c : Nat) (segs : List ByteArray) (w : World) (B : Nat) (hr : Reads w B 1 A segs.length (segs.map Value.string)) (hB : B ≤ w.heap.size) (hn : segs.length * 24 ≤ 140737488355328) (hss : ∀ s ∈ segs, s.size ≤ 140737488355328) :
    Calls Try.prog 52 #[.slice A segs.length c] w (AllPost w segs) := by
  obtain ⟨i0, hi, hz0, hz1, hz2⟩ := info_parts info_pts
  have HR := Lib.hid hr
  have HSs := Lib.hid hss
  clear hr hss
  go_enter Try.func52, Try.ntmps52
  go_wp2_with fail
  go_loopw [4, 5, 6, 7, 8] (fun vo i _ _ _ wr => ∃ (k : Nat) (L : List Lay), k ≤ segs.length ∧ i = .int .i64 (k : Int) ∧ Hid (L.length = k) ∧ Hid (wr.ownsRow w.heap.size 38 1 vo k (L.map layV)) ∧ Hid (OwnLays w.heap.size wr L) ∧ Hid (L.map (·.2.2) = (segs.take k).map Qr.ptsOf) ∧ Hid (Qr.okS (segs.take k) = true) ∧ Hid (Below w.heap.size w wr)) (fun _ i _ _ _ _ => segs.length - (intOf i).toNat)
  case atStart => exact ⟨0, [], Nat.zero_le _, rfl, Lib.hid rfl, Lib.hid (own_nil _ _ _ _), Lib.hid (fun y hy => by cases hy), Lib.hid (by simp), Lib.hid (by simp [Qr.okS]), Lib.hid (Below.refl _ _)⟩
  case round =>
    obtain ⟨k, L, hk, rfl, hLl, hown, hlays, hLm, hok, hbw⟩ := hrel
    have hsw := hbw.out.size
    by_cases hlt : k < segs.length
    · have hltI : (k : Int) < (segs.length : Int) := by omega
      obtain ⟨b, off, rfl, hbl, hc⟩ := HR.out.2 (by omega)
      have hcm : wr.cell? ⟨b, off + k, none⟩ = some (.string segs[k]) := (hbw.out.cell (p := ⟨b, off + k, none⟩) (show b < w.heap.size by omega)).trans (hc k _ (by simp [hlt]))
      have HG := fun W => Lib.hid (rsgget_any segs[k] W (by have := HSs.out _ (List.getElem_mem hlt); omega))
      have HY := Lib.hid (fun h => okS_step hlt hok.out h)
      have HN := Lib.hid (fun h => okS_stop hlt h)
      have HP : Hid (∀ q, Sg.getR segs[k] = q → (segs.take (k + 1)).map Qr.ptsOf = (segs.take k).map Qr.ptsOf ++ [q.2.1]) := fun q hq => by
        rw [map_take_snoc _ _ _ hlt]; unfold Qr.ptsOf; rw [hq]
      clear hc hok
      generalize segs[k] = sg at *
      generalize Sg.getR sg = q at *
      have HP' := Lib.hid (HP.out q rfl)
      clear HP
      obtain ⟨r, ps, e1⟩ := q
      unfold GetPost at HG
      dsimp only at HG HY HN HP'
      by_cases he : e1 = 0
      · have HO := Lib.hid (HY.out he)
        subst he
        clear HY HN
        go_wp2_with fail
        refine (HG _).out.mono ?_
        rintro e w3 ⟨v3, rfl, hown3, hb3⟩
        obtain ⟨A3, c3, rfl, hnc3, _⟩ := own_slice hown3
        have hs3 := hb3.size
        have Hown' := Lib.hid (own_only hown.out (Only.new (fun _ => False) hb3) (fun _ _ h => h))
        have Hlays' : Hid (OwnLays w.heap.size w3 (L ++ [(A3, c3, ps)])) := by
          intro y hy
          rcases List.mem_append.1 hy with hy | hy
          · exact own_only (hlays.out y hy) (Only.new (fun _ => False) hb3) (fun _ _ h => h)
          · rw [List.mem_singleton] at hy
            subst hy
            exact own_down hown3 hsw
        have Hbw' : Hid (Below w.heap.size w w3) := hbw.out.trans (hb3.mono hsw)
        have hsw3 := Hbw'.out.size
        clear hown3 hb3
        go_wp2_with (at_builtin; refine wpList_push_beside _ rfl _ _ 37 rfl w.heap.size 38 i0 _ 1 24 Try.underlying37 hi hz0 hz1 hz2 rfl (by decide) _ k _ (by rfl) Hown'.out [.slice A3 ps.length c3] (by rfl) rfl (by simp [Value.oneCell']) (by unfold maxLen; omega) (by omega) w Hbw'.out hsw3 ?_; intro v8 w8 hown8 hb8 hg8)
        have Hown8 : Hid (w8.ownsRow w.heap.size 38 1 v8 (k + 1) ((L ++ [(A3, c3, ps)]).map layV)) := by
          show World.ownsRow _ _ _ _ _ _ _
          rw [List.map_append]; exact hown8
        have Hlays8 : Hid (OwnLays w.heap.size w8 (L ++ [(A3, c3, ps)])) := fun y hy => own_beside (Hlays'.out y hy) Hown'.out (by decide) hg8
        have Hb8 := Lib.hid hb8
        have HLl : Hid ((L ++ [(A3, c3, ps)]).length = k + 1) := by show _ = _; rw [List.length_append, hLl.out]; rfl
        have HLm : Hid ((L ++ [(A3, c3, ps)]).map (·.2.2) = (segs.take (k + 1)).map Qr.ptsOf) := by show _ = _; rw [List.map_append, hLm.out, HP'.out]; rfl
        clear hown8 hb8 hg8
        go_wp2_with fail
        go_roundw
        case rel => exact ⟨k + 1, L ++ [(A3, c3, ps)], by omega, by go_num, HLl, Hown8, Hlays8, HLm, HO, Hb8⟩
        case measure => simp [intOf]; omega
      · have HO := Lib.hid (HN.out he)
        have hz : (e1 != 0) = true := by simp [he]
        clear HY HN he
        go_wp2_with fail
        refine (HG _).out.mono ?_
        rintro e w3 ⟨v3, rfl, hown3, hb3⟩
        have Hbw' : Hid (Below w.heap.size w w3) := hbw.out.trans (hb3.mono hsw)
        clear hown3 hb3
        go_wp2_with fail
        go_ret2
        exact ⟨Hbw'.out, .inl ⟨HO.out, rfl⟩⟩
    · have htk : segs.take k = segs := List.take_of_length_le (by omega)
      have hltI : ¬ (k : Int) < (segs.length : Int) := by omega
      rw [htk] at hLm hok
      have hkl : k = segs.length := by omega
      subst hkl
      clear htk
      go_wp2_with fail
      go_ret2
      exact ⟨hbw.out, .inr ⟨hok.out, _, L, rfl, hown.out, hlays.out, hLm.out, hLl.out⟩⟩
end Go.Proofs.Ythdbmgjlegpbaaa
