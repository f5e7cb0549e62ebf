/- Joined texts: ClInts, ClTexts, ClTexts2, SgRise, SumPlain, SumHash. -/
import Derived.Test.YtmnigoibbcigdaaGreatK1
import Derived.Test.YtmnigoibbcigdaaGreatK2
import Derived.Test.YtmnigoibbcigdaaGreatK4
import Derived.Test.YtmnigoibbcigdaaGreatK7
import Derived.Test.YtmnigoibbcigdaaGreatRows
import Derived.Deep.LoopGhost
import Derived.Laws.BitsAllLaws
import Derived.Laws.BitsLemmas
import Derived.IntWalk
/- The walks through Ints and GetInts of column and of its reference. -/
namespace Go.Proofs.YtmnigoibbcigdaaGreat
open Go.RowKit
set_option linter.unusedVariables false

theorem info_int : (Tryz.prog.info? 3).map (fun i => (i.zero, i.size, i.bytes)) = some (some (.int .i64 0), 1, 8) := by kernel_rfl
theorem map_cell {α : Type} {w wr : World} {B b off k : Nat} {xs : List α} {V : α → Value} (hlt : k < xs.length) (hc : ∀ j u, (xs.map V)[j]? = some u → w.cell? ⟨b, off + j, none⟩ = some u) (hk : ∀ p : Addr, p.block < B → wr.cell? p = w.cell? p) (hb : b < B) : wr.cell? ⟨b, off + k, none⟩ = some (V xs[k]) := by
  rw [hk ⟨b, _, none⟩ hb]; exact hc k _ (by simp [hlt])
theorem intsB_no {xs : List Int} {k : Nat} (hk : k < xs.length) (h : Pt.smallB xs[k] = false) : Cl.intsB xs = ⟨#[]⟩ := by
  unfold Cl.intsB
  rw [if_neg]
  rw [List.all_eq_true]
  intro e
  have := e xs[k] (List.getElem_mem _)
  rw [h] at this; cases this
theorem all_step {xs : List Int} {k : Nat} (hk : k < xs.length) (ha : (xs.take k).all Pt.smallB = true) (h : Pt.smallB xs[k] = true) : (xs.take (k + 1)).all Pt.smallB = true := by
  rw [List.take_succ_eq_append_getElem hk, List.all_append, ha]; simp [h]
theorem intsD_step {xs : List Int} {k : Nat} {l : List UInt8} {last : Int} (hk : k < xs.length) (h : Cl.intsD 0 xs = l ++ Cl.intsD last (xs.drop k)) : Cl.intsD 0 xs = (l ++ Wr.putL (xs[k] - last)) ++ Cl.intsD xs[k] (xs.drop (k + 1)) := by
  rw [h, List.drop_eq_getElem_cons hk, Cl.intsD]; simp
theorem intsB_done {xs : List Int} {k : Nat} {l : List UInt8} {last : Int} (hk : ¬ k < xs.length) (ha : (xs.take k).all Pt.smallB = true) (h : Cl.intsD 0 xs = l ++ Cl.intsD last (xs.drop k)) : Cl.intsB xs = ⟨l.toArray⟩ := by
  rw [List.take_of_length_le (by omega)] at ha
  unfold Cl.intsB
  rw [if_pos ha, h, List.drop_eq_nil_of_le (by omega), Cl.intsD]; simp

set_option maxRecDepth 100000 in
set_option maxHeartbeats 1000000 in
theorem ints_any (A : Option Addr) (c : Nat) (xs : List Int) (w : World) (B : Nat) (hr : Reads w B 1 A xs.length (xs.map (Value.int .i64))) (hB : B ≤ w.heap.size) (hn : xs.length * 8 ≤ 140737488355328) (hwf : ∀ x ∈ xs, -9223372036854775808 ≤ x ∧ x ≤ 9223372036854775807) :
    Calls Tryz.prog 70 #[.slice A xs.length c] w fun e w' => e = .returned (.string (Cl.intsB xs)) ∧ Below w.heap.size w w' := by
  have HRd := Lib.hid hr
  have HW := Lib.hid hwf
  have HD0 : ∀ k (hk : k < xs.length), Pt.smallB xs[k] = false → Cl.intsB xs = ⟨#[]⟩ := fun k hk h => intsB_no hk h
  have HE0 : ∀ (k : Nat) (l : List UInt8) (last : Int), ¬ k < xs.length → (xs.take k).all Pt.smallB = true → Cl.intsD 0 xs = l ++ Cl.intsD last (xs.drop k) → Cl.intsB xs = ⟨l.toArray⟩ := fun k l last h1 h2 h3 => intsB_done h1 h2 h3
  have HD := Lib.hid HD0
  have HE := Lib.hid HE0
  clear hr hwf HD0 HE0
  generalize Cl.intsB xs = res at *
  go_enter Tryz.func70, Tryz.ntmps70
  go_wp2_with fail
  have hbn := bld_new w
  have hba : Below w.heap.size w (w.alloc (.cells #[.pointer none, .slice none 0 0] 84)) := (Below.refl _ _).alloc (Nat.le_refl _) _
  have Hbn := Lib.hid hbn
  have Hba := Lib.hid hba
  clear hbn hba
  generalize w.alloc (.cells #[.pointer none, .slice none 0 0] 84) = w2 at *
  generalize hbe : w.heap.size = b at *
  have Hbe := Lib.hid hbe
  clear hbe
  go_loopw [4, 6, 9] (fun v _ i wr => ∃ (k : Nat) (l : List UInt8) (last : Int), k ≤ xs.length ∧ i = .int .i64 (k : Int) ∧ v = .int .i64 last ∧ (-2147483648 ≤ last ∧ last ≤ 2147483647) ∧ Hid ((xs.take k).all Pt.smallB = true) ∧ Hid (Cl.intsD 0 xs = l ++ Cl.intsD last (xs.drop k)) ∧ l.length ≤ 5 * k ∧ Hid (Bld b b (Lib.byteCells l) wr) ∧ Hid (Below b w wr)) (fun _ _ i _ => xs.length - (intOf i).toNat)
  case atStart => exact ⟨0, [], 0, Nat.zero_le _, rfl, rfl, by omega, Lib.hid (by simp), Lib.hid (by simp), by simp, Hbn, Hba⟩
  case round =>
    obtain ⟨k, l, last, hk, rfl, rfl, hlast, hall, hl, hll, hBl, hbl⟩ := hrel
    by_cases hlt : k < xs.length
    · obtain ⟨bb, off, rfl, hbb, hc⟩ := HRd.out.2 (by omega)
      have hcell := map_cell (wr := wr) hlt hc (fun p hp => hbl.out.cell (p := p) (by omega)) hbb
      have hx := HW.out xs[k] (List.getElem_mem _)
      have HS := fun W => Lib.hid (small_any xs[k] W hx)
      clear hc
      cases hs : Pt.smallB xs[k]
      · have HR := Lib.hid (HD.out k hlt hs)
        rw [hs] at HS
        clear hs HD HE
        go_wp2_with fail
        refine (HS _).out.mono ?_
        rintro e w' ⟨rfl, rfl⟩
        go_wp2_with fail
        go_ret
        exact ⟨ret_str HR.out.symm, by rw [Hbe.out]; exact hbl.out⟩
      · have hsm := (Pt.smallB_iff _).1 hs
        have HA := Lib.hid (all_step hlt hall.out hs)
        have HI := Lib.hid (intsD_step hlt hl.out)
        have h5 := Cl.putL_five (xs[k] - last) (by omega) (by omega)
        have hps := Wr.putB_size (xs[k] - last)
        have hp5 : (Wr.putB (xs[k] - last)).size ≤ 5 := by omega
        have Hpl := Lib.hid (Wr.putB_list (xs[k] - last))
        rw [hs] at HS
        have HP := fun W => Lib.hid (putNum_any (xs[k] - last) W (by omega))
        have hltb := (bld_lt hBl.out).2
        clear hs hall hl hps
        generalize xs[k] = x at *
        go_wp2_with fail
        refine (HS _).out.mono ?_
        rintro e w' ⟨rfl, rfl⟩
        go_wp2_with fail
        refine (HP _).out.mono ?_
        rintro e w3 ⟨rfl, hb3⟩
        have Hb3 := Lib.hid hb3
        have hs3 := hb3.size
        clear hb3
        generalize Wr.putB (x - last) = PB at *
        go_wp2_with fail
        refine (write_any b b l PB w3 (bld_below hBl.out Hb3.out) (by omega) (by omega)).mono ?_
        rintro e w4 ⟨rfl, hB4, hb4, _⟩
        rw [Hpl.out] at hB4
        have HB4 := Lib.hid hB4
        have Hb4 : Hid (Below b w w4) := hbl.out.trans ((Hb3.out.mono (by omega)).trans hb4)
        have hl2 : (l ++ Wr.putL (x - last)).length ≤ 5 * (k + 1) := by rw [List.length_append]; omega
        clear hB4 hb4
        generalize l ++ Wr.putL (x - last) = l2 at *
        go_wp2_with fail
        go_roundw
        case rel => exact ⟨k + 1, l2, x, by omega, by go_num, rfl, hsm, HA, HI, hl2, HB4, Hb4⟩
        case measure => simp [intOf]; omega
    · have HR := Lib.hid (HE.out k l last hlt hall.out hl.out)
      have hltb := (bld_lt hBl.out).2
      clear HD HE hall hl
      go_wp2_with fail
      refine (bstring_any b b l wr hBl.out (by omega)).mono ?_
      rintro e w9 ⟨rfl, _, hb9, _⟩
      go_wp2_with fail
      go_ret
      exact ⟨ret_str HR.out.symm, by rw [Hbe.out]; exact hbl.out.trans hb9⟩

set_option maxRecDepth 100000 in
set_option maxHeartbeats 1000000 in
theorem rints_any (A : Option Addr) (c : Nat) (xs : List Int) (w : World) (B : Nat) (hr : Reads w B 1 A xs.length (xs.map (Value.int .i64))) (hB : B ≤ w.heap.size) (hn : xs.length * 8 ≤ 140737488355328) (hwf : ∀ x ∈ xs, -9223372036854775808 ≤ x ∧ x ≤ 9223372036854775807) :
    Calls Tryz.prog 80 #[.slice A xs.length c] w fun e w' => e = .returned (.string (Cl.intsB xs)) ∧ Below w.heap.size w w' := by
  have HRd := Lib.hid hr
  have HW := Lib.hid hwf
  have HD0 : ∀ k (hk : k < xs.length), Pt.smallB xs[k] = false → Cl.intsB xs = ⟨#[]⟩ := fun k hk h => intsB_no hk h
  have HE0 : ∀ (k : Nat) (l : List UInt8) (last : Int), ¬ k < xs.length → (xs.take k).all Pt.smallB = true → Cl.intsD 0 xs = l ++ Cl.intsD last (xs.drop k) → Cl.intsB xs = ⟨l.toArray⟩ := fun k l last h1 h2 h3 => intsB_done h1 h2 h3
  have HD := Lib.hid HD0
  have HE := Lib.hid HE0
  clear hr hwf HD0 HE0
  generalize Cl.intsB xs = res at *
  go_enter Tryz.func80, Tryz.ntmps80
  go_wp2_with fail
  go_loopw [3, 4, 5] (fun s v i wr => ∃ (k : Nat) (S : ByteArray) (last : Int), k ≤ xs.length ∧ i = .int .i64 (k : Int) ∧ s = .string S ∧ v = .int .i64 last ∧ (-2147483648 ≤ last ∧ last ≤ 2147483647) ∧ Hid ((xs.take k).all Pt.smallB = true) ∧ Hid (Cl.intsD 0 xs = S.data.toList ++ Cl.intsD last (xs.drop k)) ∧ S.size ≤ 5 * k ∧ Hid (Below w.heap.size w wr)) (fun _ _ i _ => xs.length - (intOf i).toNat)
  case atStart => exact ⟨0, ⟨#[]⟩, 0, Nat.zero_le _, rfl, rfl, rfl, by omega, Lib.hid (by simp), Lib.hid (by simp), by decide, Lib.hid (Below.refl _ _)⟩
  case round =>
    obtain ⟨k, S, last, hk, rfl, rfl, rfl, hlast, hall, hl, hll, hbl⟩ := hrel
    by_cases hlt : k < xs.length
    · obtain ⟨bb, off, rfl, hbb, hc⟩ := HRd.out.2 (by omega)
      have hcell := map_cell (wr := wr) hlt hc (fun p hp => hbl.out.cell (p := p) (by omega)) hbb
      have hx := HW.out xs[k] (List.getElem_mem _)
      have HS := fun W => Lib.hid (rsmall_any xs[k] W)
      cases hs : Pt.smallB xs[k]
      · have HR := Lib.hid (HD.out k hlt hs)
        rw [hs] at HS
        clear hs HD HE hc
        go_wp2_with fail
        refine (HS _).out.mono ?_
        rintro e w' ⟨rfl, rfl⟩
        go_wp2_with fail
        go_ret
        exact ⟨ret_str HR.out.symm, hbl.out⟩
      · have hsm := (Pt.smallB_iff _).1 hs
        have HA := Lib.hid (all_step hlt hall.out hs)
        have HI := Lib.hid (intsD_step hlt hl.out)
        have h5 := Cl.putL_five (xs[k] - last) (by omega) (by omega)
        have hps := Wr.putB_size (xs[k] - last)
        have hp5 : (Wr.putB (xs[k] - last)).size ≤ 5 := by omega
        have Hpl := Lib.hid (Wr.putB_list (xs[k] - last))
        have hcw := fun (W : World) (hb : Below wr.heap.size wr W) => map_cell (wr := W) hlt hc (fun p hp => (hb.cell (p := p) (by have := hbl.out.size; omega)).trans (hbl.out.cell (p := p) (by omega))) hbb
        have Hcw := Lib.hid hcw
        rw [hs] at HS
        have HP := fun W => Lib.hid (rnum_any (xs[k] - last) W (by omega))
        clear hs hall hl hps hc hcw
        generalize xs[k] = x at *
        go_wp2_with fail
        refine (HS _).out.mono ?_
        rintro e w' ⟨rfl, rfl⟩
        go_wp2_with fail
        refine (HP _).out.mono ?_
        rintro e w3 ⟨rfl, hb3⟩
        have hc3 := Hcw.out w3 hb3
        have Hb3 : Hid (Below w.heap.size w w3) := hbl.out.trans (hb3.mono hbl.out.size)
        have HS2 : Hid (Cl.intsD 0 xs = (S ++ Wr.putB (x - last)).data.toList ++ Cl.intsD x (xs.drop (k + 1))) := by
          show _ = _
          rw [Wr.append_list, Hpl.out]; exact HI.out
        have hS2 : (S ++ Wr.putB (x - last)).size ≤ 5 * (k + 1) := by rw [ByteArray.size_append]; omega
        clear hb3
        have hq : ¬ 9223372036854775807 < S.size + (Wr.putB (x - last)).size := by omega
        go_wp2_with fail
        generalize S ++ Wr.putB (x - last) = S2 at *
        go_roundw
        case rel => exact ⟨k + 1, S2, x, by omega, by go_num, rfl, rfl, hsm, HA, HS2, hS2, Hb3⟩
        case measure => simp [intOf]; omega
    · have HR := Lib.hid (HE.out k S.data.toList last hlt hall.out hl.out)
      clear HD HE hall hl
      go_wp2_with fail
      go_ret
      exact ⟨ret_str (by rw [HR.out]), hbl.out⟩

theorem getInts_no {s : ByteArray} {a many : Int} (h : many < 0 ∨ 65536 < many ∨ a < 0 ∨ (s.size : Int) < a) : Cl.getInts s a many = ([], 0, 1200) := by
  unfold Cl.getInts; rw [if_pos h]
theorem getInts_none {s : ByteArray} {a : Int} {n : Nat} (h : Cl.goInts s.data.toList n 0 a = none) : Cl.getInts s a (n : Int) = ([], 0, 1200) := by
  unfold Cl.getInts
  split
  · rfl
  · rw [Int.toNat_natCast, h]
theorem getInts_some {s : ByteArray} {a : Int} {n : Nat} {r : List Int × Int} (hn : n ≤ 65536) (ha : 0 ≤ a ∧ a ≤ (s.size : Int)) (h : Cl.goInts s.data.toList n 0 a = some r) : Cl.getInts s a (n : Int) = (r.1, r.2, 0) := by
  unfold Cl.getInts
  rw [if_neg (by omega), Int.toNat_natCast, h]
theorem go_step {l : List UInt8} {n k : Nat} {a0 last a d to : Int} {out : List Int} (hk : k < n) (hrel : Cl.goInts l n 0 a0 = (Cl.goInts l (n - k) last a).map fun r => (out ++ r.1, r.2)) (h : Wr.getN l a = (d, to, 0)) (hs : Pt.smallB (last + d) = true) :
    Cl.goInts l n 0 a0 = (Cl.goInts l (n - (k + 1)) (last + d) to).map fun r => ((out ++ [last + d]) ++ r.1, r.2) := by
  rw [hrel, show n - k = (n - (k + 1)) + 1 from by omega, Cl.goInts_more l _ last a d to h hs, Option.map_map]
  congr 1
  funext r
  simp
theorem go_stop {l : List UInt8} {n k : Nat} {a0 last a : Int} {out : List Int} (hk : k < n) (hrel : Cl.goInts l n 0 a0 = (Cl.goInts l (n - k) last a).map fun r => (out ++ r.1, r.2)) (h : (Wr.getN l a).2.2 ≠ 0 ∨ Pt.smallB (last + (Wr.getN l a).1) = false) : Cl.goInts l n 0 a0 = none := by
  rw [hrel, show n - k = (n - (k + 1)) + 1 from by omega, Cl.goInts_stop l _ last a h]; rfl
theorem go_done {l : List UInt8} {n k : Nat} {a0 last a : Int} {out : List Int} (hk : n - k = 0) (hrel : Cl.goInts l n 0 a0 = (Cl.goInts l (n - k) last a).map fun r => (out ++ r.1, r.2)) : Cl.goInts l n 0 a0 = some (out, a) := by
  rw [hrel, hk, Cl.goInts]; simp
theorem getN_bd' (s : ByteArray) (a : Int) (hs : s.size ≤ 4611686018427387904) : (-9223372036854775808 ≤ (Wr.getN s.data.toList a).2.1 ∧ (Wr.getN s.data.toList a).2.1 ≤ 9223372036854775807) ∧ (-9007199254740992 ≤ (Wr.getN s.data.toList a).1 ∧ (Wr.getN s.data.toList a).1 ≤ 9007199254740992) := by
  rcases Wr.getN_cases s.data.toList a with ⟨e, hg, he⟩ | ⟨x, b, k, ha, hg, hn, _, hle, _⟩
  · rw [hg]; simp
  · rw [Wr.len_list] at hle
    have := (Wr.isNum_iff x).1 hn
    rw [hg]; exact ⟨⟨by simp; omega, by simp; omega⟩, ⟨by simp; omega, by simp; omega⟩⟩
def IntsPost (w : World) (r : List Int × Int × Int) (e : Ending) (w' : World) : Prop :=
  ∃ v, e = .returned (.tuple #[v, .int .i64 r.2.1, .int .i64 r.2.2]) ∧ w'.ownsRow w.heap.size 3 1 v r.1.length (r.1.map (Value.int .i64)) ∧ Below w.heap.size w w'

end Go.Proofs.YtmnigoibbcigdaaGreat
/- The walk through column.Texts. -/
namespace Go.Proofs.YtmnigoibbcigdaaGreat
open Go.RowKit
set_option linter.unusedVariables false

theorem info_string : (Tryz.prog.info? 9).map (fun i => (i.zero, i.size, i.bytes)) = some (some (.string ⟨#[]⟩), 1, 16) := by kernel_rfl
/-- a builder beside a row of another type that is pushed to -/
theorem bld_push {B b : Nat} {bs : List Value} {w w' : World} (h : Bld B b bs w) {base : Nat} {T : TypeId} {size n : Nat} {v : Value} {xs : List Value} (hown : w.ownsRow base T size v n xs) (ho : Only (fun k => v.ownBlock = some k) w w') (h1 : T ≠ 84) (h2 : T ≠ 5) : Bld B b bs w' := by
  have hne : ∀ g cs t fz, w.heap[g]? = some (.cells cs t fz) → T ≠ t → v.ownBlock ≠ some g := by
    intro g cs t fz hg hT e
    rcases hown.2 with ⟨rfl, _⟩ | ⟨g', cap, cur, rfl, _, hh, _⟩
    · simp [Value.ownBlock] at e
    · have : g' = g := by simpa [Value.ownBlock] using e
      subst this
      rw [hh] at hg
      injection hg with hg
      injection hg with _ ht
      exact hT ht
  have up : ∀ p, Lib.BuilderAtF 84 5 B b p bs w → Lib.BuilderAtF 84 5 B b p bs w' := by
    rintro p hh
    have hlt := hh.lt
    obtain ⟨e1, v', e2, e3, e4⟩ := hh
    refine ⟨e1, v', (ho.block b hlt (hne b _ _ _ e2 h1)).trans e2, ⟨e3.1, ?_⟩, e4⟩
    rcases e3.2 with h0 | ⟨g, cap, cur, fz, q1, q2, q3, q4⟩
    · exact .inl h0
    · exact .inr ⟨g, cap, cur, fz, q1, q2, (ho.block g (Array.getElem?_eq_some_iff.1 q3).1 (hne g _ _ _ q3 h2)).trans q3, q4⟩
  rcases h with h | h
  · exact .inl (up _ h)
  · exact .inr (up _ h)
theorem textsB_no {xs : List ByteArray} {k : Nat} (hk : k < xs.length) (h : ¬ xs[k].size ≤ 12) : Cl.textsB xs = ⟨#[]⟩ := by
  unfold Cl.textsB Cl.shortB
  rw [if_neg]
  rw [List.all_eq_true]
  intro e
  exact h (of_decide_eq_true (e xs[k] (List.getElem_mem _)))
/-- what has been done with the first k texts -/
def TxRel (xs : List ByteArray) (k : Nat) (ws : List ByteArray) (ks : List Nat) : Prop := (Cl.txGo [] xs).1 = (Cl.txGo ws (xs.drop k)).1 ∧ (Cl.txGo [] xs).2 = ks ++ (Cl.txGo ws (xs.drop k)).2 ∧ (∀ x ∈ xs.take k, x.size ≤ 12)
theorem tx_start (xs : List ByteArray) : TxRel xs 0 [] [] := ⟨by simp, by simp, by simp⟩
theorem tx_found {xs ws : List ByteArray} {k : Nat} {ks : List Nat} (h : TxRel xs k ws ks) (hk : k < xs.length) (hx : xs[k].size ≤ 12) {j : Nat} (hj : j < ws.length) (he : ws[j] = xs[k]) (hf : ∀ i (hi : i < j), ws[i]'(by omega) ≠ xs[k]) : TxRel xs (k + 1) ws (ks ++ [j]) := by
  have hi := Cl.idx_first hj he hf
  obtain ⟨h1, h2, h3⟩ := h
  rw [List.drop_eq_getElem_cons hk, Cl.txGo, hi, if_pos hj] at h1 h2
  refine ⟨h1, by rw [h2]; simp, fun x hx' => ?_⟩
  rw [List.take_succ_eq_append_getElem hk] at hx'
  rcases List.mem_append.1 hx' with h | h
  · exact h3 x h
  · simp at h; subst h; exact hx
theorem tx_new {xs ws : List ByteArray} {k : Nat} {ks : List Nat} (h : TxRel xs k ws ks) (hk : k < xs.length) (hx : xs[k].size ≤ 12) (hf : ∀ i (hi : i < ws.length), ws[i] ≠ xs[k]) : TxRel xs (k + 1) (ws ++ [xs[k]]) (ks ++ [ws.length]) := by
  have hi := Cl.idx_none hf
  obtain ⟨h1, h2, h3⟩ := h
  rw [List.drop_eq_getElem_cons hk, Cl.txGo, hi, if_neg (Nat.lt_irrefl _)] at h1 h2
  refine ⟨h1, by rw [h2]; simp, fun x hx' => ?_⟩
  rw [List.take_succ_eq_append_getElem hk] at hx'
  rcases List.mem_append.1 hx' with h | h
  · exact h3 x h
  · simp at h; subst h; exact hx
theorem tx_done {xs ws : List ByteArray} {k : Nat} {ks : List Nat} (h : TxRel xs k ws ks) (hk : ¬ k < xs.length) : Cl.textsB xs = ⟨(Wr.putL (ws.length : Int) ++ Cl.wordsL ws ++ Cl.placesL ks).toArray⟩ ∧ ∀ w ∈ ws, w.size ≤ 12 := by
  obtain ⟨h1, h2, h3⟩ := h
  rw [List.drop_eq_nil_of_le (by omega), Cl.txGo] at h1 h2
  rw [List.take_of_length_le (by omega)] at h3
  have hs : Cl.shortB xs = true := by unfold Cl.shortB; rw [List.all_eq_true]; exact fun x hx => decide_eq_true (h3 x hx)
  refine ⟨?_, ?_⟩
  · unfold Cl.textsB
    rw [if_pos hs]
    unfold Cl.textsL
    rw [h1, h2]; simp
  · have h1' : (Cl.txGo [] xs).1 = ws := h1
    rw [← h1']
    exact Cl.tx_short [] xs (by simp) h3
theorem places_snoc (ks : List Nat) (j : Nat) : Cl.placesL (ks ++ [j]) = Cl.placesL ks ++ Wr.putL (j : Int) := by simp [Cl.placesL]
theorem words_take (ws : List ByteArray) (j : Nat) (h : j < ws.length) : Cl.wordsL (ws.take (j + 1)) = Cl.wordsL (ws.take j) ++ (Wr.textB ws[j]).data.toList := by
  unfold Cl.wordsL; rw [List.take_succ_eq_append_getElem h, List.flatMap_append]; simp
theorem textB_13 {s : ByteArray} (h : s.size ≤ 12) : (Wr.textB s).size ≤ 13 := by
  unfold Wr.textB; rw [ByteArray.size_append, Wr.putB_size, Cl.putL_one _ (by omega) (by omega)]; omega
theorem two_strings (a b : List UInt8) : (⟨a.toArray⟩ : ByteArray) ++ ⟨b.toArray⟩ = ⟨(a ++ b).toArray⟩ := by
  apply Wr.ext_list; rw [Wr.append_list]
theorem str_eq_of {a b : ByteArray} (h : a = b) : (a.toList == b.toList) = true := by subst h; simp
theorem str_ne_of {a b : ByteArray} (h : a ≠ b) : (a.toList == b.toList) = false := by
  rw [beq_eq_false_iff_ne, Lib.toList_data, Lib.toList_data]
  exact fun e => h (Wr.ext_list e)

set_option maxRecDepth 100000 in
set_option maxHeartbeats 2000000 in
theorem texts_any (A : Option Addr) (c : Nat) (xs : List ByteArray) (w : World) (B : Nat) (hr : Reads w B 1 A xs.length (xs.map Value.string)) (hB : B ≤ w.heap.size) (hn : xs.length * 16 ≤ 140737488355328) :
    Calls Tryz.prog 69 #[.slice A xs.length c] w fun e w' => e = .returned (.string (Cl.textsB xs)) ∧ Below w.heap.size w w' := by
  obtain ⟨i0, hi, hz0, hz1, hz2⟩ := info_parts info_string
  have HRd := Lib.hid hr
  have HD := Lib.hid (fun k (hk : k < xs.length) h => textsB_no hk h)
  have HE := Lib.hid (fun ws k ks h h' => @tx_done xs ws k ks h h')
  clear hr
  generalize Cl.textsB xs = res at *
  go_enter Tryz.func69, Tryz.ntmps69
  go_wp2_with fail
  go_step3
  go_wp2_with fail
  go_step3
  go_wp2_with fail
  have hbn := bld_new w
  have hba : Below w.heap.size w (w.alloc (.cells #[.pointer none, .slice none 0 0] 84)) := (Below.refl _ _).alloc (Nat.le_refl _) _
  have Hbn := Lib.hid hbn
  have Hba := Lib.hid hba
  clear hbn hba
  generalize w.alloc (.cells #[.pointer none, .slice none 0 0] 84) = w2 at *
  generalize hbe : w.heap.size = b at *
  have Hbe := Lib.hid hbe
  clear hbe
  go_loopg [3, 6, 7, 8, 14] xs.length (fun gg vw _ _ _ i wr => ∃ (k : Nat) (ws : List ByteArray) (ks : List Nat), k ≤ xs.length ∧ xs.length - k ≤ gg ∧ i = .int .i64 (k : Int) ∧ Hid (TxRel xs k ws ks) ∧ ws.length ≤ k ∧ (Cl.placesL ks).length ≤ 7 * k ∧ Hid (wr.ownsRow (b + 1) 9 1 vw ws.length (ws.map Value.string)) ∧ Hid (Bld b b (Lib.byteCells (Cl.placesL ks)) wr) ∧ Hid (Below b w wr))
  case atStart => exact ⟨0, [], [], Nat.zero_le _, by omega, rfl, Lib.hid (tx_start xs), by simp, by simp [Cl.placesL], Lib.hid (own_nil _ _ _ _), Hbn, Hba⟩
  case round =>
    obtain ⟨k, ws, ks, hk, hgg, rfl, hrel, hwl, hll, hown, hBl, hbl⟩ := hrel
    obtain ⟨Wo, hWo⟩ : ∃ Wo, Wo = wr := ⟨_, rfl⟩
    subst hWo
    have hltb := (bld_lt hBl.out).2
    by_cases hlt : k < xs.length
    · obtain ⟨bb, off, rfl, hbb, hc⟩ := HRd.out.2 (by omega)
      have hcell := map_cell (wr := Wo) hlt hc (fun p hp => hbl.out.cell (p := p) (by omega)) hbb
      clear hc
      by_cases h12 : xs[k].size ≤ 12
      · obtain ⟨Aw, cw, rfl, hnc, hrw⟩ := own_slice hown.out
        have HF := Lib.hid (fun j (hj : j < ws.length) he hf => tx_found hrel.out hlt h12 (j := j) hj he hf)
        have HN := Lib.hid (fun hf => tx_new hrel.out hlt h12 hf)
        have Hrw := Lib.hid hrw
        clear hrw hrel HD HE
        generalize hxk : xs[k] = x at *
        clear hxk
        go_wp2_with fail
        go_loopg [7, 8, 23] ws.length (fun g2 _ _ i w' => ∃ j : Nat, j ≤ ws.length ∧ ws.length - j ≤ g2 ∧ i = .int .i64 (j : Int) ∧ Hid (∀ i (hi : i < ws.length), i < j → ws[i] ≠ x) ∧ Wo = w')
        case atStart => exact ⟨0, Nat.zero_le _, by omega, rfl, Lib.hid (fun i hi h => absurd h (Nat.not_lt_zero _)), rfl⟩
        case round =>
          obtain ⟨j, hj, hg2, rfl, hfr, rfl⟩ := hrel
          by_cases hj2 : j < ws.length
          · obtain ⟨bw, ow, rfl, hbw, hcw⟩ := Hrw.out.2 (by omega)
            have hcellw := map_cell (wr := Wo) (B := Wo.heap.size) hj2 hcw (fun p hp => rfl) hbw
            clear hcw
            by_cases he : ws[j] = x
            · have hT := Lib.hid (HF.out j hj2 he (fun i hi => hfr.out i (by omega) hi))
              have hz := str_eq_of he
              have hj7 := Cl.putL_seven j (by omega)
              have hps := Wr.putB_size (j : Int)
              have hp7 : (Wr.putB (j : Int)).size ≤ 7 := by omega
              have Hpl := Lib.hid (Wr.putB_list (j : Int))
              have Hsn := Lib.hid (places_snoc ks j)
              have HP := fun W => Lib.hid (putNum_any (j : Int) W (by omega))
              clear HF HN hfr he hps
              go_wp2_with fail
              refine (HP _).out.mono ?_
              rintro e w3 ⟨rfl, hb3⟩
              have Hb3 := Lib.hid hb3
              have hs3 := hb3.size
              clear hb3
              generalize Wr.putB (j : Int) = PB at *
              go_wp2_with fail
              refine (write_any b b (Cl.placesL ks) PB w3 (bld_below hBl.out Hb3.out) (by omega) (by omega)).mono ?_
              rintro e w4 ⟨rfl, hB4, hb4, hk4⟩
              rw [Hpl.out, ← Hsn.out] at hB4
              have HB4 := Lib.hid hB4
              have Hb4 : Hid (Below b w w4) := hbl.out.trans ((Hb3.out.mono (by omega)).trans hb4)
              have Ho4 := Lib.hid (own_others (own_only hown.out (Only.new (fun _ => False) Hb3.out) (fun _ _ h => h)) hk4 (own_ne_lt hown.out (Nat.lt_succ_self b)) (by decide))
              have hl2 : (Cl.placesL (ks ++ [j])).length ≤ 7 * (k + 1) := by rw [Hsn.out, List.length_append]; omega
              clear hB4 hb4 hk4
              go_wp2_with fail
              go_roundg (xs.length - (k + 1))
              case rel => exact ⟨k + 1, ws, ks ++ [j], by omega, by omega, by go_num, hT, by omega, hl2, Ho4, HB4, Hb4⟩
              case measure => omega
            · have hz := str_ne_of he
              have hF2 : Hid (∀ i (hi : i < ws.length), i < j + 1 → ws[i] ≠ x) := fun i hi h => by
                by_cases e : i = j
                · subst e; exact he
                · exact hfr.out i hi (by omega)
              clear HF HN hfr he
              go_wp2_with fail
              go_roundg (ws.length - (j + 1))
              case rel => exact ⟨j + 1, by omega, by omega, by go_num, hF2, rfl⟩
              case measure => omega
          · have hT := Lib.hid (HN.out (fun i hi => hfr.out i hi (by omega)))
            have hj7 := Cl.putL_seven ws.length (by omega)
            have hps := Wr.putB_size (ws.length : Int)
            have hp7 : (Wr.putB (ws.length : Int)).size ≤ 7 := by omega
            have Hpl := Lib.hid (Wr.putB_list (ws.length : Int))
            have Hsn := Lib.hid (places_snoc ks ws.length)
            have HP := fun W => Lib.hid (putNum_any (ws.length : Int) W (by omega))
            clear HF HN hfr hps
            go_wp2_with fail
            refine (HP _).out.mono ?_
            rintro e w3 ⟨rfl, hb3⟩
            have Hb3 := Lib.hid hb3
            have hs3 := hb3.size
            clear hb3
            generalize Wr.putB (ws.length : Int) = PB at *
            go_wp2_with fail
            refine (write_any b b (Cl.placesL ks) PB w3 (bld_below hBl.out Hb3.out) (by omega) (by omega)).mono ?_
            rintro e w4 ⟨rfl, hB4, hb4, hk4⟩
            rw [Hpl.out, ← Hsn.out] at hB4
            have HB4 := Lib.hid hB4
            have Hb4 : Hid (Below b w w4) := hbl.out.trans ((Hb3.out.mono (by omega)).trans hb4)
            have Ho4 := Lib.hid (own_others (own_only hown.out (Only.new (fun _ => False) Hb3.out) (fun _ _ h => h)) hk4 (own_ne_lt hown.out (Nat.lt_succ_self b)) (by decide))
            have hl2 : (Cl.placesL (ks ++ [ws.length])).length ≤ 7 * (k + 1) := by rw [Hsn.out, List.length_append]; omega
            have hs4 := (bld_lt HB4.out).2
            clear hB4 hb4 hk4
            go_wp2_with (at_builtin; refine wpList_push_only _ rfl _ _ 114 rfl (b + 1) 9 i0 _ 1 16 Tryz.underlying114 hi hz0 hz1 hz2 rfl (by decide) _ ws.length _ (by rfl) Ho4.out [.string x] (by rfl) rfl (by simp [Value.oneCell']) (by unfold maxLen; omega) (by omega) (by omega) ?_; intro v8 w8 hown8 ho8 _)
            have Hown8 : Hid (w8.ownsRow (b + 1) 9 1 v8 (ws ++ [x]).length ((ws ++ [x]).map Value.string)) := by
              show World.ownsRow _ _ _ _ _ _ _
              rw [List.length_append, List.map_append]; exact hown8
            have HB8 := Lib.hid (bld_push HB4.out Ho4.out ho8 (by decide) (by decide))
            have Hb8 : Hid (Below b w w8) := Hb4.out.trans (ho8.below (fun j hj e => own_ne_lt Ho4.out (by omega) e) (by omega))
            have hwl2 : (ws ++ [x]).length ≤ k + 1 := by simp; omega
            clear hown8 ho8
            go_wp2_with fail
            go_roundg (xs.length - (k + 1))
            case rel => exact ⟨k + 1, ws ++ [x], ks ++ [ws.length], by omega, by omega, by go_num, hT, hwl2, hl2, Hown8, HB8, Hb8⟩
            case measure => omega
      · have HR := Lib.hid (HD.out k hlt h12)
        have h12' : 12 < xs[k].size := by omega
        clear HD HE hrel
        generalize xs[k] = x at *
        go_wp2_with fail
        (try rw [Exit.noGoto_ret])
        go_ret
        exact ⟨ret_str HR.out.symm, by rw [Hbe.out]; exact hbl.out⟩
    · have hE := HE.out ws k ks hrel.out hlt
      have HRes := Lib.hid hE.1
      have HSh := Lib.hid hE.2
      obtain ⟨Aw, cw, rfl, hnc, hrw⟩ := own_slice hown.out
      have Hrw := Lib.hid hrw
      clear HD HE hrel hE hrw
      have hp8 := Wr.putL_len (ws.length : Int)
      have hps := Wr.putB_size (ws.length : Int)
      have hp8' : (Wr.putB (ws.length : Int)).size ≤ 8 := by omega
      have Hpl := Lib.hid (Wr.putB_list (ws.length : Int))
      have HP := fun W => Lib.hid (putNum_any (ws.length : Int) W (by omega))
      clear hps
      go_wp2_with fail
      have hbn := bld_new Wo
      have hba : Below Wo.heap.size Wo (Wo.alloc (.cells #[.pointer none, .slice none 0 0] 84)) := (Below.refl _ _).alloc (Nat.le_refl _) _
      have hzz : Wo.heap.size < (Wo.alloc (.cells #[.pointer none, .slice none 0 0] 84)).heap.size := by simp
      have Hbn2 := Lib.hid hbn
      have Hba2 := Lib.hid hba
      clear hbn hba
      generalize Wo.alloc (.cells #[.pointer none, .slice none 0 0] 84) = w5 at *
      generalize hb2e : Wo.heap.size = b2 at *
      have Hb2e := Lib.hid hb2e
      clear hb2e
      refine (HP _).out.mono ?_
      rintro e w6 ⟨rfl, hb6⟩
      have Hb6 := Lib.hid hb6
      have hs6 := hb6.size
      clear hb6
      generalize Wr.putB (ws.length : Int) = PB at *
      go_wp2_with fail
      refine (write_any b2 b2 [] PB w6 (bld_below Hbn2.out Hb6.out) (by simp; omega) (by omega)).mono ?_
      rintro e w7 ⟨rfl, hB7, hb7, _⟩
      rw [Hpl.out, List.nil_append] at hB7
      have HB7 := Lib.hid hB7
      have Hb7 : Hid (Below b2 Wo w7) := Hba2.out.trans ((Hb6.out.mono (by omega)).trans hb7)
      clear hB7 hb7
      go_wp2_with fail
      go_loopw [11, 50] (fun _ i w' => ∃ (j : Nat) (l : List UInt8), j ≤ ws.length ∧ i = .int .i64 (j : Int) ∧ Hid (l = Wr.putL (ws.length : Int) ++ Cl.wordsL (ws.take j)) ∧ l.length ≤ 8 + 13 * j ∧ Hid (Bld b2 b2 (Lib.byteCells l) w') ∧ Hid (Below b2 Wo w')) (fun _ i _ => ws.length - (intOf i).toNat)
      case atStart => exact ⟨0, _, Nat.zero_le _, rfl, Lib.hid (by simp [Cl.wordsL]), by omega, HB7, Hb7⟩
      case round =>
        obtain ⟨j, l, hj, rfl, hl, hl13, hBj, hbj⟩ := hrel
        have hltj := (bld_lt hBj.out).2
        by_cases hj2 : j < ws.length
        · obtain ⟨bw, ow, rfl, hbw, hcw⟩ := Hrw.out.2 (by omega)
          have hcellw := map_cell (wr := wr) (B := b2) hj2 hcw (fun p hp => hbj.out.cell (p := p) hp) hbw
          have hsz := HSh.out ws[j] (List.getElem_mem _)
          have h13 := textB_13 hsz
          have HT := fun W => Lib.hid (putText_any ws[j] W (by omega))
          have Hwt := Lib.hid (words_take ws j hj2)
          clear hcw
          generalize ws[j] = x at *
          go_wp2_with fail
          refine (HT _).out.mono ?_
          rintro e w8 ⟨rfl, hb8⟩
          have Hb8 := Lib.hid hb8
          have hs8 := hb8.size
          clear hb8
          generalize Wr.textB x = TB at *
          go_wp2_with fail
          refine (write_any b2 b2 l TB w8 (bld_below hBj.out Hb8.out) (by omega) (by omega)).mono ?_
          rintro e w9 ⟨rfl, hB9, hb9, _⟩
          have HB9 := Lib.hid hB9
          have Hb9 : Hid (Below b2 Wo w9) := hbj.out.trans ((Hb8.out.mono (by omega)).trans hb9)
          have HL9 : Hid (l ++ TB.data.toList = Wr.putL (ws.length : Int) ++ Cl.wordsL (ws.take (j + 1))) := by
            show _ = _
            rw [Hwt.out, hl.out, List.append_assoc]
          have hl9 : (l ++ TB.data.toList).length ≤ 8 + 13 * (j + 1) := by rw [List.length_append, Wr.len_list]; omega
          clear hB9 hb9
          generalize l ++ TB.data.toList = l2 at *
          go_wp2_with fail
          go_roundw
          case rel => exact ⟨j + 1, l2, by omega, by go_num, HL9, hl9, HB9, Hb9⟩
          case measure => simp [intOf]; omega
        · have hl' : Hid (l = Wr.putL (ws.length : Int) ++ Cl.wordsL ws) := by
            have := hl.out
            rw [List.take_of_length_le (by omega)] at this
            exact this
          have hB' : Hid (Bld b b (Lib.byteCells (Cl.placesL ks)) wr) := bld_below hBl.out (by rw [Hb2e.out]; exact hbj.out)
          go_wp2_with fail
          refine (bstring_any b2 b2 l wr hBj.out (by omega)).mono ?_
          rintro e w10 ⟨rfl, _, hb10, _⟩
          have Hb10 : Hid (Below b2 Wo w10) := hbj.out.trans hb10
          have hs10 := hb10.size
          clear hb10
          go_wp2_with fail
          refine (bstring_any b b (Cl.placesL ks) w10 (bld_below hBl.out (by rw [Hb2e.out]; exact Hb10.out)) (by omega)).mono ?_
          rintro e w11 ⟨rfl, _, hb11, _⟩
          have Hb11 : Hid (Below b w w11) := hbl.out.trans ((Hb10.out.mono (by omega)).trans hb11)
          have Hfin : Hid (res = ⟨l.toArray⟩ ++ ⟨(Cl.placesL ks).toArray⟩) := by
            show _ = _
            rw [HRes.out, two_strings, hl'.out]
          have hq1 : (⟨l.toArray⟩ : ByteArray).size ≤ 140737488355328 := by
            have : (⟨l.toArray⟩ : ByteArray).size = l.length := by rw [← Wr.len_list]
            omega
          have hq2 : (⟨(Cl.placesL ks).toArray⟩ : ByteArray).size ≤ 140737488355328 := by
            have : (⟨(Cl.placesL ks).toArray⟩ : ByteArray).size = (Cl.placesL ks).length := by rw [← Wr.len_list]
            omega
          clear hb11 hl hl' HRes
          generalize (⟨l.toArray⟩ : ByteArray) = S1 at *
          generalize (⟨(Cl.placesL ks).toArray⟩ : ByteArray) = S2 at *
          go_wp2_with fail
          (try rw [Exit.noGoto_ret])
          go_ret
          exact ⟨ret_str Hfin.out.symm, by rw [Hbe.out]; exact Hb11.out⟩
end Go.Proofs.YtmnigoibbcigdaaGreat
/- The walks through place, Contains and the reference's Texts. -/
namespace Go.Proofs.YtmnigoibbcigdaaGreat
open Go.RowKit
set_option linter.unusedVariables false

def Cl.placeI (ws : List ByteArray) (x : ByteArray) : Int := if Cl.idx ws x < ws.length then (Cl.idx ws x : Int) else -1
theorem place_found {ws : List ByteArray} {x : ByteArray} {j : Nat} (hj : j < ws.length) (he : ws[j] = x) (hf : ∀ i (hi : i < ws.length), i < j → ws[i] ≠ x) : Cl.placeI ws x = (j : Int) := by
  have hi := Cl.idx_first hj he (fun i hi => hf i (by omega) hi)
  unfold Cl.placeI; rw [hi, if_pos hj]
theorem place_none {ws : List ByteArray} {x : ByteArray} (hf : ∀ i (hi : i < ws.length), ws[i] ≠ x) : Cl.placeI ws x = -1 := by
  have hi := Cl.idx_none hf
  unfold Cl.placeI; rw [hi, if_neg (Nat.lt_irrefl _)]

set_option maxRecDepth 100000 in
set_option maxHeartbeats 400000 in
theorem place_any (A : Option Addr) (c : Nat) (ws : List ByteArray) (x : ByteArray) (w : World) (B : Nat) (hr : Reads w B 1 A ws.length (ws.map Value.string)) (hn : ws.length ≤ 140737488355328) :
    Calls Tryz.prog 99 #[.slice A ws.length c, .string x] w fun e w' => e = .returned (.int .i64 (Cl.placeI ws x)) ∧ w = w' := by
  have HR := Lib.hid hr
  have HF := Lib.hid (fun j (hj : j < ws.length) he hf => place_found (x := x) hj he hf)
  have HN := Lib.hid (fun hf => place_none (ws := ws) (x := x) hf)
  clear hr
  generalize Cl.placeI ws x = res at *
  go_enter Tryz.func99, Tryz.ntmps99
  go_wp2
  go_loop [5] (fun i => ∃ j : Nat, j ≤ ws.length ∧ i = .int .i64 (j : Int) ∧ Hid (∀ i (hi : i < ws.length), i < j → ws[i] ≠ x)) (fun i => ws.length - (intOf i).toNat)
  case atStart => exact ⟨0, Nat.zero_le _, rfl, Lib.hid (fun i hi h => absurd h (Nat.not_lt_zero _))⟩
  case round =>
    obtain ⟨j, hj, rfl, hfr⟩ := hrel
    by_cases hj2 : j < ws.length
    · obtain ⟨b, off, rfl, hb, hc⟩ := HR.out.2 (by omega)
      have hcell := map_cell (wr := w) (B := B) hj2 hc (fun p hp => rfl) hb
      clear hc
      by_cases he : ws[j] = x
      · have HRes := Lib.hid (HF.out j hj2 he hfr.out)
        have hz : (ws[j].toList == x.toList) = true := str_eq_of he
        clear HF HN hfr he
        go_wp2
        go_ret
        exact ⟨ret_int HRes.out.symm, rfl⟩
      · have hz : (ws[j].toList == x.toList) = false := str_ne_of he
        have hF2 : Hid (∀ i (hi : i < ws.length), i < j + 1 → ws[i] ≠ x) := fun i hi h => by
          by_cases e : i = j
          · subst e; exact he
          · exact hfr.out i hi (by omega)
        clear HF HN hfr he
        go_wp2
        go_round
        case rel => exact ⟨j + 1, by omega, by go_num, hF2⟩
        case measure => simp [intOf]; omega
    · have HRes := Lib.hid (HN.out (fun i hi => hfr.out i hi (by omega)))
      clear HF HN hfr
      go_wp2
      go_ret
      exact ⟨ret_int HRes.out.symm, rfl⟩


theorem place_ge (ws : List ByteArray) (x : ByteArray) : decide (0 ≤ Cl.placeI ws x) = decide (Cl.idx ws x < ws.length) := by
  unfold Cl.placeI
  split
  · rename_i h; simp [h]
  · rename_i h; simp [h]
/-- two rows of different types: a push to the one leaves the other -/
theorem own_push {w w' : World} {base base' : Nat} {T T' : TypeId} {size size' n n' : Nat} {v v' : Value} {xs xs' : List Value} (h : w.ownsRow base T size v n xs) (h' : w.ownsRow base' T' size' v' n' xs') (ho : Only (fun k => v'.ownBlock = some k) w w') (hne : T ≠ T') : w'.ownsRow base T size v n xs :=
  own_only h ho (fun g hg e => by
    rcases own_own_ne h h' hne with k | k
    · rw [k] at hg; cases hg
    · exact k (by rw [hg, e]))
def intsOf (ks : List Nat) : List Value := ks.map fun (k : Nat) => Value.int .i64 (k : Int)

theorem placesL_le (ks : List Nat) (m : Nat) (h : ∀ k ∈ ks, k ≤ 140737488355328) : (Cl.placesL ks).length ≤ 7 * ks.length := by
  induction ks with
  | nil => simp [Cl.placesL]
  | cons k ks ih =>
    have h1 := Cl.putL_seven k (h k (by simp))
    have h2 := ih (fun j hj => h j (by simp [hj]))
    unfold Cl.placesL at h2 ⊢
    rw [List.flatMap_cons, List.length_append, List.length_cons]; omega
theorem putL_len8 (x : Int) : (Wr.putB x).size ≤ 8 := by rw [Wr.putB_size]; exact Wr.putL_len x
theorem places_take (ks : List Nat) (j : Nat) (h : j < ks.length) : Cl.placesL (ks.take (j + 1)) = Cl.placesL (ks.take j) ++ Wr.putL (ks[j] : Int) := by
  rw [List.take_succ_eq_append_getElem h, places_snoc]

set_option maxRecDepth 100000 in
set_option maxHeartbeats 2000000 in
theorem rtexts_any (A : Option Addr) (c : Nat) (xs : List ByteArray) (w : World) (B : Nat) (hr : Reads w B 1 A xs.length (xs.map Value.string)) (hB : B ≤ w.heap.size) (hn : xs.length * 16 ≤ 140737488355328) :
    Calls Tryz.prog 79 #[.slice A xs.length c] w fun e w' => e = .returned (.string (Cl.textsB xs)) ∧ Below w.heap.size w w' := by
  obtain ⟨i0, hi, hz0, hz1, hz2⟩ := info_parts info_string
  obtain ⟨i1, hi', hy0, hy1, hy2⟩ := info_parts info_int
  have HRd := Lib.hid hr
  have HD := Lib.hid (fun k (hk : k < xs.length) h => textsB_no hk h)
  have HE := Lib.hid (fun ws k ks h h' => @tx_done xs ws k ks h h')
  clear hr
  generalize Cl.textsB xs = res at *
  go_enter Tryz.func79, Tryz.ntmps79
  go_wp2_with fail
  go_loopw [3, 4, 5, 6] (fun vw va i _ wr => ∃ (k : Nat) (ws : List ByteArray) (ks : List Nat), k ≤ xs.length ∧ i = .int .i64 (k : Int) ∧ Hid (TxRel xs k ws ks) ∧ ws.length ≤ k ∧ ks.length ≤ k ∧ Hid (∀ j ∈ ks, j ≤ 140737488355328) ∧ Hid (wr.ownsRow w.heap.size 9 1 vw ws.length (ws.map Value.string)) ∧ Hid (wr.ownsRow w.heap.size 3 1 va ks.length (intsOf ks)) ∧ Hid (Below w.heap.size w wr)) (fun _ _ i _ _ => xs.length - (intOf i).toNat)
  case atStart => exact ⟨0, [], [], Nat.zero_le _, rfl, Lib.hid (tx_start xs), by simp, by simp, Lib.hid (by simp), Lib.hid (own_nil _ _ _ _), Lib.hid (own_nil _ _ _ _), Lib.hid (Below.refl _ _)⟩
  case round =>
    obtain ⟨k, ws, ks, hk, rfl, hrel, hwl, hkl, hkb, hown, hownk, hbl⟩ := hrel
    obtain ⟨Wo, hWo⟩ : ∃ Wo, Wo = wr := ⟨_, rfl⟩
    subst hWo
    have hso := hbl.out.size
    by_cases hlt : k < xs.length
    · obtain ⟨bb, off, rfl, hbb, hc⟩ := HRd.out.2 (by omega)
      have hcell := map_cell (wr := Wo) hlt hc (fun p hp => hbl.out.cell (p := p) (by omega)) hbb
      by_cases h12 : xs[k].size ≤ 12
      · obtain ⟨Aw, cw, rfl, hnc, hrw⟩ := own_slice hown.out
        have H1 := Lib.hid (place_any Aw cw ws xs[k] Wo Wo.heap.size hrw (by omega))
        clear HD HE hrw
        have h12' : ¬ 12 < xs[k].size := by omega
        by_cases hfd : ∃ j, ∃ hj : j < ws.length, ws[j] = xs[k] ∧ ∀ i (hi : i < ws.length), i < j → ws[i] ≠ xs[k]
        · obtain ⟨j, hj, he, hf⟩ := hfd
          have HT := Lib.hid (tx_found hrel.out hlt h12 hj he (fun i hi => hf i (by omega) hi))
          rw [place_found hj he hf] at H1
          have Hkb : Hid (∀ i ∈ ks ++ [j], i ≤ 140737488355328) := fun i hi => by
            rcases List.mem_append.1 hi with h | h
            · exact hkb.out i h
            · simp at h; omega
          clear hrel he hf hkb hc
          generalize xs[k] = x at *
          go_wp2_with fail
          refine H1.out.mono ?_
          rintro e w' ⟨rfl, rfl⟩
          go_wp2_with (at_builtin; refine wpList_push_only _ rfl _ _ 115 rfl w.heap.size 3 i1 _ 1 8 Tryz.underlying115 hi' hy0 hy1 hy2 rfl (by decide) _ ks.length _ (by rfl) hownk.out [.int .i64 (j : Int)] (by rfl) rfl (by simp [Value.oneCell']) (by unfold maxLen; omega) (by omega) hso ?_; intro v8 w8 hown8 ho8 _)
          have Hown8 : Hid (w8.ownsRow w.heap.size 3 1 v8 (ks ++ [j]).length (intsOf (ks ++ [j]))) := by
            show World.ownsRow _ _ _ _ _ _ _
            unfold intsOf; rw [List.length_append, List.map_append]; exact hown8
          have Hw8 := Lib.hid (own_push hown.out hownk.out ho8 (by decide))
          have Hb8 : Hid (Below w.heap.size w w8) := hbl.out.trans (ho8.below (fun j hj e => own_ne_lt hownk.out hj e) hso)
          have hk2 : (ks ++ [j]).length ≤ k + 1 := by simp; omega
          clear hown8 ho8
          go_wp2_with fail
          go_roundw
          case rel => exact ⟨k + 1, ws, ks ++ [j], by omega, by go_num, HT, by omega, hk2, Hkb, Hw8, Hown8, Hb8⟩
          case measure => simp [intOf]; omega
        · have hf : ∀ i (hi : i < ws.length), ws[i] ≠ xs[k] := by
            intro i
            induction i using Nat.strongRecOn with
            | ind i ih => intro hi e; exact hfd ⟨i, hi, e, fun j hj hji => ih j hji hj⟩
          have HT := Lib.hid (tx_new hrel.out hlt h12 hf)
          rw [place_none hf] at H1
          have Hkb : Hid (∀ i ∈ ks ++ [ws.length], i ≤ 140737488355328) := fun i hi => by
            rcases List.mem_append.1 hi with h | h
            · exact hkb.out i h
            · simp at h; omega
          clear hrel hf hfd hkb hc
          generalize xs[k] = x at *
          go_wp2_with fail
          refine H1.out.mono ?_
          rintro e w' ⟨rfl, rfl⟩
          go_wp2_with (first
            | (at_builtin; refine wpList_push_only Wo (o := ⟨some 38, _, _, _, _, _⟩) rfl _ _ 114 rfl w.heap.size 9 i0 _ 1 16 Tryz.underlying114 hi hz0 hz1 hz2 rfl (by decide) _ ws.length _ (by rfl) hown.out [.string x] (by rfl) rfl (by simp [Value.oneCell']) (by unfold maxLen; omega) (by omega) hso ?_; intro v7 w7 hown7 ho7 _; have Hown7 : Hid (w7.ownsRow w.heap.size 9 1 v7 (ws ++ [x]).length ((ws ++ [x]).map Value.string)) := (by show World.ownsRow _ _ _ _ _ _ _; rw [List.length_append, List.map_append]; exact hown7); have Hk7 := Lib.hid (own_push hownk.out hown.out ho7 (by decide)); have Hb7 : Hid (Below w.heap.size w w7) := hbl.out.trans (ho7.below (fun j hj e => own_ne_lt hown.out hj e) hso); have hs7 := Hb7.out.size; clear hown7 ho7)
            | (at_builtin; refine wpList_push_only _ (o := ⟨some 42, _, _, _, _, _⟩) rfl _ _ 115 rfl w.heap.size 3 i1 _ 1 8 Tryz.underlying115 hi' hy0 hy1 hy2 rfl (by decide) _ ks.length _ (by rfl) Hk7.out [.int .i64 (ws.length : Int)] (by rfl) rfl (by simp [Value.oneCell']) (by unfold maxLen; omega) (by omega) hs7 ?_; intro v8 w8 hown8 ho8 _))
          have Hown8 : Hid (w8.ownsRow w.heap.size 3 1 v8 (ks ++ [ws.length]).length (intsOf (ks ++ [ws.length]))) := by
            show World.ownsRow _ _ _ _ _ _ _
            unfold intsOf; rw [List.length_append, List.map_append]; exact hown8
          have Hw8 := Lib.hid (own_push Hown7.out Hk7.out ho8 (by decide))
          have Hb8 : Hid (Below w.heap.size w w8) := Hb7.out.trans (ho8.below (fun j hj e => own_ne_lt Hk7.out hj e) hs7)
          have hk2 : (ks ++ [ws.length]).length ≤ k + 1 := by simp; omega
          have hw2 : (ws ++ [x]).length ≤ k + 1 := by simp; omega
          clear hown8 ho8
          go_wp2_with fail
          go_roundw
          case rel => exact ⟨k + 1, ws ++ [x], ks ++ [ws.length], by omega, by go_num, HT, hw2, hk2, Hkb, Hw8, Hown8, Hb8⟩
          case measure => simp [intOf]; omega
      · have HR := Lib.hid (HD.out k hlt h12)
        have h12' : 12 < xs[k].size := by omega
        clear HD HE hrel hc
        generalize xs[k] = x at *
        go_wp2_with fail
        go_ret
        exact ⟨ret_str HR.out.symm, hbl.out⟩
    · have hE := HE.out ws k ks hrel.out hlt
      have HRes := Lib.hid hE.1
      have HSh := Lib.hid hE.2
      obtain ⟨Aw, cw, rfl, hnc, hrw⟩ := own_slice hown.out
      obtain ⟨Ak, ck, rfl, hnk, hrk⟩ := own_slice hownk.out
      have Hrw := Lib.hid hrw
      have Hrk := Lib.hid hrk
      clear HD HE hrel hE hrw hrk
      have hp8' := Wr.putL_len (ws.length : Int)
      have hps := Wr.putB_size (ws.length : Int)
      have hp8 : (Wr.putB (ws.length : Int)).size ≤ 8 := by omega
      have Hpl := Lib.hid (Wr.putB_list (ws.length : Int))
      have HP := fun W => Lib.hid (rnum_any (ws.length : Int) W (by omega))
      clear hps
      go_wp2_with fail
      refine (HP _).out.mono ?_
      rintro e w6 ⟨rfl, hb6⟩
      have Hb6 := Lib.hid hb6
      clear hb6
      generalize Wr.putB (ws.length : Int) = PB at *
      go_wp2_with fail
      go_loopw [7, 8] (fun s i w' => ∃ (j : Nat) (S : ByteArray), j ≤ ws.length ∧ i = .int .i64 (j : Int) ∧ s = .string S ∧ Hid (S.data.toList = Wr.putL (ws.length : Int) ++ Cl.wordsL (ws.take j)) ∧ S.size ≤ 8 + 13 * j ∧ Hid (Below Wo.heap.size Wo w')) (fun _ i _ => ws.length - (intOf i).toNat)
      case atStart => exact ⟨0, PB, Nat.zero_le _, rfl, rfl, Lib.hid (by rw [Hpl.out]; simp [Cl.wordsL]), by omega, Hb6⟩
      case round =>
        obtain ⟨j, S, hj, rfl, rfl, hS, hS13, hbj⟩ := hrel
        obtain ⟨W1, hW1⟩ : ∃ W1, W1 = wr := ⟨_, rfl⟩
        subst hW1
        by_cases hj2 : j < ws.length
        · obtain ⟨bw, ow, rfl, hbw, hcw⟩ := Hrw.out.2 (by omega)
          have hcellw := map_cell (wr := W1) (B := Wo.heap.size) hj2 hcw (fun p hp => hbj.out.cell (p := p) hp) hbw
          have hsz := HSh.out ws[j] (List.getElem_mem _)
          have h13 := textB_13 hsz
          have HT := fun W => Lib.hid (rtext_any ws[j] W (by omega))
          have Hwt := Lib.hid (words_take ws j hj2)
          clear hcw
          generalize ws[j] = x at *
          go_wp2_with fail
          refine (HT _).out.mono ?_
          rintro e w8 ⟨rfl, hb8⟩
          have Hb8 : Hid (Below Wo.heap.size Wo w8) := hbj.out.trans (hb8.mono hbj.out.size)
          clear hb8
          generalize Wr.textB x = TB at *
          have HS2 : Hid ((S ++ TB).data.toList = Wr.putL (ws.length : Int) ++ Cl.wordsL (ws.take (j + 1))) := by
            show _ = _
            rw [Wr.append_list, hS.out, Hwt.out, List.append_assoc]
          have hS2 : (S ++ TB).size ≤ 8 + 13 * (j + 1) := by rw [ByteArray.size_append]; omega
          have hq : ¬ 9223372036854775807 < S.size + TB.size := by omega
          go_wp2_with fail
          generalize S ++ TB = S2 at *
          go_roundw
          case rel => exact ⟨j + 1, S2, by omega, by go_num, rfl, HS2, hS2, Hb8⟩
          case measure => simp [intOf]; omega
        · have hS' : Hid (S.data.toList = Wr.putL (ws.length : Int) ++ Cl.wordsL ws) := by
            have := hS.out
            rw [List.take_of_length_le (by omega)] at this
            exact this
          clear hS
          go_wp2_with fail
          go_loopw [7, 9] (fun s i w' => ∃ (j : Nat) (S2 : ByteArray), j ≤ ks.length ∧ i = .int .i64 (j : Int) ∧ s = .string S2 ∧ Hid (S2.data.toList = S.data.toList ++ Cl.placesL (ks.take j)) ∧ S2.size ≤ 8 + 13 * ws.length + 8 * j ∧ Hid (Below Wo.heap.size Wo w')) (fun _ i _ => ks.length - (intOf i).toNat)
          case atStart => exact ⟨0, S, Nat.zero_le _, rfl, rfl, Lib.hid (by simp [Cl.placesL]), by omega, hbj⟩
          case round =>
            obtain ⟨i, S2, hi2, rfl, rfl, hT, hT8, hbi⟩ := hrel
            by_cases hi3 : i < ks.length
            · obtain ⟨bk, ok, rfl, hbk, hck⟩ := Hrk.out.2 (by omega)
              have hcellk := map_cell (wr := wr) (B := Wo.heap.size) (V := fun k : Nat => Value.int .i64 (k : Int)) hi3 hck (fun p hp => hbi.out.cell (p := p) hp) hbk
              have hkk := hkb.out ks[i] (List.getElem_mem _)
              have HN := fun W => Lib.hid (rnum_any (ks[i] : Int) W (by omega))
              have hn8 := putL_len8 (ks[i] : Int)
              have Hpt := Lib.hid (places_take ks i hi3)
              have Hpl2 := Lib.hid (Wr.putB_list (ks[i] : Int))
              clear hck
              generalize ks[i] = q at *
              go_wp2_with fail
              refine (HN _).out.mono ?_
              rintro e w9 ⟨rfl, hb9⟩
              have Hb9 : Hid (Below Wo.heap.size Wo w9) := hbi.out.trans (hb9.mono hbi.out.size)
              clear hb9
              have HS3 : Hid ((S2 ++ Wr.putB (q : Int)).data.toList = S.data.toList ++ Cl.placesL (ks.take (i + 1))) := by
                show _ = _
                rw [Wr.append_list, hT.out, Hpt.out, Hpl2.out, List.append_assoc]
              have hS3 : (S2 ++ Wr.putB (q : Int)).size ≤ 8 + 13 * ws.length + 8 * (i + 1) := by rw [ByteArray.size_append]; omega
              have hq : ¬ 9223372036854775807 < S2.size + (Wr.putB (q : Int)).size := by omega
              go_wp2_with fail
              generalize S2 ++ Wr.putB (q : Int) = S3 at *
              go_roundw
              case rel => exact ⟨i + 1, S3, by omega, by go_num, rfl, HS3, hS3, Hb9⟩
              case measure => simp [intOf]; omega
            · have Hfin : Hid (res = S2) := by
                show _ = _
                rw [HRes.out]
                apply Wr.ext_list
                rw [hT.out, hS'.out, List.take_of_length_le (by omega)]
              go_wp2_with fail
              go_ret
              exact ⟨ret_str Hfin.out.symm, hbl.out.trans (hbi.out.mono hso)⟩
end Go.Proofs.YtmnigoibbcigdaaGreat
/- The walk through the reference's rises; three rows beside one another. -/
namespace Go.Proofs.YtmnigoibbcigdaaGreat
open Go.RowKit
set_option linter.unusedVariables false

set_option maxRecDepth 100000 in
set_option maxHeartbeats 1600000 in
theorem rrises_any (A : Option Addr) (c : Nat) (ps : List Pt.Point) (w : World) (B : Nat) (hr : Reads w B 3 A ps.length (ps.flatMap pointCells)) (hB : B ≤ w.heap.size) (hn : ps.length ≤ 140737488355328) (hwf : ∀ p ∈ ps, Pt.wf p) (hsz : ∀ p ∈ ps, p.1.size ≤ 9223372036854775807) :
    Calls Tryz.prog 78 #[.slice A ps.length c] w fun e w' => e = .returned (.bool (Sg.riseB ps)) ∧ Below w.heap.size w w' := by
  have HW := Lib.hid hwf
  have HR := Lib.hid hr
  have HZ := Lib.hid hsz
  have HSt := Lib.hid (fun k hk h => @range_stop ps k hk h)
  have HDef : Hid (Sg.riseB ps = (decide (ps.length ≤ 64) && (List.range ps.length).all (Sg.okAt ps))) := rfl
  clear hwf hr hsz
  generalize Sg.riseB ps = res at *
  go_enter Tryz.func78, Tryz.ntmps78
  go_wp2_with fail
  go_loopw [3] (fun i wr => ∃ k : Nat, k ≤ ps.length ∧ i = .int .i64 (k : Int) ∧ Hid ((List.range k).all (Sg.okAt ps) = true) ∧ Hid (Below w.heap.size w wr)) (fun i _ => ps.length - (intOf i).toNat)
  case atStart => exact ⟨0, Nat.zero_le _, rfl, Lib.hid (by simp), Lib.hid (Below.refl _ _)⟩
  case round =>
    obtain ⟨k, hk, rfl, ha, hbw⟩ := hrel
    by_cases hlt : k < ps.length
    · obtain ⟨b, off, rfl, hbl, hc⟩ := HR.out.2 (by omega)
      have hpx := fun x : Aft wr.heap.size wr => pt_cells (wr := x.world) hlt hc (fun p hp => (x.below.cell (p := p) (by have := hbw.out.size; omega)).trans (hbw.out.cell (p := p) (by omega))) hbl
      have hx0 := fun x => (hpx x).1
      have hx1 := fun x => (hpx x).2.1
      have hx2 := fun x => (hpx x).2.2
      clear hpx
      have hM := fun W => Lib.hid (rmay_any ps[k] W (HW.out _ (List.getElem_mem _)))
      have hok := okAt_eq hlt
      have HGo := Lib.hid (fun h => range_step ha.out h)
      have HS := Lib.hid (fun h => HSt.out k hlt h)
      have hsw := hbw.out.size
      have hj0 : (0 : Int) ≤ (k : Int) := by omega
      have hj1 : (k : Int) < (ps.length : Int) := by omega
      cases hm : Pt.mayB ps[k]
      · have HRf : Hid (res = false) := HS.out (by rw [hok, hm]; rfl)
        rw [hm] at hM
        clear hok hm HGo HS ha hc HSt HDef
        generalize hp1 : ps[k].1 = nm at *
        generalize hp2 : ps[k].2.1 = t at *
        generalize hp3 : ps[k].2.2 = v at *
        clear hp1 hp2 hp3
        go_wp2_with fail
        refine wp_region_aft wr.heap.size wr (by kernel_rfl) (by kernel_rfl) (Below.refl _ _) ?_
        repeat (go_big_quiet_step (first | (go_at_call 97; with_reducible exact aft_new (Nat.le_refl _) (Hid.out (hM _)))))
        refine wpQuiet_nil ?_
        rintro _ ⟨x, rfl⟩
        have Hx : Hid (Below w.heap.size w x.world) := hbw.out.trans (x.below.mono hbw.out.size)
        clear hx0 hx1 hx2
        generalize x.world = w3 at *
        go_wp2_with fail
        go_ret
        exact ⟨ret_bool HRf.out.symm, Hx.out⟩
      · rw [hm] at hM hok
        rw [Bool.true_and] at hok
        by_cases hk0 : k = 0
        · have HOk := Lib.hid (HGo.out (by rw [hok, decide_eq_true hk0]; rfl))
          have hk1 : k ≤ 0 := by omega
          clear hk0 hok hm HGo HS ha hc HSt HDef
          have d0 : decide ((0 : Int) < (k : Int)) = false := decide_eq_false (by omega)
          have d1 : decide (0 < k) = false := decide_eq_false (by omega)
          generalize hp1 : ps[k].1 = nm at *
          generalize hp2 : ps[k].2.1 = t at *
          generalize hp3 : ps[k].2.2 = v at *
          clear hp1 hp2 hp3
          go_wp2_with fail
          refine wp_region_aft wr.heap.size wr (by kernel_rfl) (by kernel_rfl) (Below.refl _ _) ?_
          repeat (go_big_quiet_step (first | (go_at_call 97; with_reducible exact aft_new (Nat.le_refl _) (Hid.out (hM _)))))
          refine wpQuiet_nil ?_
          rintro _ ⟨x, rfl⟩
          have Hx : Hid (Below w.heap.size w x.world) := hbw.out.trans (x.below.mono hbw.out.size)
          clear hx0 hx1 hx2
          generalize x.world = w3 at *
          go_wp2_with fail
          go_roundw
          case rel => exact ⟨k + 1, by omega, by go_num, HOk, Hx⟩
          case measure => simp [intOf]; omega
        · obtain ⟨j, rfl⟩ : ∃ j, k = j + 1 := ⟨k - 1, by omega⟩
          have hjl : j < ps.length := by omega
          rw [decide_eq_false hk0, Bool.false_or, show j + 1 - 1 = j from by omega, getD_lt hjl] at hok
          have hpv := fun x : Aft wr.heap.size wr => pt_cells (wr := x.world) hjl hc (fun p hp => (x.below.cell (p := p) (by omega)).trans (hbw.out.cell (p := p) (by omega))) hbl
          have hy0 := fun x => (hpv x).1
          have hy1 := fun x => (hpv x).2.1
          have hy2 := fun x => (hpv x).2.2
          have hL := fun W => Lib.hid (rless_any ps[j] ps[j + 1] W (HZ.out _ (List.getElem_mem _)) (HZ.out _ (List.getElem_mem _)))
          have hOk := Lib.hid (fun h => HGo.out (by rw [hok]; exact h))
          have hNo := Lib.hid (fun h => HS.out (by rw [hok]; exact h))
          clear hok hm HGo HS ha hc HSt HDef hk0 hpv
          generalize Pt.lessB ps[j] ps[j + 1] = bl at *
          generalize hp1 : ps[j + 1].1 = nm at *
          generalize hp2 : ps[j + 1].2.1 = t at *
          generalize hp3 : ps[j + 1].2.2 = v at *
          generalize hp4 : ps[j].1 = nm' at *
          generalize hp5 : ps[j].2.1 = t' at *
          generalize hp6 : ps[j].2.2 = v' at *
          clear hp1 hp2 hp3 hp4 hp5 hp6
          go_wp2_with fail
          have hi0 : (0 : Int) ≤ (j : Int) := by omega
          have hi1 : (j : Int) < (ps.length : Int) := by omega
          have hi2 : (0 : Int) ≤ (j : Int) + 1 := by omega
          have hi3 : (j : Int) + 1 < (ps.length : Int) := by omega
          have hi4 : ((j : Int) + 1).toNat = j + 1 := by omega
          have d1 : decide ((0 : Int) < (j : Int) + 1) = true := decide_eq_true (by omega)
          have d2 : decide (0 < j + 1) = true := decide_eq_true (by omega)
          have hw1 : IntKind.i64.wrap ((j : Int) + 1 - 1) = (j : Int) := by rw [show (j : Int) + 1 - 1 = (j : Int) from by omega]; exact IntWalk.i64_in _ (by omega)
          have hw2 : IntKind.i64.wrap (j : Int) = (j : Int) := IntWalk.i64_in _ (by omega)
          refine wp_region_aft wr.heap.size wr (by kernel_rfl) (by kernel_rfl) (Below.refl _ _) ?_
          repeat (go_big_quiet_step (first | (go_at_call 97; with_reducible exact aft_new (Nat.le_refl _) (Hid.out (hM _))) | (go_at_call 77; with_reducible exact aft_new (Nat.le_refl _) (Hid.out (hL _)))))
          refine wpQuiet_nil ?_
          rintro _ ⟨x, rfl⟩
          have Hx : Hid (Below w.heap.size w x.world) := hbw.out.trans (x.below.mono hbw.out.size)
          clear hx0 hx1 hx2 hy0 hy1 hy2 hw1 hw2 hi4
          generalize x.world = w3 at *
          cases bl
          · have HRf : Hid (res = false) := hNo.out rfl
            go_wp2_with fail
            go_ret
            exact ⟨ret_bool HRf.out.symm, Hx.out⟩
          · have HOk := Lib.hid (hOk.out rfl)
            go_wp2_with fail
            go_roundw
            case rel => exact ⟨j + 1 + 1, by omega, by go_num, HOk, Hx⟩
            case measure => simp [intOf]; omega
    · have HRf : Hid (res = decide (ps.length ≤ 64)) := by
        show _ = _
        have e : k = ps.length := by omega
        have := ha.out
        rw [e] at this
        rw [HDef.out, this]; simp
      clear ha HSt HDef
      go_wp2_with fail
      go_ret
      exact ⟨ret_bool (by rw [HRf.out]; first | rfl | (rw [decide_eq_decide]; omega)), hbw.out⟩
end Go.Proofs.YtmnigoibbcigdaaGreat
/- Plain facts on the hash, the CRC and the digits: each step can be undone, so one byte turned is told. No program in sight. -/
namespace Go.Proofs.YtmnigoibbcigdaaGreat.Sm

/-- one step of the hash -/
def hstep (x c : Nat) : Nat := (1099511628211 * (x ^^^ c)) % 18446744073709551616
def hbegin : Nat := 14695981039346656037
attribute [irreducible] hbegin hstep
/-- the hash of bytes -/
def hashL (l : List UInt8) : Nat := l.foldl (fun x c => hstep x c.toNat) hbegin

theorem hstep_eq (x c : Nat) : hstep x c = ((x ^^^ c) * 1099511628211) % 18446744073709551616 := by unfold hstep; rw [Nat.mul_comm]
theorem hbegin_eq : hbegin = 14695981039346656037 := by unfold hbegin; rfl
theorem hstep_lt (x c : Nat) : hstep x c < 18446744073709551616 := by rw [hstep_eq]; exact Nat.mod_lt _ (by omega)
theorem hbegin_lt : hbegin < 18446744073709551616 := by rw [hbegin_eq]; omega
theorem foldl_lt (l : List UInt8) (x : Nat) (h : x < 18446744073709551616) : l.foldl (fun x c => hstep x c.toNat) x < 18446744073709551616 := by
  induction l generalizing x with
  | nil => exact h
  | cons c l ih => exact ih _ (hstep_lt _ _)
theorem hashL_lt (l : List UInt8) : hashL l < 18446744073709551616 := foldl_lt l _ hbegin_lt
theorem hashL_snoc (l : List UInt8) (c : UInt8) : hashL (l ++ [c]) = hstep (hashL l) c.toNat := by
  simp only [hashL, List.foldl_append, List.foldl_cons, List.foldl_nil]
theorem hashL_nil : hashL [] = hbegin := by simp only [hashL, List.foldl_nil]

theorem mul_undo (a : Nat) (h : a < 18446744073709551616) : (a * 1099511628211 % 18446744073709551616) * 14886173955864302971 % 18446744073709551616 = a := by
  rw [Nat.mod_mul_mod, Nat.mul_assoc, show 1099511628211 * 14886173955864302971 = 887285111055 * 18446744073709551616 + 1 from by decide, Nat.mul_add, Nat.mul_one, ← Nat.mul_assoc, Nat.add_comm, Nat.add_mul_mod_self_right]
  exact Nat.mod_eq_of_lt h
theorem xor_lt {x c : Nat} (hx : x < 18446744073709551616) (hc : c < 256) : x ^^^ c < 18446744073709551616 :=
  Nat.xor_lt_two_pow (n := 64) hx (by omega)
theorem xor_undo (x c : Nat) : (x ^^^ c) ^^^ c = x := by rw [Nat.xor_assoc, Nat.xor_self, Nat.xor_zero]
theorem hstep_inj {x y c d : Nat} (hx : x < 18446744073709551616) (hy : y < 18446744073709551616) (hc : c < 256) (hd : d < 256) (h : hstep x c = hstep y d) : x ^^^ c = y ^^^ d := by
  have h1 := mul_undo (x ^^^ c) (xor_lt hx hc)
  have h2 := mul_undo (y ^^^ d) (xor_lt hy hd)
  rw [hstep_eq, hstep_eq] at h
  rw [h] at h1
  exact h1.symm.trans h2
theorem hstep_left {x y c : Nat} (hx : x < 18446744073709551616) (hy : y < 18446744073709551616) (hc : c < 256) (h : hstep x c = hstep y c) : x = y := by
  have h1 := hstep_inj hx hy hc hc h
  have h2 := congrArg (· ^^^ c) h1
  simpa [xor_undo] using h2
theorem hstep_right {x c d : Nat} (hx : x < 18446744073709551616) (hc : c < 256) (hd : d < 256) (h : hstep x c = hstep x d) : c = d := by
  have h1 := hstep_inj hx hx hc hd h
  have h2 := congrArg (x ^^^ ·) h1
  simpa [← Nat.xor_assoc] using h2
theorem foldl_inj (l : List UInt8) {x y : Nat} (hx : x < 18446744073709551616) (hy : y < 18446744073709551616) (h : l.foldl (fun x c => hstep x c.toNat) x = l.foldl (fun x c => hstep x c.toNat) y) : x = y := by
  induction l generalizing x y with
  | nil => exact h
  | cons c l ih => exact hstep_left hx hy c.toNat_lt (ih (hstep_lt _ _) (hstep_lt _ _) h)
/-- a text in which one byte is turned has another hash -/
theorem hash_turned (p q : List UInt8) (c d : UInt8) (h : c ≠ d) : hashL (p ++ c :: q) ≠ hashL (p ++ d :: q) := by
  intro he
  unfold hashL at he
  rw [List.foldl_append, List.foldl_append, List.foldl_cons, List.foldl_cons] at he
  have h1 := foldl_inj q (hstep_lt _ _) (hstep_lt _ _) he
  have h2 := hstep_right (foldl_lt p _ hbegin_lt) c.toNat_lt d.toNat_lt h1
  exact h (UInt8.toNat_inj.1 h2)

/-! the CRC -/
def cbit (x : Nat) : Nat := if x % 2 = 1 then (x / 2) ^^^ 3988292384 else x / 2
def cbits : Nat → Nat → Nat
  | 0, x => x
  | n + 1, x => cbits n (cbit x)
def cstep (x c : Nat) : Nat := cbits 8 (x ^^^ c)
def crcL (l : List UInt8) : Nat := l.foldl (fun x c => cstep x c.toNat) 4294967295

theorem cbit_lt (x : Nat) (h : x < 4294967296) : cbit x < 4294967296 := by
  unfold cbit; split
  · exact Nat.xor_lt_two_pow (n := 32) (by omega) (by omega)
  · omega
theorem cbits_lt (n x : Nat) (h : x < 4294967296) : cbits n x < 4294967296 := by
  induction n generalizing x with
  | zero => exact h
  | succ n ih => exact ih _ (cbit_lt x h)
theorem cbits_succ (n x : Nat) : cbits (n + 1) x = cbit (cbits n x) := by
  induction n generalizing x with
  | zero => rfl
  | succ n ih => exact ih (cbit x)
theorem cxor_lt {x c : Nat} (hx : x < 4294967296) (hc : c < 256) : x ^^^ c < 4294967296 := Nat.xor_lt_two_pow (n := 32) hx (by omega)
theorem cstep_lt {x c : Nat} (hx : x < 4294967296) (hc : c < 256) : cstep x c < 4294967296 := cbits_lt _ _ (cxor_lt hx hc)
theorem cbit_top (x : Nat) (h : x < 4294967296) : (cbit x).testBit 31 = decide (x % 2 = 1) := by
  have hl : (x / 2).testBit 31 = false := Nat.testBit_lt_two_pow (by omega)
  unfold cbit; split
  · rw [Nat.testBit_xor, hl]; simp [*]; decide
  · rw [hl]; simp [*]
theorem cbit_inj {x y : Nat} (hx : x < 4294967296) (hy : y < 4294967296) (h : cbit x = cbit y) : x = y := by
  have h1 := cbit_top x hx
  have h2 := cbit_top y hy
  rw [h, h2] at h1
  have hp : (x % 2 = 1) ↔ (y % 2 = 1) := by
    by_cases a : x % 2 = 1 <;> by_cases b : y % 2 = 1 <;> simp_all
  unfold cbit at h
  by_cases a : x % 2 = 1
  · rw [if_pos a, if_pos (hp.1 a)] at h
    have h3 := congrArg (· ^^^ 3988292384) h
    simp only [xor_undo] at h3
    have := hp.1 a
    omega
  · rw [if_neg a, if_neg (fun b => a (hp.2 b))] at h
    have : ¬ y % 2 = 1 := fun b => a (hp.2 b)
    omega
theorem cbits_inj (n : Nat) {x y : Nat} (hx : x < 4294967296) (hy : y < 4294967296) (h : cbits n x = cbits n y) : x = y := by
  induction n generalizing x y with
  | zero => exact h
  | succ n ih => exact cbit_inj hx hy (ih (cbit_lt x hx) (cbit_lt y hy) h)
theorem cstep_inj {x y c d : Nat} (hx : x < 4294967296) (hy : y < 4294967296) (hc : c < 256) (hd : d < 256) (h : cstep x c = cstep y d) : x ^^^ c = y ^^^ d :=
  cbits_inj 8 (cxor_lt hx hc) (cxor_lt hy hd) h
theorem cfold_lt (l : List UInt8) (x : Nat) (h : x < 4294967296) : l.foldl (fun x c => cstep x c.toNat) x < 4294967296 := by
  induction l generalizing x with
  | nil => exact h
  | cons c l ih => exact ih _ (cstep_lt h c.toNat_lt)
theorem crcL_lt (l : List UInt8) : crcL l < 4294967296 := cfold_lt l _ (by omega)
theorem crcL_snoc (l : List UInt8) (c : UInt8) : crcL (l ++ [c]) = cstep (crcL l) c.toNat := by
  simp only [crcL, List.foldl_append, List.foldl_cons, List.foldl_nil]
theorem cfold_inj (l : List UInt8) {x y : Nat} (hx : x < 4294967296) (hy : y < 4294967296) (h : l.foldl (fun x c => cstep x c.toNat) x = l.foldl (fun x c => cstep x c.toNat) y) : x = y := by
  induction l generalizing x y with
  | nil => exact h
  | cons c l ih =>
    have h1 := cstep_inj hx hy c.toNat_lt c.toNat_lt (ih (cstep_lt hx c.toNat_lt) (cstep_lt hy c.toNat_lt) h)
    have h2 := congrArg (· ^^^ c.toNat) h1
    simpa [xor_undo] using h2
/-- a text in which one byte is turned has another CRC -/
theorem crc_turned (p q : List UInt8) (c d : UInt8) (h : c ≠ d) : crcL (p ++ c :: q) ≠ crcL (p ++ d :: q) := by
  intro he
  unfold crcL at he
  rw [List.foldl_append, List.foldl_append, List.foldl_cons, List.foldl_cons] at he
  have hb := cfold_lt p 4294967295 (by omega)
  have h1 := cfold_inj q (cstep_lt hb c.toNat_lt) (cstep_lt hb d.toNat_lt) he
  have h2 := cstep_inj hb hb c.toNat_lt d.toNat_lt h1
  have h3 := congrArg ((p.foldl (fun x c => cstep x c.toNat) 4294967295) ^^^ ·) h2
  exact h (UInt8.toNat_inj.1 (by simpa [← Nat.xor_assoc] using h3))

/-! how the walk spells a step -/
theorem byte_u64 (c : UInt8) : IntKind.u64.wrap (c.toNat : Int) = (c.toNat : Int) := IntWalk.u64_in _ (by have := c.toNat_lt; omega)
theorem byte_u32 (c : UInt8) : IntKind.u32.wrap (c.toNat : Int) = (c.toNat : Int) := by rw [IntKind.wrap_u32']; have := c.toNat_lt; omega
theorem hash_int (x : Nat) (c : UInt8) (h : x < 18446744073709551616) : IntKind.u64.wrap (bits .xor .u64 (x : Int) (IntKind.u64.wrap (c.toNat : Int)) * 1099511628211) = (hstep x c.toNat : Int) := by
  rw [byte_u64, u64_xor_nat x c.toNat h (by have := c.toNat_lt; omega), hstep_eq, IntKind.wrap_u64]
  omega
theorem crc_xor (x : Nat) (c : UInt8) (h : x < 4294967296) : bits .xor .u32 (x : Int) ((c.toNat : Int) % 4294967296) = ((x ^^^ c.toNat : Nat) : Int) := by
  have := c.toNat_lt
  rw [show ((c.toNat : Int) % 4294967296) = (c.toNat : Int) from by omega, u32_xor_nat x c.toNat h (by omega)]
theorem crc_low (x : Nat) (h : x < 4294967296) : bits .and .u32 (x : Int) 1 = ((x % 2 : Nat) : Int) := by
  have := u32_and_nat x 1 h (by omega)
  rw [nat_mask1] at this
  exact this
theorem crc_poly (x : Nat) (h : x < 4294967296) : bits .xor .u32 ((x : Int) / 2) 3988292384 = ((x / 2 ^^^ 3988292384 : Nat) : Int) := by
  have := u32_xor_nat (x / 2) 3988292384 (by omega) (by omega)
  rw [← this]; congr 1
theorem cbits_odd (m x : Nat) (hx : x < 4294967296) (h : (bits .and .u32 ((cbits m x : Nat) : Int) 1 == 1) = true) : bits .xor .u32 (((cbits m x : Nat) : Int) / 2) 3988292384 = ((cbits (m + 1) x : Nat) : Int) := by
  have hb := cbits_lt m x hx
  rw [crc_low _ hb] at h
  have h0 : (((cbits m x % 2 : Nat) : Int)) = 1 := by simpa only [beq_iff_eq] using h
  have h1 : cbits m x % 2 = 1 := by omega
  rw [crc_poly _ hb, cbits_succ]
  unfold cbit; rw [if_pos h1]
theorem cbits_even (m x : Nat) (hx : x < 4294967296) (h : (bits .and .u32 ((cbits m x : Nat) : Int) 1 == 1) = false) : (((cbits m x : Nat) : Int) / 2) = ((cbits (m + 1) x : Nat) : Int) := by
  have hb := cbits_lt m x hx
  rw [crc_low _ hb] at h
  have h0 : ¬ (((cbits m x % 2 : Nat) : Int)) = 1 := by simpa only [beq_eq_false_iff_ne, ne_eq] using h
  have h1 : ¬ cbits m x % 2 = 1 := by omega
  rw [cbits_succ]
  unfold cbit; rw [if_neg h1]; omega
theorem rcbits_odd (m x : Nat) (hx : x < 4294967296) (h : ((((cbits m x : Nat) : Int) % 2) == 1) = true) : bits .xor .u32 (((cbits m x : Nat) : Int) / 2) 3988292384 = ((cbits (m + 1) x : Nat) : Int) := by
  have hb := cbits_lt m x hx
  have h1 : cbits m x % 2 = 1 := by have : ((cbits m x : Nat) : Int) % 2 = 1 := by simpa using h
                                    omega
  rw [crc_poly _ hb, cbits_succ]
  unfold cbit; rw [if_pos h1]
theorem rcbits_even (m x : Nat) (h : ((((cbits m x : Nat) : Int) % 2) == 1) = false) : (((cbits m x : Nat) : Int) / 2) = ((cbits (m + 1) x : Nat) : Int) := by
  have h1 : ¬ cbits m x % 2 = 1 := by have : ¬ ((cbits m x : Nat) : Int) % 2 = 1 := by simpa using h
                                      omega
  rw [cbits_succ]
  unfold cbit; rw [if_neg h1]; omega
theorem crc_not (x : Nat) (h : x < 4294967296) : bits .xor .u32 (IntKind.max .u32) (x : Int) = ((x ^^^ 4294967295 : Nat) : Int) := by
  have := u32_xor_nat 4294967295 x (by omega) h
  rw [Nat.xor_comm] at this
  exact this
theorem rcrc_not (x : Nat) (h : x < 4294967296) : bits .xor .u32 (x : Int) 4294967295 = ((x ^^^ 4294967295 : Nat) : Int) := u32_xor_nat x 4294967295 h (by omega)
theorem crc_done (l : List UInt8) (c : UInt8) : cbits 8 (crcL l ^^^ c.toNat) = crcL (l ++ [c]) := by rw [crcL_snoc]; unfold cstep; rfl

/-! the digits -/
def hexd (n : Nat) : UInt8 := if n < 10 then UInt8.ofNat (48 + n) else UInt8.ofNat (87 + n)
def hexAt (x j : Nat) : UInt8 := hexd (x / 16 ^ (15 - j) % 16)
def hexL (x : Nat) : List UInt8 := (List.range 16).map (hexAt x)
def hexCell (x k j : Nat) : Value := if 16 ≤ j + k then .int .u8 ((hexAt x j).toNat : Int) else .int .u8 0
def hexRow (x k : Nat) : Array Value := ((List.range 16).map (hexCell x k)).toArray
def digs : ByteArray := ⟨#[48, 49, 50, 51, 52, 53, 54, 55, 56, 57, 97, 98, 99, 100, 101, 102]⟩
theorem digs_at (n : Nat) (h : n < 16) (h' : n < digs.size) : digs[n] = hexd n := by
  have : ∀ m : Fin 16, ∀ h' : m.1 < digs.size, digs[m.1] = hexd m.1 := by decide
  exact this ⟨n, h⟩ h'
theorem hex_low (x k : Nat) (hx : x < 18446744073709551616) : bits .and .u64 ((x : Int) / 2 ^ (4 * k)) 15 = ((x / 16 ^ k % 16 : Nat) : Int) := by
  have e : ((x : Int) / 2 ^ (4 * k)) = ((x / 16 ^ k : Nat) : Int) := by
    have e2 : ((16 ^ k : Nat) : Int) = 2 ^ (4 * k) := by
      rw [show (16 : Nat) ^ k = 2 ^ (4 * k) from by rw [Nat.pow_mul]]
      exact Int.natCast_pow 2 (4 * k)
    rw [Int.natCast_ediv, e2]
  rw [e]
  have hl : x / 16 ^ k < 18446744073709551616 := Nat.lt_of_le_of_lt (Nat.div_le_self _ _) hx
  have := u64_and_nat (x / 16 ^ k) 15 hl (by omega)
  rw [nat_mask4] at this
  exact this
theorem hexRow_size (x k : Nat) : (hexRow x k).size = 16 := by simp [hexRow]
theorem hexRow_at (x k j : Nat) (h : j < 16) : (hexRow x k)[j]? = some (hexCell x k j) := by
  simp [hexRow, h]
theorem hexRow_zero (x : Nat) : hexRow x 0 = #[.int .u8 0, .int .u8 0, .int .u8 0, .int .u8 0, .int .u8 0, .int .u8 0, .int .u8 0, .int .u8 0, .int .u8 0, .int .u8 0, .int .u8 0, .int .u8 0, .int .u8 0, .int .u8 0, .int .u8 0, .int .u8 0] := by
  simp [hexRow, hexCell, List.range, List.range.loop]
theorem hexRow_next (x k : Nat) (hk : k < 16) (h' : x / 16 ^ k % 16 < digs.size) : (hexRow x k).setIfInBounds (15 - k) (.int .u8 ((digs[x / 16 ^ k % 16].toNat : Nat) : Int)) = hexRow x (k + 1) := by
  apply Array.ext_getElem?
  intro j
  rw [Array.getElem?_setIfInBounds]
  by_cases hj : j < 16
  · rw [hexRow_at _ _ _ hj, hexRow_at _ _ _ hj]
    by_cases he : 15 - k = j
    · rw [if_pos he, if_pos (by rw [hexRow_size]; omega)]
      unfold hexCell hexAt
      rw [if_pos (by omega), digs_at _ (Nat.mod_lt _ (by omega)), show 15 - j = k from by omega]
    · rw [if_neg he]
      unfold hexCell
      by_cases hc : 16 ≤ j + k
      · rw [if_pos hc, if_pos (by omega)]
      · rw [if_neg hc, if_neg (by omega)]
  · rw [if_neg (by omega), Array.getElem?_eq_none (by rw [hexRow_size]; omega), Array.getElem?_eq_none (by rw [hexRow_size]; omega)]
theorem hexd_lo (n : Nat) (h : n < 10) : (hexd n).toNat = 48 + n := by
  unfold hexd; rw [if_pos h, UInt8.toNat_ofNat']; omega
theorem hexd_hi (n : Nat) (h : ¬ n < 10) (h' : n < 16) : (hexd n).toNat = 87 + n := by
  unfold hexd; rw [if_neg h, UInt8.toNat_ofNat']; omega
theorem hexL_length (x : Nat) : (hexL x).length = 16 := by simp [hexL]
theorem hexL_at (x k : Nat) (h : k < (hexL x).length) : (hexL x)[k] = hexd (x / 16 ^ (15 - k) % 16) := by
  simp [hexL, hexAt]
theorem hex_more (x k y : Nat) (hk : k < 16) (h : y = x / 16 ^ (16 - k)) : y * 16 + x / 16 ^ (15 - k) % 16 = x / 16 ^ (15 - k) := by
  subst h
  have e : 16 - k = (15 - k) + 1 := by omega
  rw [e, Nat.pow_succ, ← Nat.div_div_eq_div_mul]
  omega
theorem hexRow_done (x j : Nat) (h : j < (hexL x).length) : (hexRow x 16)[j]? = some (.int .u8 (((hexL x)[j].toNat : Nat) : Int)) := by
  rw [hexL_length] at h
  rw [hexRow_at _ _ _ h]
  simp [hexCell, hexL]
end Go.Proofs.YtmnigoibbcigdaaGreat.Sm
/- The walks through Hash of sum and of its reference. -/
namespace Go.Proofs.YtmnigoibbcigdaaGreat
open Go.RowKit
set_option linter.unusedVariables false

set_option maxHeartbeats 400000 in
theorem hash_any (s : ByteArray) (w : World) (hs : s.size ≤ maxLen) :
    Calls Tryz.prog 21 #[.string s] w fun e w' => e = .returned (.int .u64 (Sm.hashL s.data.toList)) ∧ w = w' := by
  unfold maxLen at hs
  go_enter Tryz.func21, Tryz.ntmps21
  go_wp2
  go_loop [3, 7] (fun x i => ∃ k : Nat, k ≤ s.size ∧ i = .int .i64 k ∧ x = .int .u64 (Sm.hashL (s.data.toList.take k))) (fun _ i => s.size - (intOf i).toNat)
  case atStart => exact ⟨0, Nat.zero_le _, rfl, by rw [List.take_zero, Sm.hashL_nil, Sm.hbegin_eq]; rfl⟩
  case round =>
    obtain ⟨k, hk, rfl, rfl⟩ := hrel
    by_cases hlt : k < s.size
    · go_wp2
      go_round
      case rel => exact ⟨k + 1, by omega, by go_num, by rw [take_snoc s k hlt, Sm.hashL_snoc, Sm.hash_int _ _ (Sm.hashL_lt _)]⟩
      case measure => simp [intOf]; omega
    · go_wp2
      go_ret
      exact ⟨ret_int (by rw [List.take_of_length_le (by simp; omega)]), rfl⟩

set_option maxHeartbeats 400000 in
theorem rhash_any (s : ByteArray) (w : World) (hs : s.size ≤ maxLen) :
    Calls Tryz.prog 27 #[.string s] w fun e w' => e = .returned (.int .u64 (Sm.hashL s.data.toList)) ∧ w = w' := by
  unfold maxLen at hs
  go_enter Tryz.func27, Tryz.ntmps27
  go_wp2
  go_loop [3, 4] (fun x i => ∃ k : Nat, k ≤ s.size ∧ i = .int .i64 k ∧ x = .int .u64 (Sm.hashL (s.data.toList.take k))) (fun _ i => s.size - (intOf i).toNat)
  case atStart => exact ⟨0, Nat.zero_le _, rfl, by rw [List.take_zero, Sm.hashL_nil, Sm.hbegin_eq]; rfl⟩
  case round =>
    obtain ⟨k, hk, rfl, rfl⟩ := hrel
    by_cases hlt : k < s.size
    · go_wp2
      go_round
      case rel => exact ⟨k + 1, by omega, by go_num, by rw [take_snoc s k hlt, Sm.hashL_snoc, Sm.hash_int _ _ (Sm.hashL_lt _)]⟩
      case measure => simp [intOf]; omega
    · go_wp2
      go_ret
      exact ⟨ret_int (by rw [List.take_of_length_le (by simp; omega)]), rfl⟩
end Go.Proofs.YtmnigoibbcigdaaGreat
