/- The walks through slices.IndexFunc and slices.DeleteFunc at points, with the closure of query.Range. -/
import Derived.Test.YthdbmgjlegpbaaaKQmDelP
import Derived.Test.YthdbmgjlegpbaaaK10
import Derived.Test.YthdbmgjlegpbaaaK9
import Derived.Laws.IdiomCopy
namespace Go.Proofs.Ythdbmgjlegpbaaa
open Go.RowKit
set_option linter.unusedVariables false

theorem cell_keepQ {w : World} {a : Addr} {v : Value} (o : Obj) (h : w.cell? a = some v) : (w.alloc o).cell? a = some v := by
  rw [World.cell?_alloc_lt w o a (World.block_lt_of_cell? w _ h)]; exact h
theorem range1_any (p : Pt.Point) (s : ByteArray) (f u : Int) (bs bf bu : Nat) (w : World) (hs : w.cell? ⟨bs, 0, none⟩ = some (.string s)) (hf : w.cell? ⟨bf, 0, none⟩ = some (.int .i64 f)) (hu : w.cell? ⟨bu, 0, none⟩ = some (.int .i64 u)) :
    Calls Try.prog 60 #[.agg #[.string p.1, .int .i64 p.2.1, .int .i64 p.2.2], .pointer (some ⟨bs, 0, none⟩), .pointer (some ⟨bf, 0, none⟩), .pointer (some ⟨bu, 0, none⟩)] w fun e w' => e = .returned (.bool (Qm.gone s f u p)) ∧ Below w.heap.size w w' := by
  obtain ⟨pn, pt, pv⟩ := p
  have hs1 := cell_keepQ (.cells #[.string pn, .int .i64 pt, .int .i64 pv] 52) hs
  have hf1 := cell_keepQ (.cells #[.string pn, .int .i64 pt, .int .i64 pv] 52) hf
  have hu1 := cell_keepQ (.cells #[.string pn, .int .i64 pt, .int .i64 pv] 52) hu
  have Hb : Hid (Below w.heap.size w (w.alloc (.cells #[.string pn, .int .i64 pt, .int .i64 pv] 52))) := (Below.refl w.heap.size w).alloc (Nat.le_refl _) _
  unfold Qm.gone
  dsimp only
  by_cases h1 : pn = s
  · subst h1
    by_cases h2 : pt < f
    · go_enter Try.func60, Try.ntmps60
      go_wp2_with fail
      go_ret
      exact ⟨ret_bool (by simp [h2]), Hb.out⟩
    · by_cases h3 : u < pt
      · go_enter Try.func60, Try.ntmps60
        go_wp2_with fail
        go_ret
        exact ⟨ret_bool (by simp), Hb.out⟩
      · go_enter Try.func60, Try.ntmps60
        go_wp2_with fail
        go_ret
        exact ⟨ret_bool (by simp [h2, h3]), Hb.out⟩
  · have h1t : ¬ pn.toList = s.toList := fun e => h1 (by rw [Lib.toList_data, Lib.toList_data] at e; exact ByteArray.ext (Array.ext' e))
    go_enter Try.func60, Try.ntmps60
    go_wp2_with fail
    go_ret
    exact ⟨ret_bool (by simp [h1]), Hb.out⟩
/-- the closure says d, wherever the boxes are as they are in w but for R -/
def ClP (R : Nat → Prop) (w : World) (bs bf bu : Nat) (d : Pt.Point → Bool) : Prop := ∀ (W : World), Only R w W → ∀ p : Pt.Point, Calls Try.prog 60 #[.agg #[.string p.1, .int .i64 p.2.1, .int .i64 p.2.2], .pointer (some ⟨bs, 0, none⟩), .pointer (some ⟨bf, 0, none⟩), .pointer (some ⟨bu, 0, none⟩)] W fun e w' => e = .returned (.bool (d p)) ∧ Below W.heap.size W w'
set_option maxRecDepth 100000 in
set_option maxHeartbeats 1000000 in
theorem indexFuncQ_any (A : Option Addr) (c : Nat) (l : List Pt.Point) (d : Pt.Point → Bool) (bs bf bu : Nat) (R : Nat → Prop) (w : World) (B : Nat) (hr : Reads w B 3 A l.length (l.flatMap pointCells)) (hB : B ≤ w.heap.size) (hn : l.length ≤ 140737488355328) (hd : ClP R w bs bf bu d) :
    Calls Try.prog 84 #[.slice A l.length c, .func (.func 60) #[] #[.pointer (some ⟨bs, 0, none⟩), .pointer (some ⟨bf, 0, none⟩), .pointer (some ⟨bu, 0, none⟩)]] w fun e w' => ∃ i, e = .returned (.int .i64 i) ∧ Qm.Idx d l i ∧ Below w.heap.size w w' := by
  have HR := Lib.hid hr
  have HD := Lib.hid hd
  clear hr hd
  go_enter Try.func84, Try.ntmps84
  go_wp2_with fail
  go_loopw [5, 8] (fun _ i wr => ∃ k : Nat, k ≤ l.length ∧ i = .int .i64 (k : Int) ∧ Hid (Qm.keepL d (l.take k) = l.take k) ∧ Hid (Below w.heap.size w wr)) (fun _ i _ => l.length - (intOf i).toNat)
  case atStart => exact ⟨0, Nat.zero_le _, rfl, Lib.hid (by simp [Qm.keepL]), Lib.hid (Below.refl _ _)⟩
  case round =>
    obtain ⟨k, hk, rfl, ha, hbw⟩ := hrel
    by_cases hlt : k < l.length
    · obtain ⟨b, off, rfl, hbl, hc⟩ := HR.out.2 (by omega)
      obtain ⟨p, hp⟩ : ∃ p, l[k]? = some p := ⟨_, List.getElem?_eq_getElem hlt⟩
      have hpe : l[k] = p := (List.getElem?_eq_some_iff.1 hp).2
      have hcp := pt_cells (wr := wr) hlt hc (fun p hp => hbw.out.cell (p := p) (by omega)) hbl
      rw [hpe] at hcp
      have HY := Lib.hid (fun h => Qm.idx_yes hp ha.out h)
      have HN := Lib.hid (fun h => Qm.idx_step hp ha.out h)
      have H1 := Lib.hid (HD.out wr (Only.new _ hbw.out) p)
      clear hc ha hp hpe HD
      obtain ⟨pn, pt, pv⟩ := p
      dsimp only at hcp H1
      obtain ⟨c0', c1', c2'⟩ := hcp
      cases hm : d (pn, pt, pv) with
      | true =>
        have hF := Lib.hid (HY.out hm)
        rw [hm] at H1
        clear HY HN hm
        go_wp2_with fail
        refine H1.out.mono ?_
        rintro e w1 ⟨rfl, hb1⟩
        go_wp2_with fail
        go_ret
        exact ⟨_, rfl, hF.out, hbw.out.trans (hb1.mono hbw.out.size)⟩
      | false =>
        have hF := Lib.hid (HN.out hm)
        rw [hm] at H1
        clear HY HN hm
        go_wp2_with fail
        refine H1.out.mono ?_
        rintro e w1 ⟨rfl, hb1⟩
        go_wp2_with fail
        go_roundw
        case rel => exact ⟨k + 1, by omega, by go_num, hF, Lib.hid (hbw.out.trans (hb1.mono hbw.out.size))⟩
        case measure => simp [intOf]; omega
    · have hF := Lib.hid (Qm.idx_no ha.out (by omega))
      clear ha HD
      go_wp2_with fail
      go_ret
      exact ⟨_, rfl, hF.out, hbw.out⟩
end Go.Proofs.Ythdbmgjlegpbaaa
