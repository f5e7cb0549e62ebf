/- slices.Clone at points, for a seat without ingest. -/
import Derived.Test.YthdbmgjlegpbaaaK10
namespace Go.Proofs.Ythdbmgjlegpbaaa
open Go.RowKit
set_option linter.unusedVariables false

set_option maxRecDepth 100000 in
set_option maxHeartbeats 400000 in
theorem cloneQ_any (A : Option Addr) (c : Nat) (xs : List Pt.Point) (w : World) (b1 : Nat) (hr : Reads w b1 3 A xs.length (xs.flatMap pointCells)) (hB : b1 ≤ w.heap.size) (hn : xs.length * 32 ≤ 140737488355328) :
    Calls Try.prog 59 #[.slice A xs.length c] w (RowOf w xs) := by
  cases A with
  | none =>
    have h0 : xs.length = 0 := by
      rcases Nat.eq_zero_or_pos xs.length with h | h
      · exact h
      · obtain ⟨b, off, e, _⟩ := hr.2 h
        cases e
    have hx : xs = [] := List.eq_nil_of_length_eq_zero h0
    subst hx
    have hnil := fun W => Lib.run_eql_slice_nil (P := Try.prog) W 38 52 none 0 c 0 0 Try.underlying38
    clear hr h0
    go_enter Try.func59, Try.ntmps59
    go_wp2_with fail
    go_ret
    exact ⟨_, rfl, own_nil _ _ _ _, Below.refl _ _⟩
  | some ad =>
    obtain ⟨i0, hi, hz0, hz1, hz2⟩ := info_parts info_point
    have hown0 := own_empty w w.heap.size 52 3 (Nat.le_refl _)
    have hr1 := hr.alloc hB (.cells #[] 52)
    have hb0 : Below w.heap.size w (w.alloc (.cells #[] 52)) := (Below.refl _ _).alloc (Nat.le_refl _) _
    have hnil := fun W => Lib.run_eql_slice_nil (P := Try.prog) W 38 52 (some ad) xs.length c 0 0 Try.underlying38
    go_enter Try.func59, Try.ntmps59
    go_wp2_with (at_builtin; refine wpList_append_all _ rfl _ _ 38 rfl w.heap.size 52 i0 _ 3 32 Try.underlying38 hi hz0 hz1 hz2 rfl (by decide) _ 0 [] (by rfl) hown0 b1 (some ad) xs.length c (xs.flatMap pointCells) (by rfl) hr1 (Qm.cells_one xs) (by unfold maxLen; omega) (by omega) w hb0 (by simp) ?_; intro v1 w1 hown1 hb1 _)
    go_ret
    exact ⟨_, rfl, by simpa using hown1, hb1⟩
end Go.Proofs.Ythdbmgjlegpbaaa
