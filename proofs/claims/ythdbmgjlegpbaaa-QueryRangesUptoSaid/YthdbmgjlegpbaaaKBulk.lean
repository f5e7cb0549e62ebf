/- What the bound of an Upto statement gives of each argument. -/
import Derived.Test.YthdbmgjlegpbaaaRows
import Derived.Test.YthdbmgjlegpbaaaKOpen
namespace Go.Proofs.Ythdbmgjlegpbaaa
open Go.RowKit
set_option linter.unusedVariables false

theorem bulkAll_map {H α : Type} (g : α → DataW H) (xs : List α) : Rows.uptoBulkAll (xs.map g) = (xs.map fun x => Rows.uptoBulk (g x)).sum := by
  induction xs with
  | nil => simp [Rows.uptoBulkAll]
  | cons x xs ih => simp only [List.map_cons, Rows.uptoBulkAll, List.sum_cons, ih]
theorem bulk_row {H α : Type} {d : DataW H} {g : α → DataW H} {xs : List α} (h : RowData d g xs) (m : α → Nat) (hm : ∀ x, Rows.uptoBulk (g x) = m x) : (xs.map m).sum ≤ Rows.uptoBulk d := by
  rcases h with ⟨rfl, rfl⟩ | ⟨spare, rfl⟩
  · simp
  · simp only [Rows.uptoBulk, bulkAll_map]
    have : (xs.map fun x => Rows.uptoBulk (g x)) = xs.map m := List.map_congr_left fun x _ => hm x
    rw [this]; omega
theorem bulk_string {H : Type} (s : ByteArray) : s.size + 1 ≤ Rows.uptoBulk (DataW.lit (H := H) (.string s.data.toList)) := by
  simp [Rows.uptoBulk]
theorem bulk_text {H : Type} (s : ByteArray) : Rows.uptoBulk (textData (H := H) s) = s.size + 1 := by simp [textData, Rows.uptoBulk]
theorem bulk_int {H : Type} (k : IntKind) (n : Int) : Rows.uptoBulk (intData (H := H) k n) = 1 := by simp [intData, Rows.uptoBulk]
theorem bulk_file {H : Type} (f : Int × ByteArray) : Rows.uptoBulk (fileData (H := H) f) = f.2.size + 3 := by simp [fileData, Rows.uptoBulk, Rows.uptoBulkAll]; omega
theorem bulk_one {H : Type} (d : DataW H) : 1 ≤ Rows.uptoBulk d := by
  cases d with
  | lit l => cases l <;> simp [Rows.uptoBulk]
  | nil => simp [Rows.uptoBulk]
  | ptr d => simp [Rows.uptoBulk]
  | slice elems spare => simp [Rows.uptoBulk]
  | agg parts => simp [Rows.uptoBulk]
  | iface t d => simp [Rows.uptoBulk]
  | map entries => simp [Rows.uptoBulk]
  | held h => simp [Rows.uptoBulk]
theorem sum_ge_length {α : Type} (m : α → Nat) (c : Nat) (hm : ∀ x, c ≤ m x) (xs : List α) : xs.length * c ≤ (xs.map m).sum := by
  induction xs with
  | nil => simp
  | cons x xs ih => rw [List.map_cons, List.sum_cons, List.length_cons, Nat.add_mul]; have := hm x; omega
theorem le_sum {α : Type} (m : α → Nat) (xs : List α) {x : α} (h : x ∈ xs) : m x ≤ (xs.map m).sum := by
  induction xs with
  | nil => cases h
  | cons y xs ih =>
    rw [List.map_cons, List.sum_cons]
    rcases List.mem_cons.1 h with rfl | h
    · omega
    · have := ih h; omega
end Go.Proofs.Ythdbmgjlegpbaaa
