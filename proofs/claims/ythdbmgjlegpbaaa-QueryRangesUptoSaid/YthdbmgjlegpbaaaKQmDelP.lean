/- slices.DeleteFunc at points, plain. -/
import Derived.Test.YthdbmgjlegpbaaaK9
namespace Go.Proofs.Ythdbmgjlegpbaaa
set_option linter.unusedVariables false
namespace Qm
def keepL (d : Pt.Point → Bool) (l : List Pt.Point) : List Pt.Point := l.filter fun p => !d p
theorem keepL_append (d : Pt.Point → Bool) (a b : List Pt.Point) : keepL d (a ++ b) = keepL d a ++ keepL d b := List.filter_append ..
theorem keepL_all {d : Pt.Point → Bool} {l : List Pt.Point} (h : ∀ p ∈ l, d p = false) : keepL d l = l := List.filter_eq_self.2 fun p hp => by rw [h p hp]; rfl
theorem keepL_len (d : Pt.Point → Bool) (l : List Pt.Point) : (keepL d l).length ≤ l.length := List.length_filter_le ..
theorem keepL_one (d : Pt.Point → Bool) (p : Pt.Point) : keepL d [p] = if d p = true then [] else [p] := by
  unfold keepL
  cases h : d p <;> simp [h]
/-- what slices.IndexFunc answers -/
def Idx (d : Pt.Point → Bool) (l : List Pt.Point) (i : Int) : Prop := (i = -1 ∧ keepL d l = l) ∨ ∃ k : Nat, i = (k : Int) ∧ k < l.length ∧ keepL d (l.take k) = l.take k ∧ ∃ p, l[k]? = some p ∧ d p = true
theorem idx_yes {d : Pt.Point → Bool} {l : List Pt.Point} {k : Nat} {p : Pt.Point} (hp : l[k]? = some p) (hk : keepL d (l.take k) = l.take k) (hd : d p = true) : Idx d l (k : Int) := .inr ⟨k, rfl, (List.getElem?_eq_some_iff.1 hp).1, hk, p, hp, hd⟩
theorem idx_step {d : Pt.Point → Bool} {l : List Pt.Point} {k : Nat} {p : Pt.Point} (hp : l[k]? = some p) (hk : keepL d (l.take k) = l.take k) (hd : d p = false) : keepL d (l.take (k + 1)) = l.take (k + 1) := by
  obtain ⟨h, rfl⟩ := List.getElem?_eq_some_iff.1 hp
  rw [List.take_succ_eq_append_getElem h, keepL_append, hk, keepL_one, if_neg (by rw [hd]; decide)]
theorem idx_no {d : Pt.Point → Bool} {l : List Pt.Point} {k : Nat} (hk : keepL d (l.take k) = l.take k) (hl : l.length ≤ k) : Idx d l (-1) := by
  rw [List.take_of_length_le hl] at hk
  exact .inl ⟨rfl, hk⟩
/-- the row of l under way: i are kept, j are looked at -/
def DelI (d : Pt.Point → Bool) (l l1 : List Pt.Point) (i j : Nat) : Prop := l1.length = l.length ∧ l1.take i = keepL d (l.take j) ∧ l1.drop j = l.drop j
theorem del_start {d : Pt.Point → Bool} {l : List Pt.Point} {k : Nat} {p : Pt.Point} (hp : l[k]? = some p) (hk : keepL d (l.take k) = l.take k) (hd : d p = true) : DelI d l l k (k + 1) := by
  obtain ⟨h, rfl⟩ := List.getElem?_eq_some_iff.1 hp
  refine ⟨rfl, ?_, rfl⟩
  rw [List.take_succ_eq_append_getElem h, keepL_append, hk, keepL_one, if_pos hd, List.append_nil]
theorem del_at {d : Pt.Point → Bool} {l l1 : List Pt.Point} {i j : Nat} {p : Pt.Point} (h : DelI d l l1 i j) (hp : l[j]? = some p) : l1[j]? = some p := by
  have := congrArg (·[0]?) h.2.2
  simpa [hp] using this
theorem drop_next {l l1 : List Pt.Point} {j : Nat} (h : l1.drop j = l.drop j) : l1.drop (j + 1) = l.drop (j + 1) := by
  rw [← List.drop_drop, ← List.drop_drop, h]
theorem del_skip {d : Pt.Point → Bool} {l l1 : List Pt.Point} {i j : Nat} {p : Pt.Point} (h : DelI d l l1 i j) (hp : l[j]? = some p) (hd : d p = true) : DelI d l l1 i (j + 1) := by
  obtain ⟨h1, h2, h3⟩ := h
  obtain ⟨hj, rfl⟩ := List.getElem?_eq_some_iff.1 hp
  refine ⟨h1, ?_, drop_next h3⟩
  rw [List.take_succ_eq_append_getElem hj, keepL_append, ← h2, keepL_one, if_pos hd, List.append_nil]
theorem del_keep {d : Pt.Point → Bool} {l l1 : List Pt.Point} {i j : Nat} {p : Pt.Point} (h : DelI d l l1 i j) (hp : l[j]? = some p) (hd : d p = false) (hij : i < j) : DelI d l (l1.set i p) (i + 1) (j + 1) := by
  obtain ⟨h1, h2, h3⟩ := h
  obtain ⟨hj, rfl⟩ := List.getElem?_eq_some_iff.1 hp
  refine ⟨by rw [List.length_set, h1], ?_, ?_⟩
  · rw [List.take_succ_eq_append_getElem hj, keepL_append, ← h2, keepL_one, if_neg (by rw [hd]; decide), List.take_succ_eq_append_getElem (by rw [List.length_set]; omega), List.getElem_set_self, List.take_set_of_le (Nat.le_refl _)]
  · rw [List.drop_set_of_lt (by omega)]
    exact drop_next h3
theorem del_end {d : Pt.Point → Bool} {l l1 : List Pt.Point} {i j : Nat} (h : DelI d l l1 i j) (hj : l.length ≤ j) : l1.take i = keepL d l := by
  rw [h.2.1, List.take_of_length_le hj]
/-- what query.Range leaves out -/
def gone (s : ByteArray) (f u : Int) (p : Pt.Point) : Bool := decide (p.1 ≠ s) || (decide (p.2.1 < f) || decide (u < p.2.1))
end Qm
end Go.Proofs.Ythdbmgjlegpbaaa
