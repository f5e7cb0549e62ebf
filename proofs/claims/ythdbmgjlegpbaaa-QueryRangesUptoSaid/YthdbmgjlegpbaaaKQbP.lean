/- QueryBounds, plain. -/
import Derived.Test.YthdbmgjlegpbaaaK10
import Derived.Test.YthdbmgjlegpbaaaKQmDelP
namespace Go.Proofs.Ythdbmgjlegpbaaa
set_option linter.unusedVariables false
namespace Qm
open St Ig
theorem dd_id {l : List Pt.Point} (h : Sorted l) : dd l = l := by
  rw [sorted_pair] at h
  induction l with
  | nil => rfl
  | cons p r ih =>
    obtain ⟨h1, h2⟩ := List.pairwise_cons.1 h
    rw [dd_keep, ih h2]
    intro q s e
    have := h1 q (by rw [e]; exact List.mem_cons_self ..)
    omega
theorem asc_of {l : List Pt.Point} (h : Sorted l) : Asc l := by
  rw [sorted_pair] at h
  refine h.imp ?_
  intro a b hab hba
  have := cmp_neg a b
  omega
theorem set_id {l : List Pt.Point} (h : Sorted l) : setAll [] l = l := by rw [← dd_set (asc_of h) (Stab.refl l), dd_id h]
/-- the law's points -/
def bS : ByteArray := ⟨#[115]⟩
def bT : ByteArray := ⟨#[116]⟩
def bl : Nat → List Pt.Point
  | 0 => []
  | k + 1 => bl k ++ [(bS, (k : Int), -(k : Int)), (bT, (k : Int), 0)]
def bP (a b : Int) (i : Nat) : Bool := decide (a ≤ (i : Int)) && decide ((i : Int) ≤ b)
def bE (a b : Int) (k : Nat) : List Nat := (List.range k).filter (bP a b)
def bpt (i : Nat) : Pt.Point := (bS, (i : Int), -(i : Int))
theorem bE_succ (a b : Int) (k : Nat) : bE a b (k + 1) = bE a b k ++ (if bP a b k = true then [k] else []) := by
  unfold bE
  rw [List.range_succ, List.filter_append]
  congr 1
  by_cases h : bP a b k = true <;> simp [h]
theorem bl_len (k : Nat) : (bl k).length = 2 * k := by
  induction k with
  | zero => rfl
  | succ k ih => rw [bl, List.length_append, ih]; simp; omega
theorem bl_keep (a b : Int) (k : Nat) : keepL (gone bS a b) (bl k) = (bE a b k).map bpt := by
  induction k with
  | zero => rfl
  | succ k ih =>
    rw [bl, keepL_append, ih, bE_succ, List.map_append]
    congr 1
    have ht : gone bS a b (bT, (k : Int), 0) = true := by
      have : (bT ≠ bS) := by decide
      simp [gone, this]
    have e : keepL (gone bS a b) [(bS, (k : Int), -(k : Int)), (bT, (k : Int), 0)] = keepL (gone bS a b) [bpt k] := by
      show keepL _ ([bpt k] ++ [(bT, (k : Int), 0)]) = _
      rw [keepL_append, keepL_one _ (bT, (k : Int), 0), if_pos ht, List.append_nil]
    rw [e, keepL_one]
    have hg : gone bS a b (bpt k) = !bP a b k := by
      unfold gone bpt bP
      simp only [ne_eq, not_true_eq_false, decide_false, Bool.false_or, Bool.not_and]
      congr 1 <;> (rw [Bool.eq_iff_iff]; simp)
    rw [hg]
    cases bP a b k <;> rfl
theorem bE_lt {a b : Int} {k i : Nat} (h : i ∈ bE a b k) : i < k := by
  unfold bE at h
  exact List.mem_range.1 (List.mem_filter.1 h).1
theorem bE_pair (a b : Int) (k : Nat) : (bE a b k).Pairwise (· < ·) := List.Pairwise.filter _ List.pairwise_lt_range
theorem bE_sorted (a b : Int) (k : Nat) : Sorted ((bE a b k).map bpt) := by
  rw [sorted_pair, List.pairwise_map]
  refine (bE_pair a b k).imp ?_
  intro i j hij
  rw [cmp_iff]
  exact .inr ⟨rfl, by show (i : Int) < (j : Int); omega⟩
theorem b_range (a b : Int) (k : Nat) : mergeP [] (keepL (gone bS a b) (bl k)) = (bE a b k).map bpt := by
  unfold mergeP
  rw [List.nil_append, bl_keep, set_id (bE_sorted a b k)]
theorem bE_cut (a b : Int) (k t : Nat) (h : t ≤ k) : ∃ r, bE a b k = bE a b t ++ r ∧ ∀ i ∈ r, t ≤ i ∧ bP a b i = true := by
  induction k with
  | zero => obtain rfl : t = 0 := by omega
            exact ⟨[], rfl, fun i hi => by cases hi⟩
  | succ k ih =>
    by_cases e : t = k + 1
    · subst e; exact ⟨[], by rw [List.append_nil], fun i hi => by cases hi⟩
    · obtain ⟨r, hr, hr2⟩ := ih (by omega)
      rw [bE_succ, hr]
      by_cases hp : bP a b k = true
      · refine ⟨r ++ [k], by rw [if_pos hp, List.append_assoc], fun i hi => ?_⟩
        rcases List.mem_append.1 hi with hi | hi
        · exact hr2 i hi
        · rw [List.mem_singleton] at hi; subst hi; exact ⟨by omega, hp⟩
      · exact ⟨r, by rw [if_neg hp, List.append_nil], hr2⟩
/-- the point that the law looks for -/
theorem b_at {a b : Int} {k t : Nat} (h : t < k) (hp : bP a b t = true) : ((bE a b k).map bpt)[(bE a b t).length]? = some (bpt t) := by
  obtain ⟨r, hr, _⟩ := bE_cut a b k (t + 1) h
  rw [hr, bE_succ, if_pos hp, List.append_assoc, List.map_append, List.getElem?_append_right (by rw [List.length_map]; exact Nat.le_refl _), List.length_map, Nat.sub_self]
  rfl
theorem b_next {a b : Int} {t : Nat} (hp : bP a b t = true) : (bE a b (t + 1)).length = (bE a b t).length + 1 := by
  rw [bE_succ, if_pos hp, List.length_append]; rfl
theorem b_start {a b : Int} {t : Nat} (h : (t : Int) ≤ a ∨ t = 0) : (bE a b t).length = 0 := by
  have : bE a b t = [] := by
    rw [List.eq_nil_iff_forall_not_mem]
    intro i hi
    have h1 := bE_lt hi
    unfold bE at hi
    have h2 := (List.mem_filter.1 hi).2
    simp only [bP, Bool.and_eq_true, decide_eq_true_eq] at h2
    omega
  rw [this]; rfl
theorem b_end {a b : Int} {k t : Nat} (h : b < (t : Int)) (htk : t ≤ k) : (bE a b t).length = ((bE a b k).map bpt).length := by
  obtain ⟨r, hr, hr2⟩ := bE_cut a b k t htk
  have : r = [] := by
    rw [List.eq_nil_iff_forall_not_mem]
    intro i hi
    obtain ⟨h1, h2⟩ := hr2 i hi
    simp only [bP, Bool.and_eq_true, decide_eq_true_eq] at h2
    omega
  rw [List.length_map, hr, this, List.append_nil]
end Qm
end Go.Proofs.Ythdbmgjlegpbaaa
