/- Aggregates of rising points against plain sums: plain. -/
import Derived.Test.YthdbmgjlegpbaaaQrPlain
namespace Go.Proofs.Ythdbmgjlegpbaaa.Qr
open Go.Proofs.Ythdbmgjlegpbaaa
set_option linter.unusedVariables false

theorem getD_app {ps : List Pt.Point} {p : Pt.Point} {j : Nat} (hj : j < ps.length) : (ps ++ [p]).getD j z0 = ps.getD j z0 := by
  rw [List.getD_eq_getElem?_getD, List.getD_eq_getElem?_getD, List.getElem?_append_left hj]
theorem getD_new {ps : List Pt.Point} {p : Pt.Point} : (ps ++ [p]).getD ps.length z0 = p := by
  rw [List.getD_eq_getElem?_getD, List.getElem?_append_right (Nat.le_refl _), Nat.sub_self]; rfl
theorem sum_app (ps : List Pt.Point) (p : Pt.Point) (j : Nat) (hj : j ≤ ps.length) : sumK (ps ++ [p]) j = sumK ps j := by
  induction j with
  | zero => rfl
  | succ j ih => rw [sumK, sumK, ih (by omega), getD_app (by omega)]
theorem least_app (ps : List Pt.Point) (p : Pt.Point) (j : Nat) (hj : j ≤ ps.length) : leastK (ps ++ [p]) j = leastK ps j := by
  induction j with
  | zero => rfl
  | succ j ih => rw [leastK, leastK, ih (by omega), getD_app (by omega)]
theorem most_app (ps : List Pt.Point) (p : Pt.Point) (j : Nat) (hj : j ≤ ps.length) : mostK (ps ++ [p]) j = mostK ps j := by
  induction j with
  | zero => rfl
  | succ j ih => rw [mostK, mostK, ih (by omega), getD_app (by omega)]
structure SumI (k : Nat) (ps : List Pt.Point) (S L M : Int) : Prop where
  len : ps.length = k
  small : ∀ p ∈ ps, Pt.smallB p.2.2 = true
  time : ∀ j, j < k → (ps.getD j z0).2.1 = (j : Int)
  sum : S = sumK ps k
  ends : k = 0 ∨ (L = leastK ps k ∧ M = mostK ps k)
theorem sumI_start : SumI 0 [] 0 0 0 := ⟨rfl, fun p hp => (by cases hp), fun j hj => (by omega), rfl, .inl rfl⟩
theorem sumI_step {k : Nat} {ps : List Pt.Point} {S L M : Int} (h : SumI k ps S L M) (s : ByteArray) (v : Int) (hv : -2147483648 ≤ v ∧ v ≤ 2147483647) (L' M' : Int) (hL : L' = if k = 0 ∨ v < L then v else L) (hM : M' = if k = 0 ∨ M < v then v else M) : SumI (k + 1) (ps ++ [(s, (k : Int), v)]) (S + v) L' M' := by
  have hl := h.len
  refine ⟨by rw [List.length_append, hl]; rfl, ?_, ?_, ?_, .inr ⟨?_, ?_⟩⟩
  · intro p hp
    rcases List.mem_append.1 hp with hp | hp
    · exact h.small p hp
    · rw [List.mem_singleton] at hp; subst hp; exact (Pt.smallB_iff v).2 hv
  · intro j hj
    by_cases e : j = k
    · subst e; rw [← hl, getD_new]
    · rw [getD_app (by omega)]; exact h.time j (by omega)
  · rw [sumK, sum_app ps _ k (by omega), ← h.sum, ← hl, getD_new]
  · rw [leastK, least_app ps _ k (by omega), ← hl, getD_new, hL]
    dsimp only
    rcases h.ends with h0 | ⟨h1, _⟩
    · rw [if_pos (.inl h0), hl, h0]; show v = min _ _; rw [leastK]; omega
    · rw [hl, ← h1]
      by_cases h0 : k = 0
      · rw [if_pos (.inl h0)]; rw [h1, h0, leastK]; omega
      · by_cases hlt : v < L
        · rw [if_pos (.inr hlt)]; show v = min _ _; omega
        · rw [if_neg (by omega)]; show L = min _ _; omega
  · rw [mostK, most_app ps _ k (by omega), ← hl, getD_new, hM]
    dsimp only
    rcases h.ends with h0 | ⟨_, h1⟩
    · rw [if_pos (.inl h0), hl, h0]; show v = max _ _; rw [mostK]; omega
    · rw [hl, ← h1]
      by_cases h0 : k = 0
      · rw [if_pos (.inl h0)]; rw [h1, h0, mostK]; omega
      · by_cases hlt : M < v
        · rw [if_pos (.inr hlt)]; show v = max _ _; omega
        · rw [if_neg (by omega)]; show M = max _ _; omega
theorem best_rise {ps : List Pt.Point} {k : Nat} (ht : ∀ j, j < k → (ps.getD j z0).2.1 = (j : Int)) (hk : 0 < k) : bestK ps k = k - 1 := by
  obtain ⟨m, rfl⟩ : ∃ m, k = m + 1 := ⟨k - 1, by omega⟩
  rw [bestK, if_pos]
  · rfl
  · rw [ht m (by omega)]
    by_cases h0 : m = 0
    · subst h0
      have h0' : bestK ps 0 = 0 := rfl
      rw [h0', ht 0 (by omega)]; omega
    · have hb := best_lt ps m (by omega)
      rw [ht (bestK ps m) (by omega)]; omega
theorem sumI_all {k : Nat} {ps : List Pt.Point} {S L M : Int} (h : SumI k ps S L M) : ps.all okP = true := List.all_eq_true.2 fun p hp => h.small p hp
theorem sums_count {k : Nat} {ps : List Pt.Point} {S L M : Int} (h : SumI k ps S L M) (hk : k ≤ 200) : aggR ps 1 = ((ps.length : Int), true, 0) := agg_count (by have := h.len; omega) (sumI_all h) rfl
theorem sums_none {k : Nat} {ps : List Pt.Point} {S L M : Int} (h : SumI k ps S L M) (hk : k = 0) (agg : Int) (h0 : 0 ≤ agg ∧ agg ≤ 4) (h1 : agg ≠ 1) : aggR ps agg = (0, false, 0) := agg_none (by have := h.len; omega) (sumI_all h) h1 (by rw [h.len]; exact hk)
theorem sums_sum {k : Nat} {ps : List Pt.Point} {S L M : Int} (h : SumI k ps S L M) (hk : k ≤ 200) (h0 : 0 < k) : aggR ps 2 = (S, true, 0) := by
  rw [agg_pick (by have := h.len; omega) (sumI_all h) (by omega) (by have := h.len; omega), h.sum]
  unfold pickV; simp [h.len]
theorem sums_least {k : Nat} {ps : List Pt.Point} {S L M : Int} (h : SumI k ps S L M) (hk : k ≤ 200) (h0 : 0 < k) : aggR ps 3 = (L, true, 0) := by
  rcases h.ends with e | ⟨e, _⟩
  · omega
  · rw [agg_pick (by have := h.len; omega) (sumI_all h) (by omega) (by have := h.len; omega), e]
    unfold pickV; simp [h.len]
theorem sums_most {k : Nat} {ps : List Pt.Point} {S L M : Int} (h : SumI k ps S L M) (hk : k ≤ 200) (h0 : 0 < k) : aggR ps 4 = (M, true, 0) := by
  rcases h.ends with e | ⟨_, e⟩
  · omega
  · rw [agg_pick (by have := h.len; omega) (sumI_all h) (by omega) (by have := h.len; omega), e]
    unfold pickV; simp [h.len]
theorem sums_last {k : Nat} {ps : List Pt.Point} {S L M : Int} (h : SumI k ps S L M) (hk : k ≤ 200) (h0 : 0 < k) : aggR ps 0 = ((ps.getD (k - 1) z0).2.2, true, 0) := by
  rw [agg_pick (by have := h.len; omega) (sumI_all h) (by omega) (by have := h.len; omega)]
  unfold pickV
  rw [if_pos rfl, h.len, best_rise h.time h0]
end Go.Proofs.Ythdbmgjlegpbaaa.Qr
