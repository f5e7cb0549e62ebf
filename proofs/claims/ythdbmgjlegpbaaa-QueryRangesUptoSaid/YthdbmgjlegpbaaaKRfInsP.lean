/- The reference's Insert, plain: into a sorted list it is the buffer's own way of taking a point. -/
import Derived.Test.YthdbmgjlegpbaaaK9
namespace Go.Proofs.Ythdbmgjlegpbaaa
set_option linter.unusedVariables false
namespace Rf
open Ig
def like (p q : Pt.Point) : Bool := decide (q.1 = p.1) && decide (q.2.1 = p.2.1)
def step (p : Pt.Point) (s : List Pt.Point × Bool) (q : Pt.Point) : List Pt.Point × Bool :=
  ((s.1 ++ (if (!s.2 && (like p q || Pt.lessB p q)) = true then [p] else [])) ++ (if like p q = true then [] else [q]), s.2 || (like p q || Pt.lessB p q))
def st (p : Pt.Point) (l : List Pt.Point) : List Pt.Point × Bool := l.foldl (step p) ([], false)
def res (p : Pt.Point) (l : List Pt.Point) : List Pt.Point := if (st p l).2 = true then (st p l).1 else (st p l).1 ++ [p]
theorem st_nil (p : Pt.Point) : st p [] = ([], false) := rfl
theorem st_snoc (p : Pt.Point) (l : List Pt.Point) (k : Nat) (hk : k < l.length) : st p (l.take (k + 1)) = step p (st p (l.take k)) l[k] := by
  unfold st
  rw [List.take_succ_eq_append_getElem hk, List.foldl_append]; rfl
theorem st_len (p : Pt.Point) (l : List Pt.Point) : (st p l).1.length + (if (st p l).2 = true then 0 else 1) ≤ l.length + 1 := by
  have key : ∀ k, k ≤ l.length → (st p (l.take k)).1.length + (if (st p (l.take k)).2 = true then 0 else 1) ≤ k + 1 := fun k => by
    induction k with
    | zero => intro _; simp [st]
    | succ k ih =>
      intro hk
      have h := ih (by omega)
      rw [st_snoc p l k (by omega)]
      generalize st p (l.take k) = s at *
      generalize l[k]'(by omega) = q
      obtain ⟨o, b⟩ := s
      unfold step
      dsimp only at h ⊢
      cases b <;> cases like p q <;> cases Pt.lessB p q <;> simp at h ⊢ <;> omega
  have := key l.length (Nat.le_refl _)
  rwa [List.take_length] at this
theorem st_len_k (p : Pt.Point) (l : List Pt.Point) (k : Nat) (hk : k ≤ l.length) : (st p (l.take k)).1.length ≤ l.length + 1 := by
  have := st_len p (l.take k)
  rw [List.length_take] at this
  omega
theorem like_cmp (p q : Pt.Point) : like p q = decide (Pt.cmpP q p = 0) := by
  unfold like
  by_cases h : Pt.cmpP q p = 0
  · obtain ⟨h1, h2⟩ := cmp_same h
    rw [decide_eq_true h, decide_eq_true h1, decide_eq_true h2]; rfl
  · rw [decide_eq_false h]
    by_cases h1 : q.1 = p.1
    · by_cases h2 : q.2.1 = p.2.1
      · refine absurd ?_ h
        unfold Pt.cmpP
        rw [h1, h2, cb_self]
        simp [orV, Lib.compareInt]
      · rw [decide_eq_false h2, Bool.and_false]
    · rw [decide_eq_false h1, Bool.false_and]
theorem less_cmp (p q : Pt.Point) : Pt.lessB p q = decide (Pt.cmpP p q < 0) := rfl
theorem fold_ahead (p : Pt.Point) (l : List Pt.Point) (o : List Pt.Point) (h : ∀ q ∈ l, Pt.cmpP q p < 0) : l.foldl (step p) (o, false) = (o ++ l, false) := by
  induction l generalizing o with
  | nil => simp
  | cons q l ih =>
    have h1 := h q (List.mem_cons_self ..)
    have h2 : like p q = false := by rw [like_cmp]; exact decide_eq_false (by omega)
    have h3 : Pt.lessB p q = false := by rw [less_cmp]; exact decide_eq_false (by rw [cmp_neg]; omega)
    have hs : step p (o, false) q = (o ++ [q], false) := by unfold step; simp [h2, h3]
    rw [List.foldl_cons, hs, ih _ (fun x hx => h x (List.mem_cons_of_mem _ hx)), List.append_assoc]; rfl
theorem fold_behind (p : Pt.Point) (l : List Pt.Point) (o : List Pt.Point) (h : ∀ q ∈ l, Pt.cmpP q p ≠ 0) : l.foldl (step p) (o, true) = (o ++ l, true) := by
  induction l generalizing o with
  | nil => simp
  | cons q l ih =>
    have h2 : like p q = false := by rw [like_cmp]; exact decide_eq_false (h q (List.mem_cons_self ..))
    have hs : step p (o, true) q = (o ++ [q], true) := by unfold step; simp [h2]
    rw [List.foldl_cons, hs, ih _ (fun x hx => h x (List.mem_cons_of_mem _ hx)), List.append_assoc]; rfl
theorem res_set {l : List Pt.Point} (p : Pt.Point) (h : Sorted l) : res p l = setP l p := by
  have hle := lo_le l p
  have hA : (l.take (lo l p)).foldl (step p) ([], false) = (l.take (lo l p), false) := by
    have := fold_ahead p (l.take (lo l p)) [] fun q hq => by
      obtain ⟨i, hi, rfl⟩ := List.getElem_of_mem hq
      rw [List.length_take] at hi
      rw [List.getElem_take]
      exact lo_ahead i (by omega)
    simpa using this
  have hB : ∀ hl : lo l p < l.length, ∀ q ∈ l.drop (lo l p + 1), Pt.cmpP q p ≠ 0 := fun hl q hq => by
    obtain ⟨i, hi, rfl⟩ := List.getElem_of_mem hq
    rw [List.length_drop] at hi
    rw [List.getElem_drop]
    have h1 := h (lo l p) (lo l p + 1 + i) (by omega) (by omega)
    have h2 := lo_behind hl
    intro e
    have h3 := cmp_right (c := l[lo l p]) e
    have h4 : Pt.cmpP l[lo l p] p < 0 := by rw [← h3]; exact h1
    exact h2 h4
  by_cases hl : lo l p < l.length
  · have hsp : l = l.take (lo l p) ++ l[lo l p] :: l.drop (lo l p + 1) := by rw [← List.drop_eq_getElem_cons hl, List.take_append_drop]
    have hst : st p l = (l.drop (lo l p + 1)).foldl (step p) (step p (l.take (lo l p), false) l[lo l p]) := by
      unfold st
      conv => lhs; rw [hsp]
      rw [List.foldl_append, List.foldl_cons, hA]
    by_cases hh : has l p = true
    · obtain ⟨_, h0⟩ := has_lt hh
      have h2 : like p l[lo l p] = true := by rw [like_cmp]; exact decide_eq_true h0
      have hs : step p (l.take (lo l p), false) l[lo l p] = (l.take (lo l p) ++ [p], true) := by unfold step; simp [h2]
      rw [hs, fold_behind p _ _ (hB hl)] at hst
      unfold res setP
      rw [hst, if_pos rfl, if_pos hh, List.set_eq_take_append_cons_drop, if_pos hl, List.append_assoc]; rfl
    · have h0 : Pt.cmpP l[lo l p] p ≠ 0 := fun e => hh (by rw [has_at rfl hl]; exact decide_eq_true e)
      have hb := lo_behind hl
      have h2 : like p l[lo l p] = false := by rw [like_cmp]; exact decide_eq_false h0
      have h3 : Pt.lessB p l[lo l p] = true := by rw [less_cmp]; exact decide_eq_true (by rw [cmp_neg]; omega)
      have hs : step p (l.take (lo l p), false) l[lo l p] = (l.take (lo l p) ++ [p] ++ [l[lo l p]], true) := by unfold step; simp [h2, h3]
      rw [hs, fold_behind p _ _ (hB hl)] at hst
      unfold res setP
      rw [hst, if_pos rfl, if_neg hh, List.drop_eq_getElem_cons hl]; simp
  · have hn : has l p = false := has_end rfl hl
    have he : lo l p = l.length := by omega
    rw [he, List.take_length] at hA
    unfold res setP st
    rw [hA, hn, he]; simp
end Rf
end Go.Proofs.Ythdbmgjlegpbaaa
