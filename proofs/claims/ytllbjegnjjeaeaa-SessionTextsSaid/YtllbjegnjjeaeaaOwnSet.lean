/- A cell of a row of the call's own, written. -/
import Derived.Test.YtllbjegnjjeaeaaFrame
namespace Go.Proofs.Ytllbjegnjjeaeaa
open Go.RowKit
set_option linter.unusedVariables false

theorem own_set {w : World} {base g : Nat} {e : TypeId} {size n cap : Nat} {xs : List Value} (h : w.ownsRow base e size (.slice (some ⟨g, 0, none⟩) n cap) n xs) (j : Nat) (u : Value) :
    (w.setCell ⟨g, j, none⟩ u).ownsRow base e size (.slice (some ⟨g, 0, none⟩) n cap) n (xs.set j u) := by
  refine ⟨by rw [List.length_set]; exact h.1, ?_⟩
  rcases h.2 with ⟨hv, _⟩ | ⟨g', cap', cur, hv, hg, hh, hnc, hcm, hcs, hx⟩
  · cases hv
  · injection hv with e1 e2 e3
    injection e1 with e1
    injection e1 with e1
    subst e1; subst e3
    have hB : Blk w g e cur := hh
    exact .inr ⟨g, cap, cur.setIfInBounds j u, rfl, hg, hB.set_ j u, hnc, hcm, by rw [Array.size_setIfInBounds]; exact hcs, by rw [Array.toList_setIfInBounds, List.take_set, hx]⟩
theorem own_frozen {w : World} {base g : Nat} {e : TypeId} {size n cap : Nat} {xs : List Value} (h : w.ownsRow base e size (.slice (some ⟨g, 0, none⟩) n cap) n xs) (j : Nat) : w.frozen? ⟨g, j, none⟩ = false := by
  rcases h.2 with ⟨hv, _⟩ | ⟨g', cap', cur, hv, hg, hh, hnc, hcm, hcs, hx⟩
  · cases hv
  · injection hv with e1 e2 e3
    injection e1 with e1
    injection e1 with e1
    subst e1
    have hB : Blk w g e cur := hh
    exact hB.frozen j
/-- the row's form where it is not empty -/
theorem own_some {w : World} {base : Nat} {e : TypeId} {size n cap : Nat} {A : Option Addr} {xs : List Value} (h : w.ownsRow base e size (.slice A n cap) n xs) (hn : 0 < n) : ∃ g, A = some ⟨g, 0, none⟩ ∧ base ≤ g ∧ g < w.heap.size := by
  obtain ⟨g, c, hv, hg, hlt⟩ := h.form hn
  injection hv with e1 e2 e3
  exact ⟨g, e1, hg, hlt⟩
theorem own_cell {w : World} {base g : Nat} {e : TypeId} {size n cap : Nat} {xs : List Value} (h : w.ownsRow base e size (.slice (some ⟨g, 0, none⟩) n cap) n xs) {j : Nat} {u : Value} (hu : xs[j]? = some u) : w.cell? ⟨g, j, none⟩ = some u := by
  have := h.cells (g := g) rfl j u hu
  rwa [add_mk, Nat.zero_add] at this
theorem flat_set {α : Type} (f : α → List Value) (size : Nat) (hf : ∀ x, (f x).length = size) (xs : List α) (k j : Nat) (y : α) (u : Value) (hk : k < xs.length) (hj : j < size) (hy : f y = (f xs[k]).set j u) : (xs.flatMap f).set (k * size + j) u = (xs.set k y).flatMap f := by
  induction xs generalizing k with
  | nil => simp at hk
  | cons x xs ih =>
    cases k with
    | zero =>
      rw [List.flatMap_cons, Nat.zero_mul, Nat.zero_add, List.set_append, if_pos (by rw [hf]; exact hj), List.set_cons_zero, List.flatMap_cons, hy]; rfl
    | succ k =>
      rw [List.flatMap_cons, List.set_append, if_neg (by rw [hf, Nat.add_mul]; omega), hf, show (k + 1) * size + j - size = k * size + j from by rw [Nat.add_mul]; omega, List.set_cons_succ, List.flatMap_cons, ih k (by simpa using hk) (by simpa using hy)]
end Go.Proofs.Ytllbjegnjjeaeaa
