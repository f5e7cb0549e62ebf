/- Values out of segments in plain words: aggregates (chapter 15). No program in sight. -/
import Derived.Test.YthdbmgjlegpbaaaPtPlain
namespace Go.Proofs.Ythdbmgjlegpbaaa.Qr
open Go.Proofs.Ythdbmgjlegpbaaa
set_option linter.unusedVariables false

def z0 : Pt.Point := (⟨#[]⟩, 0, 0)
def sumK (ps : List Pt.Point) : Nat → Int
  | 0 => 0
  | k + 1 => sumK ps k + (ps.getD k z0).2.2
def leastK (ps : List Pt.Point) : Nat → Int
  | 0 => 9223372036854775807
  | k + 1 => min (leastK ps k) (ps.getD k z0).2.2
def mostK (ps : List Pt.Point) : Nat → Int
  | 0 => -9223372036854775808
  | k + 1 => max (mostK ps k) (ps.getD k z0).2.2
def bestK (ps : List Pt.Point) : Nat → Nat
  | 0 => 0
  | k + 1 => if (ps.getD (bestK ps k) z0).2.1 ≤ (ps.getD k z0).2.1 then k else bestK ps k
def okP (p : Pt.Point) : Bool := Pt.smallB p.2.2
def pickV (ps : List Pt.Point) (agg : Int) : Int :=
  if agg = 0 then (ps.getD (bestK ps ps.length) z0).2.2 else if agg = 2 then sumK ps ps.length else if agg = 3 then leastK ps ps.length else mostK ps ps.length
def aggR (ps : List Pt.Point) (agg : Int) : Int × Bool × Int :=
  if agg < 0 ∨ 4 < agg ∨ 65536 < ps.length ∨ ps.all okP = false then (0, false, 1500)
  else if agg = 1 then ((ps.length : Int), true, 0)
  else if ps.length = 0 then (0, false, 0)
  else (pickV ps agg, true, 0)
theorem getD_lt {ps : List Pt.Point} {k : Nat} (hk : k < ps.length) : ps.getD k z0 = ps[k] := by
  rw [List.getD_eq_getElem?_getD, List.getElem?_eq_getElem hk]; rfl
theorem all_step {ps : List Pt.Point} {k : Nat} (hk : k < ps.length) (h : (ps.take k).all okP = true) (hp : Pt.smallB ps[k].2.2 = true) : (ps.take (k + 1)).all okP = true := by
  rw [List.take_succ_eq_append_getElem hk, List.all_append, h]; simp [okP, hp]
theorem all_stop {ps : List Pt.Point} {k : Nat} (hk : k < ps.length) (hp : Pt.smallB ps[k].2.2 = false) (agg : Int) : aggR ps agg = (0, false, 1500) := by
  unfold aggR
  rw [if_pos]
  right; right; right
  rw [List.all_eq_false]
  exact ⟨ps[k], List.getElem_mem _, by unfold okP; rw [hp]; simp⟩
theorem agg_form {ps : List Pt.Point} {agg : Int} (h : agg < 0 ∨ 4 < agg ∨ 65536 < ps.length) : aggR ps agg = (0, false, 1500) := by
  unfold aggR; rw [if_pos (by rcases h with h | h | h; exact .inl h; exact .inr (.inl h); exact .inr (.inr (.inl h)))]
theorem agg_count {ps : List Pt.Point} {agg : Int} (h : ¬ (agg < 0 ∨ 4 < agg ∨ 65536 < ps.length)) (ha : ps.all okP = true) (h1 : agg = 1) : aggR ps agg = ((ps.length : Int), true, 0) := by
  unfold aggR; rw [if_neg (by rintro (q | q | q | q); exact h (.inl q); exact h (.inr (.inl q)); exact h (.inr (.inr q)); rw [ha] at q; cases q), if_pos h1]
theorem agg_none {ps : List Pt.Point} {agg : Int} (h : ¬ (agg < 0 ∨ 4 < agg ∨ 65536 < ps.length)) (ha : ps.all okP = true) (h1 : agg ≠ 1) (h0 : ps.length = 0) : aggR ps agg = (0, false, 0) := by
  unfold aggR; rw [if_neg (by rintro (q | q | q | q); exact h (.inl q); exact h (.inr (.inl q)); exact h (.inr (.inr q)); rw [ha] at q; cases q), if_neg h1, if_pos h0]
theorem agg_pick {ps : List Pt.Point} {agg : Int} (h : ¬ (agg < 0 ∨ 4 < agg ∨ 65536 < ps.length)) (ha : ps.all okP = true) (h1 : agg ≠ 1) (h0 : ps.length ≠ 0) : aggR ps agg = (pickV ps agg, true, 0) := by
  unfold aggR; rw [if_neg (by rintro (q | q | q | q); exact h (.inl q); exact h (.inr (.inl q)); exact h (.inr (.inr q)); rw [ha] at q; cases q), if_neg h1, if_neg h0]
theorem best_lt (ps : List Pt.Point) (k : Nat) (hk : 0 < k) : bestK ps k < k := by
  induction k with
  | zero => omega
  | succ k ih =>
    rw [bestK]
    split
    · omega
    · by_cases e : k = 0
      · subst e; simp [bestK]
      · have := ih (by omega); omega
theorem best_yes {ps : List Pt.Point} {k b : Nat} (h : bestK ps k = b) (ht : (ps.getD b z0).2.1 ≤ (ps.getD k z0).2.1) : bestK ps (k + 1) = k := by rw [bestK, h, if_pos ht]
theorem best_no {ps : List Pt.Point} {k b : Nat} (h : bestK ps k = b) (ht : ¬ (ps.getD b z0).2.1 ≤ (ps.getD k z0).2.1) : bestK ps (k + 1) = b := by rw [bestK, h, if_neg ht]
theorem best_one (ps : List Pt.Point) : bestK ps 1 = 0 := by rw [bestK]; split; rfl; rw [bestK]
theorem least_le (ps : List Pt.Point) (k j : Nat) (hj : j < k) : leastK ps k ≤ (ps.getD j z0).2.2 := by
  induction k with
  | zero => omega
  | succ k ih =>
    rw [leastK]
    by_cases e : j = k
    · subst e; omega
    · have := ih (by omega); omega
theorem le_most (ps : List Pt.Point) (k j : Nat) (hj : j < k) : (ps.getD j z0).2.2 ≤ mostK ps k := by
  induction k with
  | zero => omega
  | succ k ih =>
    rw [mostK]
    by_cases e : j = k
    · subst e; omega
    · have := ih (by omega); omega
end Go.Proofs.Ythdbmgjlegpbaaa.Qr
