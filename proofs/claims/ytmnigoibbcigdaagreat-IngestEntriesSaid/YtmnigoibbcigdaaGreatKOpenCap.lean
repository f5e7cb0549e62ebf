/- A slice argument's length and capacity. No program in sight. -/
import Derived.Test.YtmnigoibbcigdaaGreatK11
namespace Go.Proofs.YtmnigoibbcigdaaGreat
open Go.RowKit
set_option linter.unusedVariables false

theorem okWide_cap {P : Program} {w : World} {r : Reach} {base : Nat} {t e : TypeId} {A : Option Addr} {n c : Nat} (ht : P.underlying t = some (.slice e)) (h : Value.okWide P w r base t (.slice A n c)) : n ≤ c ∧ (A = none → n = 0 ∧ c = 0) := by
  simp only [Value.okWide, ht, Cell.okWide] at h
  cases A with
  | some a =>
    simp only [Cell.ok, ht] at h
    exact ⟨h.1, fun h => by cases h⟩
  | none =>
    rcases n with _ | n
    · rcases c with _ | c
      · exact ⟨Nat.le_refl _, fun _ => ⟨rfl, rfl⟩⟩
      · simp [Cell.ok, ht] at h
    · simp [Cell.ok, ht] at h
end Go.Proofs.YtmnigoibbcigdaaGreat
