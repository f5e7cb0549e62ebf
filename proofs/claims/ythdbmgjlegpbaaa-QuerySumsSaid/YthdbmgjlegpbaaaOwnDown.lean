/- Small facts on own rows. -/
import Derived.Test.YthdbmgjlegpbaaaFrame
namespace Go.Proofs.Ythdbmgjlegpbaaa
open Go.RowKit
set_option linter.unusedVariables false

theorem own_ne_lt {w : World} {base : Nat} {e : TypeId} {size n : Nat} {v : Value} {xs : List Value} (h : w.ownsRow base e size v n xs) {g : Nat} (hg : g < base) : v.ownBlock ≠ some g := fun k => by have := (own_lt h k).1; omega
theorem only_ne {w w' : World} {g g' : Nat} (h : Only (fun k => k = g) w w') (hg : g' ≠ g) : Only (fun k => k ≠ g') w w' := h.mono fun j _ hj => by rw [hj]; exact fun k => hg k.symm
theorem own_down {w : World} {base base' : Nat} {e : TypeId} {size n : Nat} {v : Value} {xs : List Value} (h : w.ownsRow base e size v n xs) (hb : base' ≤ base) : w.ownsRow base' e size v n xs :=
  ⟨h.1, by
    rcases h.2 with h0 | ⟨g, cap, cur, e1, e2, e3⟩
    · exact .inl h0
    · exact .inr ⟨g, cap, cur, e1, Nat.le_trans hb e2, e3⟩⟩
end Go.Proofs.Ythdbmgjlegpbaaa
