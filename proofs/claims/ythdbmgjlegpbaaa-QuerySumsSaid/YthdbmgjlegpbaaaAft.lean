/- Worlds behind some new memory, as a class for a region that draws its order and whose calls make memory but answer the same whatever the order. -/
import Derived.Test.YthdbmgjlegpbaaaBase
namespace Go.Proofs.Ythdbmgjlegpbaaa
open Go.RowKit

/-- a world that is as W was below block B -/
structure Aft (B : Nat) (W : World) where
  world : World
  below : Below B W world
instance (B : Nat) (W : World) : Nonempty (Aft B W) := ⟨⟨W, Below.refl B W⟩⟩

section
variable {P : Program} {B : Nat} {W : World}
theorem wp_region_aft (B : Nat) (W : World) {id : Nat} {Q : Exit → Act → World → Prop} {a : Act} {w : World} {l : List Oper} (hm : P.follows .mixedOrders = true) (hB : Region.lexB .any l.toArray = true) (hb : Below B W w)
    (h : wpQuiet P l.toArray (fun w' => ∃ x : Aft B W, w' = x.world) (fun a' => ∀ w', (∃ x : Aft B W, w' = x.world) → Q .normal a' w') l a) : (Code.region id l.toArray true).wp P Q a w :=
  wp_region_quiet (C := fun w' => ∃ x : Aft B W, w' = x.world) hm hB ⟨⟨w.drew, hb.drew⟩, rfl⟩ (by simpa using h)
variable {f : FuncId} {args : Array Value} {v : Value} {x : Aft B W}
/-- a call that makes memory -/
theorem aft_new (hB : B ≤ W.heap.size) (h : Calls P f args x.world fun e w' => e = .returned v ∧ Below x.world.heap.size x.world w') : Calls P f args x.world fun e w'' => e = .returned v ∧ ∃ y : Aft B W, w'' = y.world :=
  h.mono fun _ w' ⟨he, hb⟩ => ⟨he, ⟨w', x.below.trans (hb.mono (Nat.le_trans hB x.below.size))⟩, rfl⟩
/-- a call that leaves the world -/
theorem aft_same (h : Calls P f args x.world fun e w' => e = .returned v ∧ x.world = w') : Calls P f args x.world fun e w'' => e = .returned v ∧ ∃ y : Aft B W, w'' = y.world :=
  h.mono fun _ _ ⟨he, hb⟩ => ⟨he, x, hb.symm⟩
/-- a call that draws -/
theorem aft_drew (h : Calls P f args x.world fun e w' => e = .returned v ∧ ∃ n, w' = x.world.drewN n) : Calls P f args x.world fun e w'' => e = .returned v ∧ ∃ y : Aft B W, w'' = y.world :=
  h.mono fun _ _ ⟨he, n, hb⟩ => ⟨he, ⟨_, below_drewN x.below n⟩, hb⟩
theorem Aft.cell (x : Aft B W) {p : Addr} (hp : p.block < B) : x.world.cell? p = W.cell? p := x.below.cell hp
theorem Aft.reads (x : Aft B W) {size n : Nat} {A : Option Addr} {xs : List Value} (h : Reads W B size A n xs) : Reads x.world B size A n xs := h.below x.below
end
end Go.Proofs.Ythdbmgjlegpbaaa
