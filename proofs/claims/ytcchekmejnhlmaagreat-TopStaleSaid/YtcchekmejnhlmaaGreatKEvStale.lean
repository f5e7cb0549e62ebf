/- TopStale: for every number the call hands back true, and nothing that lay in memory turns. -/
import Derived.Test.YtcchekmejnhlmaaGreatKEvSt1
import Derived.Test.YtcchekmejnhlmaaGreatKEvSt2
import Derived.Test.YtcchekmejnhlmaaGreatKEvSt3
import Derived.Test.YtcchekmejnhlmaaGreatKEvSt4
namespace Go.Proofs.YtcchekmejnhlmaaGreat
namespace Ev
open Go.RowKit
noncomputable section
set_option linter.unusedVariables false
set_option maxRecDepth 100000
theorem ts_all (x : Int) (j : Nat) (hj : j ≤ 7) : tsEnd x j = true := by
  have : j = 0 ∨ j = 1 ∨ j = 2 ∨ j = 3 ∨ j = 4 ∨ j = 5 ∨ j = 6 ∨ j = 7 := by omega
  rcases this with rfl | rfl | rfl | rfl | rfl | rfl | rfl | rfl
  · exact ts_0 x
  · exact ts_1 x
  · exact ts_2 x
  · exact ts_3 x
  · exact ts_4 x
  · exact ts_5 x
  · exact ts_6 x
  · exact ts_7 x
theorem ts_get : kGet kt 3 = some z3 := by kernel_rfl
theorem ts_nt : Nat.ble 1 (KF.nt z3) = true := by kernel_rfl
theorem topStale_walk (x : Int) (hw : (Lit.int .i64 x).wf = true) (w : World) : Calls Tryz.prog 3 #[.int .i64 x] w fun e w' => e = .returned (.bool true) ∧ Below w.heap.size w w' :=
  calls_cut ts_get (by decide) ts_shape (by simp [tsL]) ts_R S1_ok 100 ts_nt (ts_args x) (ts_head x) (ts_reg x) (ts_all x) w
end
end Ev
open Go.RowKit in
theorem topStale_walk (x : Int) (hw : (Lit.int .i64 x).wf = true) (w : World) : Calls Tryz.prog 3 #[.int .i64 x] w fun e w' => e = .returned (.bool true) ∧ Below w.heap.size w w' := Ev.topStale_walk x hw w
end Go.Proofs.YtcchekmejnhlmaaGreat
