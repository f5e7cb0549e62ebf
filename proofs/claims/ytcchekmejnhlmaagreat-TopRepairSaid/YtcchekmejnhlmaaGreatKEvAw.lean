/- Joined texts. -/
import Derived.Test.YtcchekmejnhlmaaGreatKEvMg
import Derived.KernelRfl
namespace Go.Proofs.YtcchekmejnhlmaaGreat
namespace Ev
open Go.RowKit
noncomputable section
set_option linter.unusedVariables false
set_option maxRecDepth 1000000
theorem awake_run : okB (callK kt S0 100 8 [] .z 0) = true := by kernel_rfl
theorem awake_ok : SumOk1 Tryz.prog 8 sTrue := by
  obtain ⟨H, n, h⟩ := okB_ok awake_run
  exact sTrue_ok (calls_made S0_ok 100) h
def S1 : SumT := addS 8 sTrue S0
theorem S1_ok : SumOk Tryz.prog S1 := addS_ok ⟨_, Tryz.func8, by kernel_rfl, by kernel_rfl⟩ awake_ok S0_ok
end
end Ev
end Go.Proofs.YtcchekmejnhlmaaGreat
