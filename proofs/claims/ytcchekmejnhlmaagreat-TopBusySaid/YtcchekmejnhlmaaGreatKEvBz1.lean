/- TopBusy's runs, part 1. -/
import Derived.Test.YtcchekmejnhlmaaGreatKEvBz
import Derived.KernelRfl
namespace Go.Proofs.YtcchekmejnhlmaaGreat
namespace Ev
noncomputable section
set_option maxRecDepth 1000000
theorem bz_0 (x : Int) : bzC x 0 = true := by kernel_rfl
theorem bz_1 (x : Int) : bzC x 1 = true := by kernel_rfl
theorem bz_2 (x : Int) : bzC x 2 = true := by kernel_rfl
theorem bz_3 (x : Int) : bzC x 3 = true := by kernel_rfl
end
end Ev
end Go.Proofs.YtcchekmejnhlmaaGreat
