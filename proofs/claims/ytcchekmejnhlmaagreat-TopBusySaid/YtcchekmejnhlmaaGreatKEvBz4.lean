/- TopBusy's runs, part 4. -/
import Derived.Test.YtcchekmejnhlmaaGreatKEvBz
import Derived.KernelRfl
namespace Go.Proofs.YtcchekmejnhlmaaGreat
namespace Ev
noncomputable section
set_option maxRecDepth 1000000
theorem bz_12 (x : Int) : bzC x 12 = true := by kernel_rfl
theorem bz_13 (x : Int) : bzC x 13 = true := by kernel_rfl
theorem bz_14 (x : Int) : bzC x 14 = true := by kernel_rfl
theorem bz_15 (x : Int) : bzC x 15 = true := by kernel_rfl
end
end Ev
end Go.Proofs.YtcchekmejnhlmaaGreat
