/- TopBusy's runs, part 2. -/
import Derived.Test.YtcchekmejnhlmaaGreatKEvBz
import Derived.KernelRfl
namespace Go.Proofs.YtcchekmejnhlmaaGreat
namespace Ev
noncomputable section
set_option maxRecDepth 1000000
theorem bz_4 (x : Int) : bzC x 4 = true := by kernel_rfl
theorem bz_5 (x : Int) : bzC x 5 = true := by kernel_rfl
theorem bz_6 (x : Int) : bzC x 6 = true := by kernel_rfl
theorem bz_7 (x : Int) : bzC x 7 = true := by kernel_rfl
end
end Ev
end Go.Proofs.YtcchekmejnhlmaaGreat
