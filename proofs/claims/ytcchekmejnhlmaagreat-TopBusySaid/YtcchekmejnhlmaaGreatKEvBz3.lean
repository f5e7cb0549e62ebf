/- TopBusy's runs, part 3. -/
import Derived.Test.YtcchekmejnhlmaaGreatKEvBz
import Derived.KernelRfl
namespace Go.Proofs.YtcchekmejnhlmaaGreat
namespace Ev
noncomputable section
set_option maxRecDepth 1000000
theorem bz_8 (x : Int) : bzC x 8 = true := by kernel_rfl
theorem bz_9 (x : Int) : bzC x 9 = true := by kernel_rfl
theorem bz_10 (x : Int) : bzC x 10 = true := by kernel_rfl
theorem bz_11 (x : Int) : bzC x 11 = true := by kernel_rfl
end
end Ev
end Go.Proofs.YtcchekmejnhlmaaGreat
