/- TopStale's ends, part 1. -/
import Derived.Test.YtcchekmejnhlmaaGreatKEvSt
import Derived.KernelRfl
namespace Go.Proofs.YtcchekmejnhlmaaGreat
namespace Ev
noncomputable section
set_option maxRecDepth 1000000
theorem ts_0 (x : Int) : tsEnd x 0 = true := by kernel_rfl
theorem ts_1 (x : Int) : tsEnd x 1 = true := by kernel_rfl
end
end Ev
end Go.Proofs.YtcchekmejnhlmaaGreat
