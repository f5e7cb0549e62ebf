/- TopStale's ends, part 2. -/
import Derived.Test.YtcchekmejnhlmaaGreatKEvSt
import Derived.KernelRfl
namespace Go.Proofs.YtcchekmejnhlmaaGreat
namespace Ev
noncomputable section
set_option maxRecDepth 1000000
theorem ts_2 (x : Int) : tsEnd x 2 = true := by kernel_rfl
theorem ts_3 (x : Int) : tsEnd x 3 = true := by kernel_rfl
end
end Ev
end Go.Proofs.YtcchekmejnhlmaaGreat
