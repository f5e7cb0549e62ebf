/- TopStale's ends, part 4. -/
import Derived.Test.YtcchekmejnhlmaaGreatKEvSt
import Derived.KernelRfl
namespace Go.Proofs.YtcchekmejnhlmaaGreat
namespace Ev
noncomputable section
set_option maxRecDepth 1000000
theorem ts_6 (x : Int) : tsEnd x 6 = true := by kernel_rfl
theorem ts_7 (x : Int) : tsEnd x 7 = true := by kernel_rfl
end
end Ev
end Go.Proofs.YtcchekmejnhlmaaGreat
