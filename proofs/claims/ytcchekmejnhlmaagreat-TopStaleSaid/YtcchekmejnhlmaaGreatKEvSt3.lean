/- TopStale's ends, part 3. -/
import Derived.Test.YtcchekmejnhlmaaGreatKEvSt
import Derived.KernelRfl
namespace Go.Proofs.YtcchekmejnhlmaaGreat
namespace Ev
noncomputable section
set_option maxRecDepth 1000000
theorem ts_4 (x : Int) : tsEnd x 4 = true := by kernel_rfl
theorem ts_5 (x : Int) : tsEnd x 5 = true := by kernel_rfl
end
end Ev
end Go.Proofs.YtcchekmejnhlmaaGreat
