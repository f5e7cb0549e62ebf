/- Joined texts. -/
import Derived.Test.YtcchekmejnhlmaaGreatKEvEx
import Derived.KernelRfl
namespace Go.Proofs.YtcchekmejnhlmaaGreat
namespace Ev
open Go.RowKit
noncomputable section
set_option linter.unusedVariables false
set_option maxRecDepth 1000000
theorem ex_r02 (x : Int) : gcO exG03 (runK callB4 exL (exT02 x) exH02 (List.length exG02)) = some (exT03 x, exH03) := by kernel_rfl
end
end Ev
end Go.Proofs.YtcchekmejnhlmaaGreat
