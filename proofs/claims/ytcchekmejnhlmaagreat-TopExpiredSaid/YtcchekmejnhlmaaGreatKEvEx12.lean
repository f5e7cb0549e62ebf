/- Joined texts. -/
import Derived.Test.YtcchekmejnhlmaaGreatKEvEx
import Derived.KernelRfl
namespace Go.Proofs.YtcchekmejnhlmaaGreat
namespace Ev
open Go.RowKit
noncomputable section
set_option linter.unusedVariables false
set_option maxRecDepth 1000000
theorem ex_r12 (x : Int) : gcO exG13 (runK callB4 exL (exT12 x) exH12 (List.length exG12)) = some (exT13 x, exH13) := by kernel_rfl
end
end Ev
end Go.Proofs.YtcchekmejnhlmaaGreat
