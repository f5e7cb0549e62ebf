/- Joined texts. -/
import Derived.Test.YtcchekmejnhlmaaGreatKEvEx
import Derived.KernelRfl
namespace Go.Proofs.YtcchekmejnhlmaaGreat
namespace Ev
open Go.RowKit
noncomputable section
set_option linter.unusedVariables false
set_option maxRecDepth 1000000
theorem ex_r14 (x : Int) : gcO exG15 (runK callB4 exL (exT14 x) exH14 (List.length exG14)) = some (exT15 x, exH15) := by kernel_rfl
end
end Ev
end Go.Proofs.YtcchekmejnhlmaaGreat
