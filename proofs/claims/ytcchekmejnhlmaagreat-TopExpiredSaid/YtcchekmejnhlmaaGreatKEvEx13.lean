/- Joined texts. -/
import Derived.Test.YtcchekmejnhlmaaGreatKEvEx
import Derived.KernelRfl
namespace Go.Proofs.YtcchekmejnhlmaaGreat
namespace Ev
open Go.RowKit
noncomputable section
set_option linter.unusedVariables false
set_option maxRecDepth 1000000
theorem ex_r13 (x : Int) : gcO exG14 (runK callB4 exL (exT13 x) exH13 (List.length exG13)) = some (exT14 x, exH14) := by kernel_rfl
end
end Ev
end Go.Proofs.YtcchekmejnhlmaaGreat
