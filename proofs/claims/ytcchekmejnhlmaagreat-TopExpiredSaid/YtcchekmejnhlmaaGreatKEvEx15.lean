/- Joined texts. -/
import Derived.Test.YtcchekmejnhlmaaGreatKEvEx
import Derived.KernelRfl
namespace Go.Proofs.YtcchekmejnhlmaaGreat
namespace Ev
open Go.RowKit
noncomputable section
set_option linter.unusedVariables false
set_option maxRecDepth 1000000
theorem ex_r15 (x : Int) : gcO exG16 (runK callB4 exL (exT15 x) exH15 (List.length exG15)) = some (exT16 x, exH16) := by kernel_rfl
end
end Ev
end Go.Proofs.YtcchekmejnhlmaaGreat
