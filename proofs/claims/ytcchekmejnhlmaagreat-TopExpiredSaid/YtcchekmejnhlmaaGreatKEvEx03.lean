/- Joined texts. -/
import Derived.Test.YtcchekmejnhlmaaGreatKEvEx
import Derived.KernelRfl
namespace Go.Proofs.YtcchekmejnhlmaaGreat
namespace Ev
open Go.RowKit
noncomputable section
set_option linter.unusedVariables false
set_option maxRecDepth 1000000
theorem ex_r03 (x : Int) : gcO exG04 (runK callB4 exL (exT03 x) exH03 (List.length exG03)) = some (exT04 x, exH04) := by kernel_rfl
end
end Ev
end Go.Proofs.YtcchekmejnhlmaaGreat
