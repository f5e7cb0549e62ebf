/- Joined texts. -/
import Derived.Test.YtcchekmejnhlmaaGreatKEvEx
import Derived.KernelRfl
namespace Go.Proofs.YtcchekmejnhlmaaGreat
namespace Ev
open Go.RowKit
noncomputable section
set_option linter.unusedVariables false
set_option maxRecDepth 1000000
theorem ex_r04 (x : Int) : gcO exG05 (runK callB4 exL (exT04 x) exH04 (List.length exG04)) = some (exT05 x, exH05) := by kernel_rfl
end
end Ev
end Go.Proofs.YtcchekmejnhlmaaGreat
