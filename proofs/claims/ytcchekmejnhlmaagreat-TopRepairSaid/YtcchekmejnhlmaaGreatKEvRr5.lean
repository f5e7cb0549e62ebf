/- Joined texts. -/
import Derived.Test.YtcchekmejnhlmaaGreatKEvRr
import Derived.KernelRfl
namespace Go.Proofs.YtcchekmejnhlmaaGreat
namespace Ev
open Go.RowKit
noncomputable section
set_option linter.unusedVariables false
set_option maxRecDepth 1000000
theorem rp_r14 (xw xa xm : Int) : gcO rpG15 (rpRest (tset 2 (rpT14 xw xa xm) 16 (.c (.b true))) rpH14 (List.length rpG14)) = some (rpT15 xw xa xm, rpH15) := by kernel_rfl
theorem rp_r15 (xw xa xm : Int) : gcO rpG16 (rpRest (tset 2 (rpT15 xw xa xm) 16 (.c (.b true))) rpH15 (List.length rpG15)) = some (rpT16 xw xa xm, rpH16) := by kernel_rfl
end
end Ev
end Go.Proofs.YtcchekmejnhlmaaGreat
