/- Joined texts. -/
import Derived.Test.YtcchekmejnhlmaaGreatKEvRr
import Derived.KernelRfl
namespace Go.Proofs.YtcchekmejnhlmaaGreat
namespace Ev
open Go.RowKit
noncomputable section
set_option linter.unusedVariables false
set_option maxRecDepth 1000000
theorem rp_r23 (xw xa xm : Int) : gcO rpG24 (rpRest (tset 2 (rpT23 xw xa xm) 16 (.c (.b true))) rpH23 (List.length rpG23)) = some (rpT24 xw xa xm, rpH24) := by kernel_rfl
theorem rp_r24 (xw xa xm : Int) : gcO rpG25 (rpRest (tset 2 (rpT24 xw xa xm) 16 (.c (.b true))) rpH24 (List.length rpG24)) = some (rpT25 xw xa xm, rpH25) := by kernel_rfl
end
end Ev
end Go.Proofs.YtcchekmejnhlmaaGreat
