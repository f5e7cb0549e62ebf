/- Joined texts. -/
import Derived.Test.YtcchekmejnhlmaaGreatKEvRr
import Derived.KernelRfl
namespace Go.Proofs.YtcchekmejnhlmaaGreat
namespace Ev
open Go.RowKit
noncomputable section
set_option linter.unusedVariables false
set_option maxRecDepth 1000000
theorem rp_r20 (xw xa xm : Int) : gcO rpG21 (rpRest (tset 2 (rpT20 xw xa xm) 16 (.c (.b true))) rpH20 (List.length rpG20)) = some (rpT21 xw xa xm, rpH21) := by kernel_rfl
theorem rp_r21 (xw xa xm : Int) : gcO rpG22 (rpRest (tset 2 (rpT21 xw xa xm) 16 (.c (.b true))) rpH21 (List.length rpG21)) = some (rpT22 xw xa xm, rpH22) := by kernel_rfl
theorem rp_r22 (xw xa xm : Int) : gcO rpG23 (rpRest (tset 2 (rpT22 xw xa xm) 16 (.c (.b true))) rpH22 (List.length rpG22)) = some (rpT23 xw xa xm, rpH23) := by kernel_rfl
end
end Ev
end Go.Proofs.YtcchekmejnhlmaaGreat
