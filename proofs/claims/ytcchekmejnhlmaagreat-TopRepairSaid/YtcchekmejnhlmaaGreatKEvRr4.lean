/- Joined texts. -/
import Derived.Test.YtcchekmejnhlmaaGreatKEvRr
import Derived.KernelRfl
namespace Go.Proofs.YtcchekmejnhlmaaGreat
namespace Ev
open Go.RowKit
noncomputable section
set_option linter.unusedVariables false
set_option maxRecDepth 1000000
theorem rp_r10 (xw xa xm : Int) : gcO rpG11 (rpRest (tset 2 (rpT10 xw xa xm) 16 (.c (.b true))) rpH10 (List.length rpG10)) = some (rpT11 xw xa xm, rpH11) := by kernel_rfl
theorem rp_r11 (xw xa xm : Int) : gcO rpG12 (rpRest (tset 2 (rpT11 xw xa xm) 16 (.c (.b true))) rpH11 (List.length rpG11)) = some (rpT12 xw xa xm, rpH12) := by kernel_rfl
theorem rp_r12 (xw xa xm : Int) : gcO rpG13 (rpRest (tset 2 (rpT12 xw xa xm) 16 (.c (.b true))) rpH12 (List.length rpG12)) = some (rpT13 xw xa xm, rpH13) := by kernel_rfl
theorem rp_r13 (xw xa xm : Int) : gcO rpG14 (rpRest (tset 2 (rpT13 xw xa xm) 16 (.c (.b true))) rpH13 (List.length rpG13)) = some (rpT14 xw xa xm, rpH14) := by kernel_rfl
end
end Ev
end Go.Proofs.YtcchekmejnhlmaaGreat
