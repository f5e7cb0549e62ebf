/- Joined texts. -/
import Derived.Test.YtcchekmejnhlmaaGreatKEvRr
import Derived.KernelRfl
namespace Go.Proofs.YtcchekmejnhlmaaGreat
namespace Ev
open Go.RowKit
noncomputable section
set_option linter.unusedVariables false
set_option maxRecDepth 1000000
theorem rp_e22_0 (xw xa xm : Int) : rpTail 0 (tset 2 (rpT22 xw xa xm) 16 (.c (.b false))) rpH22 (List.length rpG22) = true := by kernel_rfl
theorem rp_e22_1 (xw xa xm : Int) : rpTail 1 (tset 2 (rpT22 xw xa xm) 16 (.c (.b false))) rpH22 (List.length rpG22) = true := by kernel_rfl
theorem rp_e22_2 (xw xa xm : Int) : rpTail 2 (tset 2 (rpT22 xw xa xm) 16 (.c (.b false))) rpH22 (List.length rpG22) = true := by kernel_rfl
theorem rp_e23_0 (xw xa xm : Int) : rpTail 0 (tset 2 (rpT23 xw xa xm) 16 (.c (.b false))) rpH23 (List.length rpG23) = true := by kernel_rfl
theorem rp_e23_1 (xw xa xm : Int) : rpTail 1 (tset 2 (rpT23 xw xa xm) 16 (.c (.b false))) rpH23 (List.length rpG23) = true := by kernel_rfl
theorem rp_e23_2 (xw xa xm : Int) : rpTail 2 (tset 2 (rpT23 xw xa xm) 16 (.c (.b false))) rpH23 (List.length rpG23) = true := by kernel_rfl
end
end Ev
end Go.Proofs.YtcchekmejnhlmaaGreat
