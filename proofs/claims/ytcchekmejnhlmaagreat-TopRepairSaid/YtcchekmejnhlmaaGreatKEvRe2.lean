/- Joined texts. -/
import Derived.Test.YtcchekmejnhlmaaGreatKEvRr
import Derived.KernelRfl
namespace Go.Proofs.YtcchekmejnhlmaaGreat
namespace Ev
open Go.RowKit
noncomputable section
set_option linter.unusedVariables false
set_option maxRecDepth 1000000
theorem rp_e12_0 (xw xa xm : Int) : rpTail 0 (tset 2 (rpT12 xw xa xm) 16 (.c (.b false))) rpH12 (List.length rpG12) = true := by kernel_rfl
theorem rp_e12_1 (xw xa xm : Int) : rpTail 1 (tset 2 (rpT12 xw xa xm) 16 (.c (.b false))) rpH12 (List.length rpG12) = true := by kernel_rfl
theorem rp_e12_2 (xw xa xm : Int) : rpTail 2 (tset 2 (rpT12 xw xa xm) 16 (.c (.b false))) rpH12 (List.length rpG12) = true := by kernel_rfl
theorem rp_e13_0 (xw xa xm : Int) : rpTail 0 (tset 2 (rpT13 xw xa xm) 16 (.c (.b false))) rpH13 (List.length rpG13) = true := by kernel_rfl
theorem rp_e13_1 (xw xa xm : Int) : rpTail 1 (tset 2 (rpT13 xw xa xm) 16 (.c (.b false))) rpH13 (List.length rpG13) = true := by kernel_rfl
theorem rp_e13_2 (xw xa xm : Int) : rpTail 2 (tset 2 (rpT13 xw xa xm) 16 (.c (.b false))) rpH13 (List.length rpG13) = true := by kernel_rfl
end
end Ev
end Go.Proofs.YtcchekmejnhlmaaGreat
