/- Joined texts. -/
import Derived.Test.YtcchekmejnhlmaaGreatKEvRr
import Derived.KernelRfl
namespace Go.Proofs.YtcchekmejnhlmaaGreat
namespace Ev
open Go.RowKit
noncomputable section
set_option linter.unusedVariables false
set_option maxRecDepth 1000000
theorem rp_e10_0 (xw xa xm : Int) : rpTail 0 (tset 2 (rpT10 xw xa xm) 16 (.c (.b false))) rpH10 (List.length rpG10) = true := by kernel_rfl
theorem rp_e10_1 (xw xa xm : Int) : rpTail 1 (tset 2 (rpT10 xw xa xm) 16 (.c (.b false))) rpH10 (List.length rpG10) = true := by kernel_rfl
theorem rp_e10_2 (xw xa xm : Int) : rpTail 2 (tset 2 (rpT10 xw xa xm) 16 (.c (.b false))) rpH10 (List.length rpG10) = true := by kernel_rfl
theorem rp_e11_0 (xw xa xm : Int) : rpTail 0 (tset 2 (rpT11 xw xa xm) 16 (.c (.b false))) rpH11 (List.length rpG11) = true := by kernel_rfl
theorem rp_e11_1 (xw xa xm : Int) : rpTail 1 (tset 2 (rpT11 xw xa xm) 16 (.c (.b false))) rpH11 (List.length rpG11) = true := by kernel_rfl
theorem rp_e11_2 (xw xa xm : Int) : rpTail 2 (tset 2 (rpT11 xw xa xm) 16 (.c (.b false))) rpH11 (List.length rpG11) = true := by kernel_rfl
end
end Ev
end Go.Proofs.YtcchekmejnhlmaaGreat
