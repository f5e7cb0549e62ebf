/- Joined texts. -/
import Derived.Test.YtcchekmejnhlmaaGreatKEvRr
import Derived.KernelRfl
namespace Go.Proofs.YtcchekmejnhlmaaGreat
namespace Ev
open Go.RowKit
noncomputable section
set_option linter.unusedVariables false
set_option maxRecDepth 1000000
theorem rp_e14_0 (xw xa xm : Int) : rpTail 0 (tset 2 (rpT14 xw xa xm) 16 (.c (.b false))) rpH14 (List.length rpG14) = true := by kernel_rfl
theorem rp_e14_1 (xw xa xm : Int) : rpTail 1 (tset 2 (rpT14 xw xa xm) 16 (.c (.b false))) rpH14 (List.length rpG14) = true := by kernel_rfl
theorem rp_e14_2 (xw xa xm : Int) : rpTail 2 (tset 2 (rpT14 xw xa xm) 16 (.c (.b false))) rpH14 (List.length rpG14) = true := by kernel_rfl
theorem rp_e15_0 (xw xa xm : Int) : rpTail 0 (tset 2 (rpT15 xw xa xm) 16 (.c (.b false))) rpH15 (List.length rpG15) = true := by kernel_rfl
theorem rp_e15_1 (xw xa xm : Int) : rpTail 1 (tset 2 (rpT15 xw xa xm) 16 (.c (.b false))) rpH15 (List.length rpG15) = true := by kernel_rfl
theorem rp_e15_2 (xw xa xm : Int) : rpTail 2 (tset 2 (rpT15 xw xa xm) 16 (.c (.b false))) rpH15 (List.length rpG15) = true := by kernel_rfl
end
end Ev
end Go.Proofs.YtcchekmejnhlmaaGreat
