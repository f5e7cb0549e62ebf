/- Joined texts. -/
import Derived.Test.YtcchekmejnhlmaaGreatKEvRr
import Derived.KernelRfl
namespace Go.Proofs.YtcchekmejnhlmaaGreat
namespace Ev
open Go.RowKit
noncomputable section
set_option linter.unusedVariables false
set_option maxRecDepth 1000000
theorem rp_e20_0 (xw xa xm : Int) : rpTail 0 (tset 2 (rpT20 xw xa xm) 16 (.c (.b false))) rpH20 (List.length rpG20) = true := by kernel_rfl
theorem rp_e20_1 (xw xa xm : Int) : rpTail 1 (tset 2 (rpT20 xw xa xm) 16 (.c (.b false))) rpH20 (List.length rpG20) = true := by kernel_rfl
theorem rp_e20_2 (xw xa xm : Int) : rpTail 2 (tset 2 (rpT20 xw xa xm) 16 (.c (.b false))) rpH20 (List.length rpG20) = true := by kernel_rfl
theorem rp_e21_0 (xw xa xm : Int) : rpTail 0 (tset 2 (rpT21 xw xa xm) 16 (.c (.b false))) rpH21 (List.length rpG21) = true := by kernel_rfl
theorem rp_e21_1 (xw xa xm : Int) : rpTail 1 (tset 2 (rpT21 xw xa xm) 16 (.c (.b false))) rpH21 (List.length rpG21) = true := by kernel_rfl
theorem rp_e21_2 (xw xa xm : Int) : rpTail 2 (tset 2 (rpT21 xw xa xm) 16 (.c (.b false))) rpH21 (List.length rpG21) = true := by kernel_rfl
end
end Ev
end Go.Proofs.YtcchekmejnhlmaaGreat
