/- Joined texts. -/
import Derived.Test.YtcchekmejnhlmaaGreatKEvRr
import Derived.KernelRfl
namespace Go.Proofs.YtcchekmejnhlmaaGreat
namespace Ev
open Go.RowKit
noncomputable section
set_option linter.unusedVariables false
set_option maxRecDepth 1000000
theorem rp_e24_0 (xw xa xm : Int) : rpTail 0 (tset 2 (rpT24 xw xa xm) 16 (.c (.b false))) rpH24 (List.length rpG24) = true := by kernel_rfl
theorem rp_e24_1 (xw xa xm : Int) : rpTail 1 (tset 2 (rpT24 xw xa xm) 16 (.c (.b false))) rpH24 (List.length rpG24) = true := by kernel_rfl
theorem rp_e24_2 (xw xa xm : Int) : rpTail 2 (tset 2 (rpT24 xw xa xm) 16 (.c (.b false))) rpH24 (List.length rpG24) = true := by kernel_rfl
theorem rp_e25_0 (xw xa xm : Int) : rpTail 0 (tset 2 (rpT25 xw xa xm) 16 (.c (.b false))) rpH25 (List.length rpG25) = true := by kernel_rfl
theorem rp_e25_1 (xw xa xm : Int) : rpTail 1 (tset 2 (rpT25 xw xa xm) 16 (.c (.b false))) rpH25 (List.length rpG25) = true := by kernel_rfl
theorem rp_e25_2 (xw xa xm : Int) : rpTail 2 (tset 2 (rpT25 xw xa xm) 16 (.c (.b false))) rpH25 (List.length rpG25) = true := by kernel_rfl
end
end Ev
end Go.Proofs.YtcchekmejnhlmaaGreat
