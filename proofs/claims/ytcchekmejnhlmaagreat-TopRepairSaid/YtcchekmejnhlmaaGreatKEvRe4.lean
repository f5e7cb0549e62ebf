/- Joined texts. -/
import Derived.Test.YtcchekmejnhlmaaGreatKEvRr
import Derived.KernelRfl
namespace Go.Proofs.YtcchekmejnhlmaaGreat
namespace Ev
open Go.RowKit
noncomputable section
set_option linter.unusedVariables false
set_option maxRecDepth 1000000
theorem rp_e16_0 (xw xa xm : Int) : rpTail 0 (tset 2 (rpT16 xw xa xm) 16 (.c (.b false))) rpH16 (List.length rpG16) = true := by kernel_rfl
theorem rp_e16_1 (xw xa xm : Int) : rpTail 1 (tset 2 (rpT16 xw xa xm) 16 (.c (.b false))) rpH16 (List.length rpG16) = true := by kernel_rfl
theorem rp_e16_2 (xw xa xm : Int) : rpTail 2 (tset 2 (rpT16 xw xa xm) 16 (.c (.b false))) rpH16 (List.length rpG16) = true := by kernel_rfl
theorem rp_e17_0 (xw xa xm : Int) : rpTail 0 (tset 2 (rpT17 xw xa xm) 16 (.c (.b false))) rpH17 (List.length rpG17) = true := by kernel_rfl
theorem rp_e17_1 (xw xa xm : Int) : rpTail 1 (tset 2 (rpT17 xw xa xm) 16 (.c (.b false))) rpH17 (List.length rpG17) = true := by kernel_rfl
theorem rp_e17_2 (xw xa xm : Int) : rpTail 2 (tset 2 (rpT17 xw xa xm) 16 (.c (.b false))) rpH17 (List.length rpG17) = true := by kernel_rfl
end
end Ev
end Go.Proofs.YtcchekmejnhlmaaGreat
