/- Joined texts. -/
import Derived.Test.YtcchekmejnhlmaaGreatKEvRr
import Derived.KernelRfl
namespace Go.Proofs.YtcchekmejnhlmaaGreat
namespace Ev
open Go.RowKit
noncomputable section
set_option linter.unusedVariables false
set_option maxRecDepth 1000000
theorem rp_e18_0 (xw xa xm : Int) : rpTail 0 (tset 2 (rpT18 xw xa xm) 16 (.c (.b false))) rpH18 (List.length rpG18) = true := by kernel_rfl
theorem rp_e18_1 (xw xa xm : Int) : rpTail 1 (tset 2 (rpT18 xw xa xm) 16 (.c (.b false))) rpH18 (List.length rpG18) = true := by kernel_rfl
theorem rp_e18_2 (xw xa xm : Int) : rpTail 2 (tset 2 (rpT18 xw xa xm) 16 (.c (.b false))) rpH18 (List.length rpG18) = true := by kernel_rfl
theorem rp_e19_0 (xw xa xm : Int) : rpTail 0 (tset 2 (rpT19 xw xa xm) 16 (.c (.b false))) rpH19 (List.length rpG19) = true := by kernel_rfl
theorem rp_e19_1 (xw xa xm : Int) : rpTail 1 (tset 2 (rpT19 xw xa xm) 16 (.c (.b false))) rpH19 (List.length rpG19) = true := by kernel_rfl
theorem rp_e19_2 (xw xa xm : Int) : rpTail 2 (tset 2 (rpT19 xw xa xm) 16 (.c (.b false))) rpH19 (List.length rpG19) = true := by kernel_rfl
end
end Ev
end Go.Proofs.YtcchekmejnhlmaaGreat
