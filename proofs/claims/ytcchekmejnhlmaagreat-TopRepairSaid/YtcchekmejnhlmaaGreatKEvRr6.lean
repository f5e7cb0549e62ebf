/- Joined texts. -/
import Derived.Test.YtcchekmejnhlmaaGreatKEvRr
import Derived.KernelRfl
namespace Go.Proofs.YtcchekmejnhlmaaGreat
namespace Ev
open Go.RowKit
noncomputable section
set_option linter.unusedVariables false
set_option maxRecDepth 1000000
theorem rp_r16 (xw xa xm : Int) : gcO rpG17 (rpRest (tset 2 (rpT16 xw xa xm) 16 (.c (.b true))) rpH16 (List.length rpG16)) = some (rpT17 xw xa xm, rpH17) := by kernel_rfl
theorem rp_r17 (xw xa xm : Int) : gcO rpG18 (rpRest (tset 2 (rpT17 xw xa xm) 16 (.c (.b true))) rpH17 (List.length rpG17)) = some (rpT18 xw xa xm, rpH18) := by kernel_rfl
theorem rp_r18 (xw xa xm : Int) : gcO rpG19 (rpRest (tset 2 (rpT18 xw xa xm) 16 (.c (.b true))) rpH18 (List.length rpG18)) = some (rpT19 xw xa xm, rpH19) := by kernel_rfl
theorem rp_r19 (xw xa xm : Int) : gcO rpG20 (rpRest (tset 2 (rpT19 xw xa xm) 16 (.c (.b true))) rpH19 (List.length rpG19)) = some (rpT20 xw xa xm, rpH20) := by kernel_rfl
end
end Ev
end Go.Proofs.YtcchekmejnhlmaaGreat
