/- Joined texts. -/
import Derived.Test.YtcchekmejnhlmaaGreatKEvRr
import Derived.KernelRfl
namespace Go.Proofs.YtcchekmejnhlmaaGreat
namespace Ev
open Go.RowKit
noncomputable section
set_option linter.unusedVariables false
set_option maxRecDepth 1000000
theorem rp_r7 (xw xa xm : Int) : gcO rpG8 (rpRest (tset 2 (rpT7 xw xa xm) 16 (.c (.b true))) rpH7 (List.length rpG7)) = some (rpT8 xw xa xm, rpH8) := by kernel_rfl
theorem rp_r8 (xw xa xm : Int) : gcO rpG9 (rpRest (tset 2 (rpT8 xw xa xm) 16 (.c (.b true))) rpH8 (List.length rpG8)) = some (rpT9 xw xa xm, rpH9) := by kernel_rfl
theorem rp_r9 (xw xa xm : Int) : gcO rpG10 (rpRest (tset 2 (rpT9 xw xa xm) 16 (.c (.b true))) rpH9 (List.length rpG9)) = some (rpT10 xw xa xm, rpH10) := by kernel_rfl
end
end Ev
end Go.Proofs.YtcchekmejnhlmaaGreat
