/- Joined texts. -/
import Derived.Test.YtcchekmejnhlmaaGreatKEvRr
import Derived.KernelRfl
namespace Go.Proofs.YtcchekmejnhlmaaGreat
namespace Ev
open Go.RowKit
noncomputable section
set_option linter.unusedVariables false
set_option maxRecDepth 1000000
theorem rp_r5 (xw xa xm : Int) : gcO rpG6 (rpRest (tset 2 (rpT5 xw xa xm) 16 (.c (.b true))) rpH5 (List.length rpG5)) = some (rpT6 xw xa xm, rpH6) := by kernel_rfl
theorem rp_r6 (xw xa xm : Int) : gcO rpG7 (rpRest (tset 2 (rpT6 xw xa xm) 16 (.c (.b true))) rpH6 (List.length rpG6)) = some (rpT7 xw xa xm, rpH7) := by kernel_rfl
end
end Ev
end Go.Proofs.YtcchekmejnhlmaaGreat
