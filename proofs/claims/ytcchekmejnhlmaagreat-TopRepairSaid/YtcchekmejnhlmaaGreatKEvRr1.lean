/- Joined texts. -/
import Derived.Test.YtcchekmejnhlmaaGreatKEvRr
import Derived.KernelRfl
namespace Go.Proofs.YtcchekmejnhlmaaGreat
namespace Ev
open Go.RowKit
noncomputable section
set_option linter.unusedVariables false
set_option maxRecDepth 1000000
theorem rp_r0 (xw xa xm : Int) : gcO rpG1 (rpRest (tset 2 (rpT0 xw xa xm) 16 (.c (.b true))) rpH0 (List.length rpG0)) = some (rpT1 xw xa xm, rpH1) := by kernel_rfl
theorem rp_r1 (xw xa xm : Int) : gcO rpG2 (rpRest (tset 2 (rpT1 xw xa xm) 16 (.c (.b true))) rpH1 (List.length rpG1)) = some (rpT2 xw xa xm, rpH2) := by kernel_rfl
theorem rp_r2 (xw xa xm : Int) : gcO rpG3 (rpRest (tset 2 (rpT2 xw xa xm) 16 (.c (.b true))) rpH2 (List.length rpG2)) = some (rpT3 xw xa xm, rpH3) := by kernel_rfl
theorem rp_r3 (xw xa xm : Int) : gcO rpG4 (rpRest (tset 2 (rpT3 xw xa xm) 16 (.c (.b true))) rpH3 (List.length rpG3)) = some (rpT4 xw xa xm, rpH4) := by kernel_rfl
theorem rp_r4 (xw xa xm : Int) : gcO rpG5 (rpRest (tset 2 (rpT4 xw xa xm) 16 (.c (.b true))) rpH4 (List.length rpG4)) = some (rpT5 xw xa xm, rpH5) := by kernel_rfl
end
end Ev
end Go.Proofs.YtcchekmejnhlmaaGreat
