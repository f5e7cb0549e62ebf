/- Joined texts. -/
import Derived.Test.YtcchekmejnhlmaaGreatKEvEx
import Derived.KernelRfl
namespace Go.Proofs.YtcchekmejnhlmaaGreat
namespace Ev
open Go.RowKit
noncomputable section
set_option linter.unusedVariables false
set_option maxRecDepth 1000000
theorem ex_e0 (x : Int) : runK callB4 exL (exT05 x) exH05 (List.length exG05) = .ok (.ex 0) (exU0 x) exH05 (List.length exG05) := by kernel_rfl
theorem ex_f0 (x : Int) : okR (KF.rs z4) (runK callB4 (kFrom 6 ex) (exU0 x) exH05 (List.length exG05)) = true := by kernel_rfl
end
end Ev
end Go.Proofs.YtcchekmejnhlmaaGreat
