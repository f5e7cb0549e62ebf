/- Joined texts. -/
import Derived.Test.YtcchekmejnhlmaaGreatKEvEx
import Derived.KernelRfl
namespace Go.Proofs.YtcchekmejnhlmaaGreat
namespace Ev
open Go.RowKit
noncomputable section
set_option linter.unusedVariables false
set_option maxRecDepth 1000000
theorem ex_e1 (x : Int) : runK callB4 exL (exT16 x) exH16 (List.length exG16) = .ok (.ex 0) (exU1 x) exH16 (List.length exG16) := by kernel_rfl
theorem ex_f1 (x : Int) : okR (KF.rs z4) (runK callB4 (kFrom 6 ex) (exU1 x) exH16 (List.length exG16)) = true := by kernel_rfl
end
end Ev
end Go.Proofs.YtcchekmejnhlmaaGreat
