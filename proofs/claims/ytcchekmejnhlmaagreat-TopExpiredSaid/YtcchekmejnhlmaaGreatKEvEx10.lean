/- Joined texts. -/
import Derived.Test.YtcchekmejnhlmaaGreatKEvEx
import Derived.KernelRfl
namespace Go.Proofs.YtcchekmejnhlmaaGreat
namespace Ev
open Go.RowKit
noncomputable section
set_option linter.unusedVariables false
set_option maxRecDepth 1000000
theorem ex_b1_1 (x : Int) : gcO exG10 (seqO (runL callB4 [kAt 3 ex, kAt 4 ex]) (otNx (evS callB4 exI ⟨exA x, [.c (.i .i64 (.ofNat 1))]⟩ .z 0))) = some (exS1 x, exH10) := by kernel_rfl
theorem ex_b2_1 (x : Int) : runK callB4 (kl (kAt 5 ex)) (exS1 x) exH10 (List.length exG10) = .ok .nx (exT10 x) exH10 (List.length exG10) := by kernel_rfl
theorem ex_r10 (x : Int) : gcO exG11 (runK callB4 exL (exT10 x) exH10 (List.length exG10)) = some (exT11 x, exH11) := by kernel_rfl
theorem ex_r11 (x : Int) : gcO exG12 (runK callB4 exL (exT11 x) exH11 (List.length exG11)) = some (exT12 x, exH12) := by kernel_rfl
end
end Ev
end Go.Proofs.YtcchekmejnhlmaaGreat
