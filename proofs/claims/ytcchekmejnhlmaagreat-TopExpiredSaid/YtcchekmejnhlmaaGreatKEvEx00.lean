/- Joined texts. -/
import Derived.Test.YtcchekmejnhlmaaGreatKEvEx
import Derived.KernelRfl
namespace Go.Proofs.YtcchekmejnhlmaaGreat
namespace Ev
open Go.RowKit
noncomputable section
set_option linter.unusedVariables false
set_option maxRecDepth 1000000
theorem ex_b1_0 (x : Int) : gcO exG00 (seqO (runL callB4 [kAt 3 ex, kAt 4 ex]) (otNx (evS callB4 exI ⟨exA x, [.c (.i .i64 (.ofNat 0))]⟩ .z 0))) = some (exS0 x, exH00) := by kernel_rfl
theorem ex_b2_0 (x : Int) : runK callB4 (kl (kAt 5 ex)) (exS0 x) exH00 (List.length exG00) = .ok .nx (exT00 x) exH00 (List.length exG00) := by kernel_rfl
theorem ex_r00 (x : Int) : gcO exG01 (runK callB4 exL (exT00 x) exH00 (List.length exG00)) = some (exT01 x, exH01) := by kernel_rfl
theorem ex_r01 (x : Int) : gcO exG02 (runK callB4 exL (exT01 x) exH01 (List.length exG01)) = some (exT02 x, exH02) := by kernel_rfl
end
end Ev
end Go.Proofs.YtcchekmejnhlmaaGreat
