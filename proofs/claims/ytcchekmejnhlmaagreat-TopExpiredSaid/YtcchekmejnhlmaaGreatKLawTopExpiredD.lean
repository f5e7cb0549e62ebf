/- Joined texts. -/
import Derived.Test.YtcchekmejnhlmaaGreatRows
import Derived.JoinedOf
import Derived.KernelRfl
namespace Go.Proofs.YtcchekmejnhlmaaGreat.topExpired
set_option maxRecDepth 100000
theorem k13 : (Rows.topExpiredRow.named == Tryz.prog.varsNamed 4) = true := by kernel_rfl
end Go.Proofs.YtcchekmejnhlmaaGreat.topExpired
