/- Joined texts. -/
import Derived.Test.YtcchekmejnhlmaaGreatRows
import Derived.JoinedOf
import Derived.KernelRfl
namespace Go.Proofs.YtcchekmejnhlmaaGreat.topRepair
set_option maxRecDepth 100000
theorem k13 : (Rows.topRepairRow.named == Tryz.prog.varsNamed 6) = true := by kernel_rfl
end Go.Proofs.YtcchekmejnhlmaaGreat.topRepair
