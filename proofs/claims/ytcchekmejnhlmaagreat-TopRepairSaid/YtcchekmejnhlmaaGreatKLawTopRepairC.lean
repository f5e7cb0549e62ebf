/- Joined texts. -/
import Derived.Test.YtcchekmejnhlmaaGreatRows
import Derived.JoinedOf
import Derived.KernelRfl
namespace Go.Proofs.YtcchekmejnhlmaaGreat.topRepair
set_option maxRecDepth 100000
theorem k12 : (Rows.topRepairRow.recurses == Tryz.prog.recurses 6) = true := by kernel_rfl
end Go.Proofs.YtcchekmejnhlmaaGreat.topRepair
