/- TopBusy: a part of the closed fact of its row. -/
import Derived.Test.YtcchekmejnhlmaaGreatRows
import Derived.JoinedOf
import Derived.KernelRfl
namespace Go.Proofs.YtcchekmejnhlmaaGreat.topBusy
set_option maxRecDepth 100000
theorem k13 : (Rows.topBusyRow.named == Tryz.prog.varsNamed 7) = true := by kernel_rfl
end Go.Proofs.YtcchekmejnhlmaaGreat.topBusy
