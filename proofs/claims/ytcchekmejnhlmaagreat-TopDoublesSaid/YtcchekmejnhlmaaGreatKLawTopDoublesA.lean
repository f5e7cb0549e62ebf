/- Joined texts. -/
import Derived.Test.YtcchekmejnhlmaaGreatRows
import Derived.JoinedOf
import Derived.KernelRfl
namespace Go.Proofs.YtcchekmejnhlmaaGreat.topDoubles
set_option maxRecDepth 100000
theorem k10:(Rows.topDoublesRow.inPlace==Tryz.prog.inPlace 5)=true:=by kernel_rfl
end Go.Proofs.YtcchekmejnhlmaaGreat.topDoubles
