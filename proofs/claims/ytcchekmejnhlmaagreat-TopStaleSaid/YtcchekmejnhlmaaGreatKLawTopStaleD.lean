/- TopStale: a part of the closed fact of its row. -/
import Derived.Test.YtcchekmejnhlmaaGreatRows
import Derived.JoinedOf
import Derived.KernelRfl
namespace Go.Proofs.YtcchekmejnhlmaaGreat.topStale
set_option maxRecDepth 100000
theorem k13 : (Rows.topStaleRow.named == Tryz.prog.varsNamed 3) = true := by kernel_rfl
end Go.Proofs.YtcchekmejnhlmaaGreat.topStale
