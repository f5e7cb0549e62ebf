/- Joined texts. -/
import Derived.Test.YtcchekmejnhlmaaGreatRows
import Derived.JoinedOf
import Derived.KernelRfl
namespace Go.Proofs.YtcchekmejnhlmaaGreat.topDoubles
set_option maxRecDepth 100000
theorem k1:Rows.topDoublesRow.wf (OpenSpec.ofChange Rows.topDoublesSpec)=true:=by kernel_rfl
theorem k2:laidOutB Tryz.prog=true:=by kernel_rfl
theorem k3:mapsRowed Tryz.prog=true:=by kernel_rfl
theorem k4:Tryz.f5.params.all (Tryz.prog.readableRec ·)=true:=by kernel_rfl
theorem k5:namedTie Tryz.prog Rows.topDoublesRow.named Rows.topDoublesSpec.vars=true:=by kernel_rfl
theorem k6:(Rows.topDoublesRow.stops==[])=true:=by kernel_rfl
theorem k7:(Tryz.prog.stops==[])=true:=by kernel_rfl
theorem k8:(Rows.topDoublesRow.knobs==[])=true:=by kernel_rfl
theorem k9:(Tryz.prog.stopKnobs==[])=true:=by kernel_rfl
theorem k14:(Rows.topDoublesRow.maps==(Tryz.f5.params.toList++Rows.topDoublesSpec.plain.varTypes Tryz.prog).any (Tryz.prog.mapsRec ·))=true:=by kernel_rfl
theorem k15:(Rows.topDoublesRow.ifaces==(Tryz.f5.params.toList++Rows.topDoublesSpec.plain.varTypes Tryz.prog).any (Tryz.prog.ifacesRec ·))=true:=by kernel_rfl
theorem k16:(Rows.topDoublesRow.mapsOut==Tryz.prog.mapsAmong Tryz.f5.resultTypes.toList)=true:=by kernel_rfl
theorem k17:(Rows.topDoublesRow.loops==(Tryz.f5.params.toList++Rows.topDoublesSpec.plain.varTypes Tryz.prog).any (Tryz.prog.loopsFrom ·))=true:=by kernel_rfl
theorem k17b:(Rows.topDoublesRow.wideKeys==(Tryz.f5.params.toList++Rows.topDoublesSpec.plain.varTypes Tryz.prog++Tryz.f5.resultTypes.toList).any (Tryz.prog.wideKeysFrom ·))=true:=by kernel_rfl
end Go.Proofs.YtcchekmejnhlmaaGreat.topDoubles
