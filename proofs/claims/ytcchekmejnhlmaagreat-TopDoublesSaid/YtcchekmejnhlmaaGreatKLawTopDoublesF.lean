/- Joined texts. -/
import Derived.Test.YtcchekmejnhlmaaGreatRows
import Derived.JoinedOf
import Derived.KernelRfl
namespace Go.Proofs.YtcchekmejnhlmaaGreat.topDoubles
set_option maxRecDepth 100000
theorem k18:Rows.topDoublesSpec.vars.all (Tryz.prog.varReadable ·)=true:=by kernel_rfl
theorem k19:Tryz.f5.resultTypes.all (fun t=>Tryz.prog.readableRec t&&decide (t<Tryz.prog.types.size))=true:=by kernel_rfl
theorem k20:(Rows.topDoublesRow.ifacesOut==Tryz.f5.resultTypes.toList.any (Tryz.prog.ifacesRec ·))=true:=by kernel_rfl
theorem k21:(Rows.topDoublesRow.loopsOut==Tryz.f5.resultTypes.toList.any (Tryz.prog.loopsFrom ·))=true:=by kernel_rfl
theorem k22:(Rows.topDoublesRow.plainKeys==Tryz.prog.plainKeys)=true:=by kernel_rfl
theorem k23:Rows.topDoublesRow.shortTexts.isNone=true:=by kernel_rfl
theorem k23b:Tryz.prog.stopsHeard=true:=by kernel_rfl
theorem k24:Tryz.prog.mayEnter=true:=by kernel_rfl
theorem k24b:(Rows.topDoublesRow.lifted==Tryz.prog.liftsFinal)=true:=by kernel_rfl
theorem k24c:(Tryz.prog.make==some Rows.topDoublesRow.make)=true:=by kernel_rfl
theorem k25:(Rows.topDoublesRow.kinds==(if Rows.topDoublesRow.domain.isEmpty then [] else Tryz.f5.params.toList.map fun t=>match Tryz.prog.underlying t with | some (.int k)=>some k | _=>none))=true:=by kernel_rfl
theorem k26:(Rows.topDoublesRow.pinned==Rows.topDoublesRow.pinnedBy)=true:=by kernel_rfl
theorem k27:(Rows.topDoublesRow.veiled==(Tryz.f5.params.toList++Rows.topDoublesSpec.plain.varTypes Tryz.prog++Tryz.f5.resultTypes.toList).any (Tryz.prog.veiledRec ·))=true:=by kernel_rfl
theorem k28:Rows.topDoublesRow.veiledFits Tryz.prog Tryz.f5.params.toList (Tryz.f5.params.toList++Rows.topDoublesSpec.plain.varTypes Tryz.prog++Tryz.f5.resultTypes.toList)=true:=by kernel_rfl
end Go.Proofs.YtcchekmejnhlmaaGreat.topDoubles
