/- Each function is made so: part 1. -/
import Derived.Test.YtcchekmejnhlmaaGreatKEvZ
import Derived.Test.YtcchekmejnhlmaaGreatProg
import Derived.KernelRfl
namespace Go.Proofs.YtcchekmejnhlmaaGreat
namespace Ev
noncomputable section
open Go
set_option maxRecDepth 1000000
theorem y14:jac Go.Proofs.Tryz.prog wt 14=some z14:=by kernel_rfl
theorem y36:jac Go.Proofs.Tryz.prog wt 36=some z36:=by kernel_rfl
theorem y40:jac Go.Proofs.Tryz.prog wt 40=some z40:=by kernel_rfl
theorem y41:jac Go.Proofs.Tryz.prog wt 41=some z41:=by kernel_rfl
theorem y42:jac Go.Proofs.Tryz.prog wt 42=some z42:=by kernel_rfl
theorem y44:jac Go.Proofs.Tryz.prog wt 44=some z44:=by kernel_rfl
theorem y52:jac Go.Proofs.Tryz.prog wt 52=some z52:=by kernel_rfl
theorem y61:jac Go.Proofs.Tryz.prog wt 61=some z61:=by kernel_rfl
theorem y69:jac Go.Proofs.Tryz.prog wt 69=some z69:=by kernel_rfl
theorem y71:jac Go.Proofs.Tryz.prog wt 71=some z71:=by kernel_rfl
theorem y81:jac Go.Proofs.Tryz.prog wt 81=some z81:=by kernel_rfl
theorem y89:jac Go.Proofs.Tryz.prog wt 89=some z89:=by kernel_rfl
theorem y92:jac Go.Proofs.Tryz.prog wt 92=some z92:=by kernel_rfl
theorem y102:jac Go.Proofs.Tryz.prog wt 102=some z102:=by kernel_rfl
theorem y103:jac Go.Proofs.Tryz.prog wt 103=some z103:=by kernel_rfl
theorem y107:jac Go.Proofs.Tryz.prog wt 107=some z107:=by kernel_rfl
theorem y111:jac Go.Proofs.Tryz.prog wt 111=some z111:=by kernel_rfl
theorem y112:jac Go.Proofs.Tryz.prog wt 112=some z112:=by kernel_rfl
theorem y124:jac Go.Proofs.Tryz.prog wt 124=some z124:=by kernel_rfl
theorem y127:jac Go.Proofs.Tryz.prog wt 127=some z127:=by kernel_rfl
theorem y136:jac Go.Proofs.Tryz.prog wt 136=some z136:=by kernel_rfl
theorem y137:jac Go.Proofs.Tryz.prog wt 137=some z137:=by kernel_rfl
theorem y145:jac Go.Proofs.Tryz.prog wt 145=some z145:=by kernel_rfl
theorem y149:jac Go.Proofs.Tryz.prog wt 149=some z149:=by kernel_rfl
theorem y150:jac Go.Proofs.Tryz.prog wt 150=some z150:=by kernel_rfl
theorem y158:jac Go.Proofs.Tryz.prog wt 158=some z158:=by kernel_rfl
theorem y160:jac Go.Proofs.Tryz.prog wt 160=some z160:=by kernel_rfl
theorem y162:jac Go.Proofs.Tryz.prog wt 162=some z162:=by kernel_rfl
theorem y164:jac Go.Proofs.Tryz.prog wt 164=some z164:=by kernel_rfl
theorem y166:jac Go.Proofs.Tryz.prog wt 166=some z166:=by kernel_rfl
theorem y170:jac Go.Proofs.Tryz.prog wt 170=some z170:=by kernel_rfl
theorem y177:jac Go.Proofs.Tryz.prog wt 177=some z177:=by kernel_rfl
theorem y182:jac Go.Proofs.Tryz.prog wt 182=some z182:=by kernel_rfl
theorem y188:jac Go.Proofs.Tryz.prog wt 188=some z188:=by kernel_rfl
theorem y190:jac Go.Proofs.Tryz.prog wt 190=some z190:=by kernel_rfl
theorem y202:jac Go.Proofs.Tryz.prog wt 202=some z202:=by kernel_rfl
theorem y211:jac Go.Proofs.Tryz.prog wt 211=some z211:=by kernel_rfl
theorem y212:jac Go.Proofs.Tryz.prog wt 212=some z212:=by kernel_rfl
theorem y215:jac Go.Proofs.Tryz.prog wt 215=some z215:=by kernel_rfl
theorem y217:jac Go.Proofs.Tryz.prog wt 217=some z217:=by kernel_rfl
theorem y221:jac Go.Proofs.Tryz.prog wt 221=some z221:=by kernel_rfl
theorem y230:jac Go.Proofs.Tryz.prog wt 230=some z230:=by kernel_rfl
theorem y243:jac Go.Proofs.Tryz.prog wt 243=some z243:=by kernel_rfl
theorem y245:jac Go.Proofs.Tryz.prog wt 245=some z245:=by kernel_rfl
theorem y265:jac Go.Proofs.Tryz.prog wt 265=some z265:=by kernel_rfl
theorem y285:jac Go.Proofs.Tryz.prog wt 285=some z285:=by kernel_rfl
theorem y309:jac Go.Proofs.Tryz.prog wt 309=some z309:=by kernel_rfl
theorem y319:jac Go.Proofs.Tryz.prog wt 319=some z319:=by kernel_rfl
theorem y337:jac Go.Proofs.Tryz.prog wt 337=some z337:=by kernel_rfl
end
end Ev
end Go.Proofs.YtcchekmejnhlmaaGreat
