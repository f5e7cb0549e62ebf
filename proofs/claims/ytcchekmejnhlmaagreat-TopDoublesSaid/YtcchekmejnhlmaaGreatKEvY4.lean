/- Each function is made so: part 4. -/
import Derived.Test.YtcchekmejnhlmaaGreatKEvZ
import Derived.Test.YtcchekmejnhlmaaGreatProg
import Derived.KernelRfl
namespace Go.Proofs.YtcchekmejnhlmaaGreat
namespace Ev
noncomputable section
open Go
set_option maxRecDepth 1000000
theorem y11:jac Go.Proofs.Tryz.prog wt 11=some z11:=by kernel_rfl
theorem y21:jac Go.Proofs.Tryz.prog wt 21=some z21:=by kernel_rfl
theorem y43:jac Go.Proofs.Tryz.prog wt 43=some z43:=by kernel_rfl
theorem y48:jac Go.Proofs.Tryz.prog wt 48=some z48:=by kernel_rfl
theorem y50:jac Go.Proofs.Tryz.prog wt 50=some z50:=by kernel_rfl
theorem y51:jac Go.Proofs.Tryz.prog wt 51=some z51:=by kernel_rfl
theorem y56:jac Go.Proofs.Tryz.prog wt 56=some z56:=by kernel_rfl
theorem y59:jac Go.Proofs.Tryz.prog wt 59=some z59:=by kernel_rfl
theorem y73:jac Go.Proofs.Tryz.prog wt 73=some z73:=by kernel_rfl
theorem y77:jac Go.Proofs.Tryz.prog wt 77=some z77:=by kernel_rfl
theorem y80:jac Go.Proofs.Tryz.prog wt 80=some z80:=by kernel_rfl
theorem y85:jac Go.Proofs.Tryz.prog wt 85=some z85:=by kernel_rfl
theorem y88:jac Go.Proofs.Tryz.prog wt 88=some z88:=by kernel_rfl
theorem y93:jac Go.Proofs.Tryz.prog wt 93=some z93:=by kernel_rfl
theorem y94:jac Go.Proofs.Tryz.prog wt 94=some z94:=by kernel_rfl
theorem y96:jac Go.Proofs.Tryz.prog wt 96=some z96:=by kernel_rfl
theorem y101:jac Go.Proofs.Tryz.prog wt 101=some z101:=by kernel_rfl
theorem y113:jac Go.Proofs.Tryz.prog wt 113=some z113:=by kernel_rfl
theorem y116:jac Go.Proofs.Tryz.prog wt 116=some z116:=by kernel_rfl
theorem y118:jac Go.Proofs.Tryz.prog wt 118=some z118:=by kernel_rfl
theorem y119:jac Go.Proofs.Tryz.prog wt 119=some z119:=by kernel_rfl
theorem y120:jac Go.Proofs.Tryz.prog wt 120=some z120:=by kernel_rfl
theorem y138:jac Go.Proofs.Tryz.prog wt 138=some z138:=by kernel_rfl
theorem y139:jac Go.Proofs.Tryz.prog wt 139=some z139:=by kernel_rfl
theorem y148:jac Go.Proofs.Tryz.prog wt 148=some z148:=by kernel_rfl
theorem y155:jac Go.Proofs.Tryz.prog wt 155=some z155:=by kernel_rfl
theorem y178:jac Go.Proofs.Tryz.prog wt 178=some z178:=by kernel_rfl
theorem y180:jac Go.Proofs.Tryz.prog wt 180=some z180:=by kernel_rfl
theorem y189:jac Go.Proofs.Tryz.prog wt 189=some z189:=by kernel_rfl
theorem y196:jac Go.Proofs.Tryz.prog wt 196=some z196:=by kernel_rfl
theorem y198:jac Go.Proofs.Tryz.prog wt 198=some z198:=by kernel_rfl
theorem y199:jac Go.Proofs.Tryz.prog wt 199=some z199:=by kernel_rfl
theorem y203:jac Go.Proofs.Tryz.prog wt 203=some z203:=by kernel_rfl
theorem y206:jac Go.Proofs.Tryz.prog wt 206=some z206:=by kernel_rfl
theorem y210:jac Go.Proofs.Tryz.prog wt 210=some z210:=by kernel_rfl
theorem y222:jac Go.Proofs.Tryz.prog wt 222=some z222:=by kernel_rfl
theorem y227:jac Go.Proofs.Tryz.prog wt 227=some z227:=by kernel_rfl
theorem y228:jac Go.Proofs.Tryz.prog wt 228=some z228:=by kernel_rfl
theorem y237:jac Go.Proofs.Tryz.prog wt 237=some z237:=by kernel_rfl
theorem y238:jac Go.Proofs.Tryz.prog wt 238=some z238:=by kernel_rfl
theorem y244:jac Go.Proofs.Tryz.prog wt 244=some z244:=by kernel_rfl
theorem y258:jac Go.Proofs.Tryz.prog wt 258=some z258:=by kernel_rfl
theorem y263:jac Go.Proofs.Tryz.prog wt 263=some z263:=by kernel_rfl
theorem y279:jac Go.Proofs.Tryz.prog wt 279=some z279:=by kernel_rfl
theorem y280:jac Go.Proofs.Tryz.prog wt 280=some z280:=by kernel_rfl
theorem y291:jac Go.Proofs.Tryz.prog wt 291=some z291:=by kernel_rfl
theorem y308:jac Go.Proofs.Tryz.prog wt 308=some z308:=by kernel_rfl
theorem y311:jac Go.Proofs.Tryz.prog wt 311=some z311:=by kernel_rfl
theorem y321:jac Go.Proofs.Tryz.prog wt 321=some z321:=by kernel_rfl
end
end Ev
end Go.Proofs.YtcchekmejnhlmaaGreat
