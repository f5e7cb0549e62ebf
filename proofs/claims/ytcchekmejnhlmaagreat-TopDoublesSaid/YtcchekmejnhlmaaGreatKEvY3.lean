/- Each function is made so: part 3. -/
import Derived.Test.YtcchekmejnhlmaaGreatKEvZ
import Derived.Test.YtcchekmejnhlmaaGreatProg
import Derived.KernelRfl
namespace Go.Proofs.YtcchekmejnhlmaaGreat
namespace Ev
noncomputable section
open Go
set_option maxRecDepth 1000000
theorem y8:jac Go.Proofs.Tryz.prog wt 8=some z8:=by kernel_rfl
theorem y9:jac Go.Proofs.Tryz.prog wt 9=some z9:=by kernel_rfl
theorem y25:jac Go.Proofs.Tryz.prog wt 25=some z25:=by kernel_rfl
theorem y28:jac Go.Proofs.Tryz.prog wt 28=some z28:=by kernel_rfl
theorem y32:jac Go.Proofs.Tryz.prog wt 32=some z32:=by kernel_rfl
theorem y37:jac Go.Proofs.Tryz.prog wt 37=some z37:=by kernel_rfl
theorem y57:jac Go.Proofs.Tryz.prog wt 57=some z57:=by kernel_rfl
theorem y58:jac Go.Proofs.Tryz.prog wt 58=some z58:=by kernel_rfl
theorem y66:jac Go.Proofs.Tryz.prog wt 66=some z66:=by kernel_rfl
theorem y74:jac Go.Proofs.Tryz.prog wt 74=some z74:=by kernel_rfl
theorem y75:jac Go.Proofs.Tryz.prog wt 75=some z75:=by kernel_rfl
theorem y76:jac Go.Proofs.Tryz.prog wt 76=some z76:=by kernel_rfl
theorem y79:jac Go.Proofs.Tryz.prog wt 79=some z79:=by kernel_rfl
theorem y99:jac Go.Proofs.Tryz.prog wt 99=some z99:=by kernel_rfl
theorem y104:jac Go.Proofs.Tryz.prog wt 104=some z104:=by kernel_rfl
theorem y108:jac Go.Proofs.Tryz.prog wt 108=some z108:=by kernel_rfl
theorem y109:jac Go.Proofs.Tryz.prog wt 109=some z109:=by kernel_rfl
theorem y122:jac Go.Proofs.Tryz.prog wt 122=some z122:=by kernel_rfl
theorem y143:jac Go.Proofs.Tryz.prog wt 143=some z143:=by kernel_rfl
theorem y156:jac Go.Proofs.Tryz.prog wt 156=some z156:=by kernel_rfl
theorem y161:jac Go.Proofs.Tryz.prog wt 161=some z161:=by kernel_rfl
theorem y165:jac Go.Proofs.Tryz.prog wt 165=some z165:=by kernel_rfl
theorem y169:jac Go.Proofs.Tryz.prog wt 169=some z169:=by kernel_rfl
theorem y171:jac Go.Proofs.Tryz.prog wt 171=some z171:=by kernel_rfl
theorem y174:jac Go.Proofs.Tryz.prog wt 174=some z174:=by kernel_rfl
theorem y183:jac Go.Proofs.Tryz.prog wt 183=some z183:=by kernel_rfl
theorem y185:jac Go.Proofs.Tryz.prog wt 185=some z185:=by kernel_rfl
theorem y187:jac Go.Proofs.Tryz.prog wt 187=some z187:=by kernel_rfl
theorem y191:jac Go.Proofs.Tryz.prog wt 191=some z191:=by kernel_rfl
theorem y201:jac Go.Proofs.Tryz.prog wt 201=some z201:=by kernel_rfl
theorem y205:jac Go.Proofs.Tryz.prog wt 205=some z205:=by kernel_rfl
theorem y209:jac Go.Proofs.Tryz.prog wt 209=some z209:=by kernel_rfl
theorem y224:jac Go.Proofs.Tryz.prog wt 224=some z224:=by kernel_rfl
theorem y229:jac Go.Proofs.Tryz.prog wt 229=some z229:=by kernel_rfl
theorem y231:jac Go.Proofs.Tryz.prog wt 231=some z231:=by kernel_rfl
theorem y232:jac Go.Proofs.Tryz.prog wt 232=some z232:=by kernel_rfl
theorem y241:jac Go.Proofs.Tryz.prog wt 241=some z241:=by kernel_rfl
theorem y248:jac Go.Proofs.Tryz.prog wt 248=some z248:=by kernel_rfl
theorem y261:jac Go.Proofs.Tryz.prog wt 261=some z261:=by kernel_rfl
theorem y262:jac Go.Proofs.Tryz.prog wt 262=some z262:=by kernel_rfl
theorem y267:jac Go.Proofs.Tryz.prog wt 267=some z267:=by kernel_rfl
theorem y282:jac Go.Proofs.Tryz.prog wt 282=some z282:=by kernel_rfl
theorem y283:jac Go.Proofs.Tryz.prog wt 283=some z283:=by kernel_rfl
theorem y290:jac Go.Proofs.Tryz.prog wt 290=some z290:=by kernel_rfl
theorem y292:jac Go.Proofs.Tryz.prog wt 292=some z292:=by kernel_rfl
theorem y293:jac Go.Proofs.Tryz.prog wt 293=some z293:=by kernel_rfl
theorem y314:jac Go.Proofs.Tryz.prog wt 314=some z314:=by kernel_rfl
theorem y336:jac Go.Proofs.Tryz.prog wt 336=some z336:=by kernel_rfl
theorem y343:jac Go.Proofs.Tryz.prog wt 343=some z343:=by kernel_rfl
end
end Ev
end Go.Proofs.YtcchekmejnhlmaaGreat
