/- Each function is made so: part 2. -/
import Derived.Test.YtcchekmejnhlmaaGreatKEvZ
import Derived.Test.YtcchekmejnhlmaaGreatProg
import Derived.KernelRfl
namespace Go.Proofs.YtcchekmejnhlmaaGreat
namespace Ev
noncomputable section
open Go
set_option maxRecDepth 1000000
theorem y15:jac Go.Proofs.Tryz.prog wt 15=some z15:=by kernel_rfl
theorem y17:jac Go.Proofs.Tryz.prog wt 17=some z17:=by kernel_rfl
theorem y18:jac Go.Proofs.Tryz.prog wt 18=some z18:=by kernel_rfl
theorem y24:jac Go.Proofs.Tryz.prog wt 24=some z24:=by kernel_rfl
theorem y30:jac Go.Proofs.Tryz.prog wt 30=some z30:=by kernel_rfl
theorem y33:jac Go.Proofs.Tryz.prog wt 33=some z33:=by kernel_rfl
theorem y49:jac Go.Proofs.Tryz.prog wt 49=some z49:=by kernel_rfl
theorem y55:jac Go.Proofs.Tryz.prog wt 55=some z55:=by kernel_rfl
theorem y60:jac Go.Proofs.Tryz.prog wt 60=some z60:=by kernel_rfl
theorem y62:jac Go.Proofs.Tryz.prog wt 62=some z62:=by kernel_rfl
theorem y63:jac Go.Proofs.Tryz.prog wt 63=some z63:=by kernel_rfl
theorem y78:jac Go.Proofs.Tryz.prog wt 78=some z78:=by kernel_rfl
theorem y95:jac Go.Proofs.Tryz.prog wt 95=some z95:=by kernel_rfl
theorem y97:jac Go.Proofs.Tryz.prog wt 97=some z97:=by kernel_rfl
theorem y98:jac Go.Proofs.Tryz.prog wt 98=some z98:=by kernel_rfl
theorem y100:jac Go.Proofs.Tryz.prog wt 100=some z100:=by kernel_rfl
theorem y121:jac Go.Proofs.Tryz.prog wt 121=some z121:=by kernel_rfl
theorem y129:jac Go.Proofs.Tryz.prog wt 129=some z129:=by kernel_rfl
theorem y131:jac Go.Proofs.Tryz.prog wt 131=some z131:=by kernel_rfl
theorem y146:jac Go.Proofs.Tryz.prog wt 146=some z146:=by kernel_rfl
theorem y151:jac Go.Proofs.Tryz.prog wt 151=some z151:=by kernel_rfl
theorem y157:jac Go.Proofs.Tryz.prog wt 157=some z157:=by kernel_rfl
theorem y159:jac Go.Proofs.Tryz.prog wt 159=some z159:=by kernel_rfl
theorem y163:jac Go.Proofs.Tryz.prog wt 163=some z163:=by kernel_rfl
theorem y193:jac Go.Proofs.Tryz.prog wt 193=some z193:=by kernel_rfl
theorem y197:jac Go.Proofs.Tryz.prog wt 197=some z197:=by kernel_rfl
theorem y204:jac Go.Proofs.Tryz.prog wt 204=some z204:=by kernel_rfl
theorem y207:jac Go.Proofs.Tryz.prog wt 207=some z207:=by kernel_rfl
theorem y216:jac Go.Proofs.Tryz.prog wt 216=some z216:=by kernel_rfl
theorem y223:jac Go.Proofs.Tryz.prog wt 223=some z223:=by kernel_rfl
theorem y225:jac Go.Proofs.Tryz.prog wt 225=some z225:=by kernel_rfl
theorem y226:jac Go.Proofs.Tryz.prog wt 226=some z226:=by kernel_rfl
theorem y233:jac Go.Proofs.Tryz.prog wt 233=some z233:=by kernel_rfl
theorem y246:jac Go.Proofs.Tryz.prog wt 246=some z246:=by kernel_rfl
theorem y247:jac Go.Proofs.Tryz.prog wt 247=some z247:=by kernel_rfl
theorem y254:jac Go.Proofs.Tryz.prog wt 254=some z254:=by kernel_rfl
theorem y255:jac Go.Proofs.Tryz.prog wt 255=some z255:=by kernel_rfl
theorem y260:jac Go.Proofs.Tryz.prog wt 260=some z260:=by kernel_rfl
theorem y268:jac Go.Proofs.Tryz.prog wt 268=some z268:=by kernel_rfl
theorem y270:jac Go.Proofs.Tryz.prog wt 270=some z270:=by kernel_rfl
theorem y281:jac Go.Proofs.Tryz.prog wt 281=some z281:=by kernel_rfl
theorem y284:jac Go.Proofs.Tryz.prog wt 284=some z284:=by kernel_rfl
theorem y286:jac Go.Proofs.Tryz.prog wt 286=some z286:=by kernel_rfl
theorem y294:jac Go.Proofs.Tryz.prog wt 294=some z294:=by kernel_rfl
theorem y296:jac Go.Proofs.Tryz.prog wt 296=some z296:=by kernel_rfl
theorem y307:jac Go.Proofs.Tryz.prog wt 307=some z307:=by kernel_rfl
theorem y310:jac Go.Proofs.Tryz.prog wt 310=some z310:=by kernel_rfl
theorem y323:jac Go.Proofs.Tryz.prog wt 323=some z323:=by kernel_rfl
theorem y329:jac Go.Proofs.Tryz.prog wt 329=some z329:=by kernel_rfl
theorem y346:jac Go.Proofs.Tryz.prog wt 346=some z346:=by kernel_rfl
end
end Ev
end Go.Proofs.YtcchekmejnhlmaaGreat
