/- Each function is made so: part 1. -/
import Derived.Test.YtcchekmejnhlmaaGreatKEvZ
import Derived.Test.YtcchekmejnhlmaaGreatProg
import Derived.KernelRfl
namespace Go.Proofs.YtcchekmejnhlmaaGreat
namespace Ev
noncomputable section
open Go
set_option maxRecDepth 1000000
theorem y9 : compF Go.Proofs.Tryz.prog wt 9 = some z9 := by kernel_rfl
theorem y15 : compF Go.Proofs.Tryz.prog wt 15 = some z15 := by kernel_rfl
theorem y22 : compF Go.Proofs.Tryz.prog wt 22 = some z22 := by kernel_rfl
theorem y25 : compF Go.Proofs.Tryz.prog wt 25 = some z25 := by kernel_rfl
theorem y30 : compF Go.Proofs.Tryz.prog wt 30 = some z30 := by kernel_rfl
theorem y33 : compF Go.Proofs.Tryz.prog wt 33 = some z33 := by kernel_rfl
theorem y37 : compF Go.Proofs.Tryz.prog wt 37 = some z37 := by kernel_rfl
theorem y38 : compF Go.Proofs.Tryz.prog wt 38 = some z38 := by kernel_rfl
theorem y42 : compF Go.Proofs.Tryz.prog wt 42 = some z42 := by kernel_rfl
theorem y55 : compF Go.Proofs.Tryz.prog wt 55 = some z55 := by kernel_rfl
theorem y57 : compF Go.Proofs.Tryz.prog wt 57 = some z57 := by kernel_rfl
theorem y58 : compF Go.Proofs.Tryz.prog wt 58 = some z58 := by kernel_rfl
theorem y71 : compF Go.Proofs.Tryz.prog wt 71 = some z71 := by kernel_rfl
theorem y77 : compF Go.Proofs.Tryz.prog wt 77 = some z77 := by kernel_rfl
theorem y78 : compF Go.Proofs.Tryz.prog wt 78 = some z78 := by kernel_rfl
theorem y79 : compF Go.Proofs.Tryz.prog wt 79 = some z79 := by kernel_rfl
theorem y85 : compF Go.Proofs.Tryz.prog wt 85 = some z85 := by kernel_rfl
theorem y88 : compF Go.Proofs.Tryz.prog wt 88 = some z88 := by kernel_rfl
theorem y92 : compF Go.Proofs.Tryz.prog wt 92 = some z92 := by kernel_rfl
theorem y94 : compF Go.Proofs.Tryz.prog wt 94 = some z94 := by kernel_rfl
theorem y101 : compF Go.Proofs.Tryz.prog wt 101 = some z101 := by kernel_rfl
theorem y102 : compF Go.Proofs.Tryz.prog wt 102 = some z102 := by kernel_rfl
theorem y103 : compF Go.Proofs.Tryz.prog wt 103 = some z103 := by kernel_rfl
theorem y109 : compF Go.Proofs.Tryz.prog wt 109 = some z109 := by kernel_rfl
theorem y113 : compF Go.Proofs.Tryz.prog wt 113 = some z113 := by kernel_rfl
theorem y116 : compF Go.Proofs.Tryz.prog wt 116 = some z116 := by kernel_rfl
theorem y129 : compF Go.Proofs.Tryz.prog wt 129 = some z129 := by kernel_rfl
theorem y137 : compF Go.Proofs.Tryz.prog wt 137 = some z137 := by kernel_rfl
theorem y138 : compF Go.Proofs.Tryz.prog wt 138 = some z138 := by kernel_rfl
theorem y159 : compF Go.Proofs.Tryz.prog wt 159 = some z159 := by kernel_rfl
theorem y162 : compF Go.Proofs.Tryz.prog wt 162 = some z162 := by kernel_rfl
theorem y177 : compF Go.Proofs.Tryz.prog wt 177 = some z177 := by kernel_rfl
theorem y178 : compF Go.Proofs.Tryz.prog wt 178 = some z178 := by kernel_rfl
theorem y183 : compF Go.Proofs.Tryz.prog wt 183 = some z183 := by kernel_rfl
theorem y190 : compF Go.Proofs.Tryz.prog wt 190 = some z190 := by kernel_rfl
theorem y205 : compF Go.Proofs.Tryz.prog wt 205 = some z205 := by kernel_rfl
theorem y216 : compF Go.Proofs.Tryz.prog wt 216 = some z216 := by kernel_rfl
theorem y223 : compF Go.Proofs.Tryz.prog wt 223 = some z223 := by kernel_rfl
theorem y224 : compF Go.Proofs.Tryz.prog wt 224 = some z224 := by kernel_rfl
theorem y225 : compF Go.Proofs.Tryz.prog wt 225 = some z225 := by kernel_rfl
theorem y241 : compF Go.Proofs.Tryz.prog wt 241 = some z241 := by kernel_rfl
theorem y243 : compF Go.Proofs.Tryz.prog wt 243 = some z243 := by kernel_rfl
theorem y283 : compF Go.Proofs.Tryz.prog wt 283 = some z283 := by kernel_rfl
theorem y286 : compF Go.Proofs.Tryz.prog wt 286 = some z286 := by kernel_rfl
theorem y290 : compF Go.Proofs.Tryz.prog wt 290 = some z290 := by kernel_rfl
theorem y291 : compF Go.Proofs.Tryz.prog wt 291 = some z291 := by kernel_rfl
theorem y323 : compF Go.Proofs.Tryz.prog wt 323 = some z323 := by kernel_rfl
end
end Ev
end Go.Proofs.YtcchekmejnhlmaaGreat
