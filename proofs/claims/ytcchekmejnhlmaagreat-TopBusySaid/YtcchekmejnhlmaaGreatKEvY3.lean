/- Each function is made so: part 3. -/
import Derived.Test.YtcchekmejnhlmaaGreatKEvZ
import Derived.Test.YtcchekmejnhlmaaGreatProg
import Derived.KernelRfl
namespace Go.Proofs.YtcchekmejnhlmaaGreat
namespace Ev
noncomputable section
open Go
set_option maxRecDepth 1000000
theorem y3 : compF Go.Proofs.Tryz.prog wt 3 = some z3 := by kernel_rfl
theorem y7 : compF Go.Proofs.Tryz.prog wt 7 = some z7 := by kernel_rfl
theorem y9 : compF Go.Proofs.Tryz.prog wt 9 = some z9 := by kernel_rfl
theorem y14 : compF Go.Proofs.Tryz.prog wt 14 = some z14 := by kernel_rfl
theorem y15 : compF Go.Proofs.Tryz.prog wt 15 = some z15 := by kernel_rfl
theorem y19 : compF Go.Proofs.Tryz.prog wt 19 = some z19 := by kernel_rfl
theorem y22 : compF Go.Proofs.Tryz.prog wt 22 = some z22 := by kernel_rfl
theorem y24 : compF Go.Proofs.Tryz.prog wt 24 = some z24 := by kernel_rfl
theorem y25 : compF Go.Proofs.Tryz.prog wt 25 = some z25 := by kernel_rfl
theorem y30 : compF Go.Proofs.Tryz.prog wt 30 = some z30 := by kernel_rfl
theorem y36 : compF Go.Proofs.Tryz.prog wt 36 = some z36 := by kernel_rfl
theorem y40 : compF Go.Proofs.Tryz.prog wt 40 = some z40 := by kernel_rfl
theorem y44 : compF Go.Proofs.Tryz.prog wt 44 = some z44 := by kernel_rfl
theorem y49 : compF Go.Proofs.Tryz.prog wt 49 = some z49 := by kernel_rfl
theorem y55 : compF Go.Proofs.Tryz.prog wt 55 = some z55 := by kernel_rfl
theorem y57 : compF Go.Proofs.Tryz.prog wt 57 = some z57 := by kernel_rfl
theorem y58 : compF Go.Proofs.Tryz.prog wt 58 = some z58 := by kernel_rfl
theorem y60 : compF Go.Proofs.Tryz.prog wt 60 = some z60 := by kernel_rfl
theorem y62 : compF Go.Proofs.Tryz.prog wt 62 = some z62 := by kernel_rfl
theorem y69 : compF Go.Proofs.Tryz.prog wt 69 = some z69 := by kernel_rfl
theorem y80 : compF Go.Proofs.Tryz.prog wt 80 = some z80 := by kernel_rfl
theorem y88 : compF Go.Proofs.Tryz.prog wt 88 = some z88 := by kernel_rfl
theorem y92 : compF Go.Proofs.Tryz.prog wt 92 = some z92 := by kernel_rfl
theorem y93 : compF Go.Proofs.Tryz.prog wt 93 = some z93 := by kernel_rfl
theorem y94 : compF Go.Proofs.Tryz.prog wt 94 = some z94 := by kernel_rfl
theorem y96 : compF Go.Proofs.Tryz.prog wt 96 = some z96 := by kernel_rfl
theorem y97 : compF Go.Proofs.Tryz.prog wt 97 = some z97 := by kernel_rfl
theorem y101 : compF Go.Proofs.Tryz.prog wt 101 = some z101 := by kernel_rfl
theorem y111 : compF Go.Proofs.Tryz.prog wt 111 = some z111 := by kernel_rfl
theorem y116 : compF Go.Proofs.Tryz.prog wt 116 = some z116 := by kernel_rfl
theorem y121 : compF Go.Proofs.Tryz.prog wt 121 = some z121 := by kernel_rfl
theorem y129 : compF Go.Proofs.Tryz.prog wt 129 = some z129 := by kernel_rfl
theorem y131 : compF Go.Proofs.Tryz.prog wt 131 = some z131 := by kernel_rfl
theorem y133 : compF Go.Proofs.Tryz.prog wt 133 = some z133 := by kernel_rfl
theorem y136 : compF Go.Proofs.Tryz.prog wt 136 = some z136 := by kernel_rfl
theorem y144 : compF Go.Proofs.Tryz.prog wt 144 = some z144 := by kernel_rfl
theorem y145 : compF Go.Proofs.Tryz.prog wt 145 = some z145 := by kernel_rfl
theorem y152 : compF Go.Proofs.Tryz.prog wt 152 = some z152 := by kernel_rfl
theorem y163 : compF Go.Proofs.Tryz.prog wt 163 = some z163 := by kernel_rfl
theorem y177 : compF Go.Proofs.Tryz.prog wt 177 = some z177 := by kernel_rfl
theorem y182 : compF Go.Proofs.Tryz.prog wt 182 = some z182 := by kernel_rfl
theorem y183 : compF Go.Proofs.Tryz.prog wt 183 = some z183 := by kernel_rfl
theorem y190 : compF Go.Proofs.Tryz.prog wt 190 = some z190 := by kernel_rfl
theorem y191 : compF Go.Proofs.Tryz.prog wt 191 = some z191 := by kernel_rfl
theorem y201 : compF Go.Proofs.Tryz.prog wt 201 = some z201 := by kernel_rfl
theorem y204 : compF Go.Proofs.Tryz.prog wt 204 = some z204 := by kernel_rfl
theorem y206 : compF Go.Proofs.Tryz.prog wt 206 = some z206 := by kernel_rfl
theorem y211 : compF Go.Proofs.Tryz.prog wt 211 = some z211 := by kernel_rfl
theorem y219 : compF Go.Proofs.Tryz.prog wt 219 = some z219 := by kernel_rfl
theorem y223 : compF Go.Proofs.Tryz.prog wt 223 = some z223 := by kernel_rfl
theorem y225 : compF Go.Proofs.Tryz.prog wt 225 = some z225 := by kernel_rfl
theorem y232 : compF Go.Proofs.Tryz.prog wt 232 = some z232 := by kernel_rfl
theorem y254 : compF Go.Proofs.Tryz.prog wt 254 = some z254 := by kernel_rfl
theorem y260 : compF Go.Proofs.Tryz.prog wt 260 = some z260 := by kernel_rfl
theorem y261 : compF Go.Proofs.Tryz.prog wt 261 = some z261 := by kernel_rfl
theorem y280 : compF Go.Proofs.Tryz.prog wt 280 = some z280 := by kernel_rfl
theorem y281 : compF Go.Proofs.Tryz.prog wt 281 = some z281 := by kernel_rfl
theorem y283 : compF Go.Proofs.Tryz.prog wt 283 = some z283 := by kernel_rfl
theorem y284 : compF Go.Proofs.Tryz.prog wt 284 = some z284 := by kernel_rfl
theorem y286 : compF Go.Proofs.Tryz.prog wt 286 = some z286 := by kernel_rfl
theorem y292 : compF Go.Proofs.Tryz.prog wt 292 = some z292 := by kernel_rfl
theorem y294 : compF Go.Proofs.Tryz.prog wt 294 = some z294 := by kernel_rfl
theorem y296 : compF Go.Proofs.Tryz.prog wt 296 = some z296 := by kernel_rfl
theorem y312 : compF Go.Proofs.Tryz.prog wt 312 = some z312 := by kernel_rfl
theorem y322 : compF Go.Proofs.Tryz.prog wt 322 = some z322 := by kernel_rfl
theorem y343 : compF Go.Proofs.Tryz.prog wt 343 = some z343 := by kernel_rfl
end
end Ev
end Go.Proofs.YtcchekmejnhlmaaGreat
