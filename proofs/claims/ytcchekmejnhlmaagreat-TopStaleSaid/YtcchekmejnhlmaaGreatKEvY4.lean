/- Each function is made so: part 4. -/
import Derived.Test.YtcchekmejnhlmaaGreatKEvZ
import Derived.Test.YtcchekmejnhlmaaGreatProg
import Derived.KernelRfl
namespace Go.Proofs.YtcchekmejnhlmaaGreat
namespace Ev
noncomputable section
open Go
set_option maxRecDepth 1000000
theorem y3 : compF Go.Proofs.Tryz.prog wt 3 = some z3 := by kernel_rfl
theorem y9 : compF Go.Proofs.Tryz.prog wt 9 = some z9 := by kernel_rfl
theorem y17 : compF Go.Proofs.Tryz.prog wt 17 = some z17 := by kernel_rfl
theorem y18 : compF Go.Proofs.Tryz.prog wt 18 = some z18 := by kernel_rfl
theorem y40 : compF Go.Proofs.Tryz.prog wt 40 = some z40 := by kernel_rfl
theorem y50 : compF Go.Proofs.Tryz.prog wt 50 = some z50 := by kernel_rfl
theorem y59 : compF Go.Proofs.Tryz.prog wt 59 = some z59 := by kernel_rfl
theorem y60 : compF Go.Proofs.Tryz.prog wt 60 = some z60 := by kernel_rfl
theorem y74 : compF Go.Proofs.Tryz.prog wt 74 = some z74 := by kernel_rfl
theorem y76 : compF Go.Proofs.Tryz.prog wt 76 = some z76 := by kernel_rfl
theorem y80 : compF Go.Proofs.Tryz.prog wt 80 = some z80 := by kernel_rfl
theorem y94 : compF Go.Proofs.Tryz.prog wt 94 = some z94 := by kernel_rfl
theorem y95 : compF Go.Proofs.Tryz.prog wt 95 = some z95 := by kernel_rfl
theorem y96 : compF Go.Proofs.Tryz.prog wt 96 = some z96 := by kernel_rfl
theorem y101 : compF Go.Proofs.Tryz.prog wt 101 = some z101 := by kernel_rfl
theorem y122 : compF Go.Proofs.Tryz.prog wt 122 = some z122 := by kernel_rfl
theorem y138 : compF Go.Proofs.Tryz.prog wt 138 = some z138 := by kernel_rfl
theorem y139 : compF Go.Proofs.Tryz.prog wt 139 = some z139 := by kernel_rfl
theorem y148 : compF Go.Proofs.Tryz.prog wt 148 = some z148 := by kernel_rfl
theorem y156 : compF Go.Proofs.Tryz.prog wt 156 = some z156 := by kernel_rfl
theorem y158 : compF Go.Proofs.Tryz.prog wt 158 = some z158 := by kernel_rfl
theorem y173 : compF Go.Proofs.Tryz.prog wt 173 = some z173 := by kernel_rfl
theorem y174 : compF Go.Proofs.Tryz.prog wt 174 = some z174 := by kernel_rfl
theorem y177 : compF Go.Proofs.Tryz.prog wt 177 = some z177 := by kernel_rfl
theorem y189 : compF Go.Proofs.Tryz.prog wt 189 = some z189 := by kernel_rfl
theorem y196 : compF Go.Proofs.Tryz.prog wt 196 = some z196 := by kernel_rfl
theorem y207 : compF Go.Proofs.Tryz.prog wt 207 = some z207 := by kernel_rfl
theorem y212 : compF Go.Proofs.Tryz.prog wt 212 = some z212 := by kernel_rfl
theorem y220 : compF Go.Proofs.Tryz.prog wt 220 = some z220 := by kernel_rfl
theorem y226 : compF Go.Proofs.Tryz.prog wt 226 = some z226 := by kernel_rfl
theorem y228 : compF Go.Proofs.Tryz.prog wt 228 = some z228 := by kernel_rfl
theorem y235 : compF Go.Proofs.Tryz.prog wt 235 = some z235 := by kernel_rfl
theorem y238 : compF Go.Proofs.Tryz.prog wt 238 = some z238 := by kernel_rfl
theorem y246 : compF Go.Proofs.Tryz.prog wt 246 = some z246 := by kernel_rfl
theorem y254 : compF Go.Proofs.Tryz.prog wt 254 = some z254 := by kernel_rfl
theorem y255 : compF Go.Proofs.Tryz.prog wt 255 = some z255 := by kernel_rfl
theorem y270 : compF Go.Proofs.Tryz.prog wt 270 = some z270 := by kernel_rfl
theorem y279 : compF Go.Proofs.Tryz.prog wt 279 = some z279 := by kernel_rfl
theorem y282 : compF Go.Proofs.Tryz.prog wt 282 = some z282 := by kernel_rfl
theorem y284 : compF Go.Proofs.Tryz.prog wt 284 = some z284 := by kernel_rfl
theorem y290 : compF Go.Proofs.Tryz.prog wt 290 = some z290 := by kernel_rfl
theorem y323 : compF Go.Proofs.Tryz.prog wt 323 = some z323 := by kernel_rfl
end
end Ev
end Go.Proofs.YtcchekmejnhlmaaGreat
