/- Each function is made so: part 2. -/
import Derived.Test.YtcchekmejnhlmaaGreatKEvZ
import Derived.Test.YtcchekmejnhlmaaGreatProg
import Derived.KernelRfl
namespace Go.Proofs.YtcchekmejnhlmaaGreat
namespace Ev
noncomputable section
open Go
set_option maxRecDepth 1000000
theorem y14 : compF Go.Proofs.Tryz.prog wt 14 = some z14 := by kernel_rfl
theorem y15 : compF Go.Proofs.Tryz.prog wt 15 = some z15 := by kernel_rfl
theorem y17 : compF Go.Proofs.Tryz.prog wt 17 = some z17 := by kernel_rfl
theorem y21 : compF Go.Proofs.Tryz.prog wt 21 = some z21 := by kernel_rfl
theorem y24 : compF Go.Proofs.Tryz.prog wt 24 = some z24 := by kernel_rfl
theorem y32 : compF Go.Proofs.Tryz.prog wt 32 = some z32 := by kernel_rfl
theorem y41 : compF Go.Proofs.Tryz.prog wt 41 = some z41 := by kernel_rfl
theorem y48 : compF Go.Proofs.Tryz.prog wt 48 = some z48 := by kernel_rfl
theorem y50 : compF Go.Proofs.Tryz.prog wt 50 = some z50 := by kernel_rfl
theorem y51 : compF Go.Proofs.Tryz.prog wt 51 = some z51 := by kernel_rfl
theorem y60 : compF Go.Proofs.Tryz.prog wt 60 = some z60 := by kernel_rfl
theorem y73 : compF Go.Proofs.Tryz.prog wt 73 = some z73 := by kernel_rfl
theorem y76 : compF Go.Proofs.Tryz.prog wt 76 = some z76 := by kernel_rfl
theorem y78 : compF Go.Proofs.Tryz.prog wt 78 = some z78 := by kernel_rfl
theorem y79 : compF Go.Proofs.Tryz.prog wt 79 = some z79 := by kernel_rfl
theorem y87 : compF Go.Proofs.Tryz.prog wt 87 = some z87 := by kernel_rfl
theorem y97 : compF Go.Proofs.Tryz.prog wt 97 = some z97 := by kernel_rfl
theorem y102 : compF Go.Proofs.Tryz.prog wt 102 = some z102 := by kernel_rfl
theorem y112 : compF Go.Proofs.Tryz.prog wt 112 = some z112 := by kernel_rfl
theorem y121 : compF Go.Proofs.Tryz.prog wt 121 = some z121 := by kernel_rfl
theorem y122 : compF Go.Proofs.Tryz.prog wt 122 = some z122 := by kernel_rfl
theorem y139 : compF Go.Proofs.Tryz.prog wt 139 = some z139 := by kernel_rfl
theorem y141 : compF Go.Proofs.Tryz.prog wt 141 = some z141 := by kernel_rfl
theorem y144 : compF Go.Proofs.Tryz.prog wt 144 = some z144 := by kernel_rfl
theorem y148 : compF Go.Proofs.Tryz.prog wt 148 = some z148 := by kernel_rfl
theorem y160 : compF Go.Proofs.Tryz.prog wt 160 = some z160 := by kernel_rfl
theorem y161 : compF Go.Proofs.Tryz.prog wt 161 = some z161 := by kernel_rfl
theorem y169 : compF Go.Proofs.Tryz.prog wt 169 = some z169 := by kernel_rfl
theorem y182 : compF Go.Proofs.Tryz.prog wt 182 = some z182 := by kernel_rfl
theorem y195 : compF Go.Proofs.Tryz.prog wt 195 = some z195 := by kernel_rfl
theorem y204 : compF Go.Proofs.Tryz.prog wt 204 = some z204 := by kernel_rfl
theorem y216 : compF Go.Proofs.Tryz.prog wt 216 = some z216 := by kernel_rfl
theorem y222 : compF Go.Proofs.Tryz.prog wt 222 = some z222 := by kernel_rfl
theorem y243 : compF Go.Proofs.Tryz.prog wt 243 = some z243 := by kernel_rfl
theorem y245 : compF Go.Proofs.Tryz.prog wt 245 = some z245 := by kernel_rfl
theorem y279 : compF Go.Proofs.Tryz.prog wt 279 = some z279 := by kernel_rfl
end
end Ev
end Go.Proofs.YtcchekmejnhlmaaGreat
