/- Each function is made so: part 3. -/
import Derived.Test.YtcchekmejnhlmaaGreatKEvZ
import Derived.Test.YtcchekmejnhlmaaGreatProg
import Derived.KernelRfl
namespace Go.Proofs.YtcchekmejnhlmaaGreat
namespace Ev
noncomputable section
open Go
set_option maxRecDepth 1000000
theorem y8 : compF Go.Proofs.Tryz.prog wt 8 = some z8 := by kernel_rfl
theorem y11 : compF Go.Proofs.Tryz.prog wt 11 = some z11 := by kernel_rfl
theorem y12 : compF Go.Proofs.Tryz.prog wt 12 = some z12 := by kernel_rfl
theorem y13 : compF Go.Proofs.Tryz.prog wt 13 = some z13 := by kernel_rfl
theorem y21 : compF Go.Proofs.Tryz.prog wt 21 = some z21 := by kernel_rfl
theorem y24 : compF Go.Proofs.Tryz.prog wt 24 = some z24 := by kernel_rfl
theorem y28 : compF Go.Proofs.Tryz.prog wt 28 = some z28 := by kernel_rfl
theorem y29 : compF Go.Proofs.Tryz.prog wt 29 = some z29 := by kernel_rfl
theorem y33 : compF Go.Proofs.Tryz.prog wt 33 = some z33 := by kernel_rfl
theorem y36 : compF Go.Proofs.Tryz.prog wt 36 = some z36 := by kernel_rfl
theorem y41 : compF Go.Proofs.Tryz.prog wt 41 = some z41 := by kernel_rfl
theorem y49 : compF Go.Proofs.Tryz.prog wt 49 = some z49 := by kernel_rfl
theorem y53 : compF Go.Proofs.Tryz.prog wt 53 = some z53 := by kernel_rfl
theorem y54 : compF Go.Proofs.Tryz.prog wt 54 = some z54 := by kernel_rfl
theorem y62 : compF Go.Proofs.Tryz.prog wt 62 = some z62 := by kernel_rfl
theorem y81 : compF Go.Proofs.Tryz.prog wt 81 = some z81 := by kernel_rfl
theorem y106 : compF Go.Proofs.Tryz.prog wt 106 = some z106 := by kernel_rfl
theorem y108 : compF Go.Proofs.Tryz.prog wt 108 = some z108 := by kernel_rfl
theorem y110 : compF Go.Proofs.Tryz.prog wt 110 = some z110 := by kernel_rfl
theorem y118 : compF Go.Proofs.Tryz.prog wt 118 = some z118 := by kernel_rfl
theorem y120 : compF Go.Proofs.Tryz.prog wt 120 = some z120 := by kernel_rfl
theorem y121 : compF Go.Proofs.Tryz.prog wt 121 = some z121 := by kernel_rfl
theorem y136 : compF Go.Proofs.Tryz.prog wt 136 = some z136 := by kernel_rfl
theorem y160 : compF Go.Proofs.Tryz.prog wt 160 = some z160 := by kernel_rfl
theorem y163 : compF Go.Proofs.Tryz.prog wt 163 = some z163 := by kernel_rfl
theorem y182 : compF Go.Proofs.Tryz.prog wt 182 = some z182 := by kernel_rfl
theorem y191 : compF Go.Proofs.Tryz.prog wt 191 = some z191 := by kernel_rfl
theorem y198 : compF Go.Proofs.Tryz.prog wt 198 = some z198 := by kernel_rfl
theorem y203 : compF Go.Proofs.Tryz.prog wt 203 = some z203 := by kernel_rfl
theorem y204 : compF Go.Proofs.Tryz.prog wt 204 = some z204 := by kernel_rfl
theorem y206 : compF Go.Proofs.Tryz.prog wt 206 = some z206 := by kernel_rfl
theorem y218 : compF Go.Proofs.Tryz.prog wt 218 = some z218 := by kernel_rfl
theorem y223 : compF Go.Proofs.Tryz.prog wt 223 = some z223 := by kernel_rfl
theorem y224 : compF Go.Proofs.Tryz.prog wt 224 = some z224 := by kernel_rfl
theorem y237 : compF Go.Proofs.Tryz.prog wt 237 = some z237 := by kernel_rfl
theorem y243 : compF Go.Proofs.Tryz.prog wt 243 = some z243 := by kernel_rfl
theorem y256 : compF Go.Proofs.Tryz.prog wt 256 = some z256 := by kernel_rfl
theorem y259 : compF Go.Proofs.Tryz.prog wt 259 = some z259 := by kernel_rfl
theorem y281 : compF Go.Proofs.Tryz.prog wt 281 = some z281 := by kernel_rfl
theorem y283 : compF Go.Proofs.Tryz.prog wt 283 = some z283 := by kernel_rfl
theorem y307 : compF Go.Proofs.Tryz.prog wt 307 = some z307 := by kernel_rfl
theorem y320 : compF Go.Proofs.Tryz.prog wt 320 = some z320 := by kernel_rfl
end
end Ev
end Go.Proofs.YtcchekmejnhlmaaGreat
