/- Each function is made so: part 1. -/
import Derived.Test.YtcchekmejnhlmaaGreatKEvZ
import Derived.Test.YtcchekmejnhlmaaGreatProg
import Derived.KernelRfl
namespace Go.Proofs.YtcchekmejnhlmaaGreat
namespace Ev
noncomputable section
open Go
set_option maxRecDepth 1000000
theorem y4 : compF Go.Proofs.Tryz.prog wt 4 = some z4 := by kernel_rfl
theorem y17 : compF Go.Proofs.Tryz.prog wt 17 = some z17 := by kernel_rfl
theorem y21 : compF Go.Proofs.Tryz.prog wt 21 = some z21 := by kernel_rfl
theorem y22 : compF Go.Proofs.Tryz.prog wt 22 = some z22 := by kernel_rfl
theorem y33 : compF Go.Proofs.Tryz.prog wt 33 = some z33 := by kernel_rfl
theorem y40 : compF Go.Proofs.Tryz.prog wt 40 = some z40 := by kernel_rfl
theorem y43 : compF Go.Proofs.Tryz.prog wt 43 = some z43 := by kernel_rfl
theorem y50 : compF Go.Proofs.Tryz.prog wt 50 = some z50 := by kernel_rfl
theorem y57 : compF Go.Proofs.Tryz.prog wt 57 = some z57 := by kernel_rfl
theorem y63 : compF Go.Proofs.Tryz.prog wt 63 = some z63 := by kernel_rfl
theorem y69 : compF Go.Proofs.Tryz.prog wt 69 = some z69 := by kernel_rfl
theorem y79 : compF Go.Proofs.Tryz.prog wt 79 = some z79 := by kernel_rfl
theorem y94 : compF Go.Proofs.Tryz.prog wt 94 = some z94 := by kernel_rfl
theorem y95 : compF Go.Proofs.Tryz.prog wt 95 = some z95 := by kernel_rfl
theorem y97 : compF Go.Proofs.Tryz.prog wt 97 = some z97 := by kernel_rfl
theorem y103 : compF Go.Proofs.Tryz.prog wt 103 = some z103 := by kernel_rfl
theorem y107 : compF Go.Proofs.Tryz.prog wt 107 = some z107 := by kernel_rfl
theorem y108 : compF Go.Proofs.Tryz.prog wt 108 = some z108 := by kernel_rfl
theorem y113 : compF Go.Proofs.Tryz.prog wt 113 = some z113 := by kernel_rfl
theorem y122 : compF Go.Proofs.Tryz.prog wt 122 = some z122 := by kernel_rfl
theorem y129 : compF Go.Proofs.Tryz.prog wt 129 = some z129 := by kernel_rfl
theorem y136 : compF Go.Proofs.Tryz.prog wt 136 = some z136 := by kernel_rfl
theorem y143 : compF Go.Proofs.Tryz.prog wt 143 = some z143 := by kernel_rfl
theorem y148 : compF Go.Proofs.Tryz.prog wt 148 = some z148 := by kernel_rfl
theorem y155 : compF Go.Proofs.Tryz.prog wt 155 = some z155 := by kernel_rfl
theorem y163 : compF Go.Proofs.Tryz.prog wt 163 = some z163 := by kernel_rfl
theorem y169 : compF Go.Proofs.Tryz.prog wt 169 = some z169 := by kernel_rfl
theorem y177 : compF Go.Proofs.Tryz.prog wt 177 = some z177 := by kernel_rfl
theorem y189 : compF Go.Proofs.Tryz.prog wt 189 = some z189 := by kernel_rfl
theorem y193 : compF Go.Proofs.Tryz.prog wt 193 = some z193 := by kernel_rfl
theorem y197 : compF Go.Proofs.Tryz.prog wt 197 = some z197 := by kernel_rfl
theorem y201 : compF Go.Proofs.Tryz.prog wt 201 = some z201 := by kernel_rfl
theorem y210 : compF Go.Proofs.Tryz.prog wt 210 = some z210 := by kernel_rfl
theorem y223 : compF Go.Proofs.Tryz.prog wt 223 = some z223 := by kernel_rfl
theorem y228 : compF Go.Proofs.Tryz.prog wt 228 = some z228 := by kernel_rfl
theorem y230 : compF Go.Proofs.Tryz.prog wt 230 = some z230 := by kernel_rfl
theorem y233 : compF Go.Proofs.Tryz.prog wt 233 = some z233 := by kernel_rfl
theorem y244 : compF Go.Proofs.Tryz.prog wt 244 = some z244 := by kernel_rfl
theorem y260 : compF Go.Proofs.Tryz.prog wt 260 = some z260 := by kernel_rfl
theorem y263 : compF Go.Proofs.Tryz.prog wt 263 = some z263 := by kernel_rfl
theorem y280 : compF Go.Proofs.Tryz.prog wt 280 = some z280 := by kernel_rfl
theorem y281 : compF Go.Proofs.Tryz.prog wt 281 = some z281 := by kernel_rfl
theorem y284 : compF Go.Proofs.Tryz.prog wt 284 = some z284 := by kernel_rfl
theorem y290 : compF Go.Proofs.Tryz.prog wt 290 = some z290 := by kernel_rfl
theorem y308 : compF Go.Proofs.Tryz.prog wt 308 = some z308 := by kernel_rfl
theorem y311 : compF Go.Proofs.Tryz.prog wt 311 = some z311 := by kernel_rfl
theorem y319 : compF Go.Proofs.Tryz.prog wt 319 = some z319 := by kernel_rfl
theorem y323 : compF Go.Proofs.Tryz.prog wt 323 = some z323 := by kernel_rfl
theorem y329 : compF Go.Proofs.Tryz.prog wt 329 = some z329 := by kernel_rfl
theorem y343 : compF Go.Proofs.Tryz.prog wt 343 = some z343 := by kernel_rfl
end
end Ev
end Go.Proofs.YtcchekmejnhlmaaGreat
