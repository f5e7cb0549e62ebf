/- Each function is made so: part 4. -/
import Derived.Test.YtcchekmejnhlmaaGreatKEvZ
import Derived.Test.YtcchekmejnhlmaaGreatProg
import Derived.KernelRfl
namespace Go.Proofs.YtcchekmejnhlmaaGreat
namespace Ev
noncomputable section
open Go
set_option maxRecDepth 1000000
theorem y21 : compF Go.Proofs.Tryz.prog wt 21 = some z21 := by kernel_rfl
theorem y32 : compF Go.Proofs.Tryz.prog wt 32 = some z32 := by kernel_rfl
theorem y40 : compF Go.Proofs.Tryz.prog wt 40 = some z40 := by kernel_rfl
theorem y49 : compF Go.Proofs.Tryz.prog wt 49 = some z49 := by kernel_rfl
theorem y52 : compF Go.Proofs.Tryz.prog wt 52 = some z52 := by kernel_rfl
theorem y59 : compF Go.Proofs.Tryz.prog wt 59 = some z59 := by kernel_rfl
theorem y61 : compF Go.Proofs.Tryz.prog wt 61 = some z61 := by kernel_rfl
theorem y67 : compF Go.Proofs.Tryz.prog wt 67 = some z67 := by kernel_rfl
theorem y75 : compF Go.Proofs.Tryz.prog wt 75 = some z75 := by kernel_rfl
theorem y93 : compF Go.Proofs.Tryz.prog wt 93 = some z93 := by kernel_rfl
theorem y96 : compF Go.Proofs.Tryz.prog wt 96 = some z96 := by kernel_rfl
theorem y97 : compF Go.Proofs.Tryz.prog wt 97 = some z97 := by kernel_rfl
theorem y100 : compF Go.Proofs.Tryz.prog wt 100 = some z100 := by kernel_rfl
theorem y104 : compF Go.Proofs.Tryz.prog wt 104 = some z104 := by kernel_rfl
theorem y111 : compF Go.Proofs.Tryz.prog wt 111 = some z111 := by kernel_rfl
theorem y118 : compF Go.Proofs.Tryz.prog wt 118 = some z118 := by kernel_rfl
theorem y124 : compF Go.Proofs.Tryz.prog wt 124 = some z124 := by kernel_rfl
theorem y139 : compF Go.Proofs.Tryz.prog wt 139 = some z139 := by kernel_rfl
theorem y143 : compF Go.Proofs.Tryz.prog wt 143 = some z143 := by kernel_rfl
theorem y148 : compF Go.Proofs.Tryz.prog wt 148 = some z148 := by kernel_rfl
theorem y153 : compF Go.Proofs.Tryz.prog wt 153 = some z153 := by kernel_rfl
theorem y154 : compF Go.Proofs.Tryz.prog wt 154 = some z154 := by kernel_rfl
theorem y155 : compF Go.Proofs.Tryz.prog wt 155 = some z155 := by kernel_rfl
theorem y156 : compF Go.Proofs.Tryz.prog wt 156 = some z156 := by kernel_rfl
theorem y157 : compF Go.Proofs.Tryz.prog wt 157 = some z157 := by kernel_rfl
theorem y161 : compF Go.Proofs.Tryz.prog wt 161 = some z161 := by kernel_rfl
theorem y169 : compF Go.Proofs.Tryz.prog wt 169 = some z169 := by kernel_rfl
theorem y170 : compF Go.Proofs.Tryz.prog wt 170 = some z170 := by kernel_rfl
theorem y171 : compF Go.Proofs.Tryz.prog wt 171 = some z171 := by kernel_rfl
theorem y174 : compF Go.Proofs.Tryz.prog wt 174 = some z174 := by kernel_rfl
theorem y182 : compF Go.Proofs.Tryz.prog wt 182 = some z182 := by kernel_rfl
theorem y185 : compF Go.Proofs.Tryz.prog wt 185 = some z185 := by kernel_rfl
theorem y191 : compF Go.Proofs.Tryz.prog wt 191 = some z191 := by kernel_rfl
theorem y198 : compF Go.Proofs.Tryz.prog wt 198 = some z198 := by kernel_rfl
theorem y231 : compF Go.Proofs.Tryz.prog wt 231 = some z231 := by kernel_rfl
theorem y237 : compF Go.Proofs.Tryz.prog wt 237 = some z237 := by kernel_rfl
theorem y258 : compF Go.Proofs.Tryz.prog wt 258 = some z258 := by kernel_rfl
theorem y260 : compF Go.Proofs.Tryz.prog wt 260 = some z260 := by kernel_rfl
theorem y267 : compF Go.Proofs.Tryz.prog wt 267 = some z267 := by kernel_rfl
theorem y270 : compF Go.Proofs.Tryz.prog wt 270 = some z270 := by kernel_rfl
theorem y279 : compF Go.Proofs.Tryz.prog wt 279 = some z279 := by kernel_rfl
theorem y280 : compF Go.Proofs.Tryz.prog wt 280 = some z280 := by kernel_rfl
theorem y281 : compF Go.Proofs.Tryz.prog wt 281 = some z281 := by kernel_rfl
theorem y294 : compF Go.Proofs.Tryz.prog wt 294 = some z294 := by kernel_rfl
theorem y308 : compF Go.Proofs.Tryz.prog wt 308 = some z308 := by kernel_rfl
theorem y309 : compF Go.Proofs.Tryz.prog wt 309 = some z309 := by kernel_rfl
theorem y321 : compF Go.Proofs.Tryz.prog wt 321 = some z321 := by kernel_rfl
end
end Ev
end Go.Proofs.YtcchekmejnhlmaaGreat
