/- Each function is made so: part 2. -/
import Derived.Test.YtcchekmejnhlmaaGreatKEvZ
import Derived.Test.YtcchekmejnhlmaaGreatProg
import Derived.KernelRfl
namespace Go.Proofs.YtcchekmejnhlmaaGreat
namespace Ev
noncomputable section
open Go
set_option maxRecDepth 1000000
theorem y15 : compF Go.Proofs.Tryz.prog wt 15 = some z15 := by kernel_rfl
theorem y22 : compF Go.Proofs.Tryz.prog wt 22 = some z22 := by kernel_rfl
theorem y23 : compF Go.Proofs.Tryz.prog wt 23 = some z23 := by kernel_rfl
theorem y25 : compF Go.Proofs.Tryz.prog wt 25 = some z25 := by kernel_rfl
theorem y26 : compF Go.Proofs.Tryz.prog wt 26 = some z26 := by kernel_rfl
theorem y32 : compF Go.Proofs.Tryz.prog wt 32 = some z32 := by kernel_rfl
theorem y42 : compF Go.Proofs.Tryz.prog wt 42 = some z42 := by kernel_rfl
theorem y44 : compF Go.Proofs.Tryz.prog wt 44 = some z44 := by kernel_rfl
theorem y51 : compF Go.Proofs.Tryz.prog wt 51 = some z51 := by kernel_rfl
theorem y52 : compF Go.Proofs.Tryz.prog wt 52 = some z52 := by kernel_rfl
theorem y66 : compF Go.Proofs.Tryz.prog wt 66 = some z66 := by kernel_rfl
theorem y71 : compF Go.Proofs.Tryz.prog wt 71 = some z71 := by kernel_rfl
theorem y73 : compF Go.Proofs.Tryz.prog wt 73 = some z73 := by kernel_rfl
theorem y75 : compF Go.Proofs.Tryz.prog wt 75 = some z75 := by kernel_rfl
theorem y100 : compF Go.Proofs.Tryz.prog wt 100 = some z100 := by kernel_rfl
theorem y102 : compF Go.Proofs.Tryz.prog wt 102 = some z102 := by kernel_rfl
theorem y107 : compF Go.Proofs.Tryz.prog wt 107 = some z107 := by kernel_rfl
theorem y111 : compF Go.Proofs.Tryz.prog wt 111 = some z111 := by kernel_rfl
theorem y113 : compF Go.Proofs.Tryz.prog wt 113 = some z113 := by kernel_rfl
theorem y127 : compF Go.Proofs.Tryz.prog wt 127 = some z127 := by kernel_rfl
theorem y157 : compF Go.Proofs.Tryz.prog wt 157 = some z157 := by kernel_rfl
theorem y159 : compF Go.Proofs.Tryz.prog wt 159 = some z159 := by kernel_rfl
theorem y162 : compF Go.Proofs.Tryz.prog wt 162 = some z162 := by kernel_rfl
theorem y169 : compF Go.Proofs.Tryz.prog wt 169 = some z169 := by kernel_rfl
theorem y170 : compF Go.Proofs.Tryz.prog wt 170 = some z170 := by kernel_rfl
theorem y175 : compF Go.Proofs.Tryz.prog wt 175 = some z175 := by kernel_rfl
theorem y176 : compF Go.Proofs.Tryz.prog wt 176 = some z176 := by kernel_rfl
theorem y185 : compF Go.Proofs.Tryz.prog wt 185 = some z185 := by kernel_rfl
theorem y193 : compF Go.Proofs.Tryz.prog wt 193 = some z193 := by kernel_rfl
theorem y205 : compF Go.Proofs.Tryz.prog wt 205 = some z205 := by kernel_rfl
theorem y209 : compF Go.Proofs.Tryz.prog wt 209 = some z209 := by kernel_rfl
theorem y211 : compF Go.Proofs.Tryz.prog wt 211 = some z211 := by kernel_rfl
theorem y217 : compF Go.Proofs.Tryz.prog wt 217 = some z217 := by kernel_rfl
theorem y222 : compF Go.Proofs.Tryz.prog wt 222 = some z222 := by kernel_rfl
theorem y225 : compF Go.Proofs.Tryz.prog wt 225 = some z225 := by kernel_rfl
theorem y232 : compF Go.Proofs.Tryz.prog wt 232 = some z232 := by kernel_rfl
theorem y233 : compF Go.Proofs.Tryz.prog wt 233 = some z233 := by kernel_rfl
theorem y234 : compF Go.Proofs.Tryz.prog wt 234 = some z234 := by kernel_rfl
theorem y244 : compF Go.Proofs.Tryz.prog wt 244 = some z244 := by kernel_rfl
theorem y245 : compF Go.Proofs.Tryz.prog wt 245 = some z245 := by kernel_rfl
theorem y310 : compF Go.Proofs.Tryz.prog wt 310 = some z310 := by kernel_rfl
end
end Ev
end Go.Proofs.YtcchekmejnhlmaaGreat
