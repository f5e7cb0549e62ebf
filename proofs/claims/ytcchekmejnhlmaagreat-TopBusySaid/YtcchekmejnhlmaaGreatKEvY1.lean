/- Each function is made so: part 1. -/
import Derived.Test.YtcchekmejnhlmaaGreatKEvZ
import Derived.Test.YtcchekmejnhlmaaGreatProg
import Derived.KernelRfl
namespace Go.Proofs.YtcchekmejnhlmaaGreat
namespace Ev
noncomputable section
open Go
set_option maxRecDepth 1000000
theorem y43 : compF Go.Proofs.Tryz.prog wt 43 = some z43 := by kernel_rfl
theorem y44 : compF Go.Proofs.Tryz.prog wt 44 = some z44 := by kernel_rfl
theorem y49 : compF Go.Proofs.Tryz.prog wt 49 = some z49 := by kernel_rfl
theorem y52 : compF Go.Proofs.Tryz.prog wt 52 = some z52 := by kernel_rfl
theorem y66 : compF Go.Proofs.Tryz.prog wt 66 = some z66 := by kernel_rfl
theorem y71 : compF Go.Proofs.Tryz.prog wt 71 = some z71 := by kernel_rfl
theorem y75 : compF Go.Proofs.Tryz.prog wt 75 = some z75 := by kernel_rfl
theorem y81 : compF Go.Proofs.Tryz.prog wt 81 = some z81 := by kernel_rfl
theorem y82 : compF Go.Proofs.Tryz.prog wt 82 = some z82 := by kernel_rfl
theorem y86 : compF Go.Proofs.Tryz.prog wt 86 = some z86 := by kernel_rfl
theorem y93 : compF Go.Proofs.Tryz.prog wt 93 = some z93 := by kernel_rfl
theorem y101 : compF Go.Proofs.Tryz.prog wt 101 = some z101 := by kernel_rfl
theorem y103 : compF Go.Proofs.Tryz.prog wt 103 = some z103 := by kernel_rfl
theorem y107 : compF Go.Proofs.Tryz.prog wt 107 = some z107 := by kernel_rfl
theorem y111 : compF Go.Proofs.Tryz.prog wt 111 = some z111 := by kernel_rfl
theorem y118 : compF Go.Proofs.Tryz.prog wt 118 = some z118 := by kernel_rfl
theorem y119 : compF Go.Proofs.Tryz.prog wt 119 = some z119 := by kernel_rfl
theorem y120 : compF Go.Proofs.Tryz.prog wt 120 = some z120 := by kernel_rfl
theorem y124 : compF Go.Proofs.Tryz.prog wt 124 = some z124 := by kernel_rfl
theorem y133 : compF Go.Proofs.Tryz.prog wt 133 = some z133 := by kernel_rfl
theorem y136 : compF Go.Proofs.Tryz.prog wt 136 = some z136 := by kernel_rfl
theorem y137 : compF Go.Proofs.Tryz.prog wt 137 = some z137 := by kernel_rfl
theorem y140 : compF Go.Proofs.Tryz.prog wt 140 = some z140 := by kernel_rfl
theorem y157 : compF Go.Proofs.Tryz.prog wt 157 = some z157 := by kernel_rfl
theorem y171 : compF Go.Proofs.Tryz.prog wt 171 = some z171 := by kernel_rfl
theorem y180 : compF Go.Proofs.Tryz.prog wt 180 = some z180 := by kernel_rfl
theorem y196 : compF Go.Proofs.Tryz.prog wt 196 = some z196 := by kernel_rfl
theorem y207 : compF Go.Proofs.Tryz.prog wt 207 = some z207 := by kernel_rfl
theorem y221 : compF Go.Proofs.Tryz.prog wt 221 = some z221 := by kernel_rfl
theorem y225 : compF Go.Proofs.Tryz.prog wt 225 = some z225 := by kernel_rfl
theorem y244 : compF Go.Proofs.Tryz.prog wt 244 = some z244 := by kernel_rfl
theorem y254 : compF Go.Proofs.Tryz.prog wt 254 = some z254 := by kernel_rfl
theorem y255 : compF Go.Proofs.Tryz.prog wt 255 = some z255 := by kernel_rfl
theorem y260 : compF Go.Proofs.Tryz.prog wt 260 = some z260 := by kernel_rfl
theorem y281 : compF Go.Proofs.Tryz.prog wt 281 = some z281 := by kernel_rfl
theorem y290 : compF Go.Proofs.Tryz.prog wt 290 = some z290 := by kernel_rfl
end
end Ev
end Go.Proofs.YtcchekmejnhlmaaGreat
