/- Each function is made so: part 1. -/
import Derived.Test.YtcchekmejnhlmaaGreatKEvZ
import Derived.Test.YtcchekmejnhlmaaGreatProg
import Derived.KernelRfl
namespace Go.Proofs.YtcchekmejnhlmaaGreat
namespace Ev
noncomputable section
open Go
set_option maxRecDepth 1000000
theorem y10 : compF Go.Proofs.Tryz.prog wt 10 = some z10 := by kernel_rfl
theorem y14 : compF Go.Proofs.Tryz.prog wt 14 = some z14 := by kernel_rfl
theorem y37 : compF Go.Proofs.Tryz.prog wt 37 = some z37 := by kernel_rfl
theorem y43 : compF Go.Proofs.Tryz.prog wt 43 = some z43 := by kernel_rfl
theorem y48 : compF Go.Proofs.Tryz.prog wt 48 = some z48 := by kernel_rfl
theorem y77 : compF Go.Proofs.Tryz.prog wt 77 = some z77 := by kernel_rfl
theorem y78 : compF Go.Proofs.Tryz.prog wt 78 = some z78 := by kernel_rfl
theorem y79 : compF Go.Proofs.Tryz.prog wt 79 = some z79 := by kernel_rfl
theorem y93 : compF Go.Proofs.Tryz.prog wt 93 = some z93 := by kernel_rfl
theorem y97 : compF Go.Proofs.Tryz.prog wt 97 = some z97 := by kernel_rfl
theorem y98 : compF Go.Proofs.Tryz.prog wt 98 = some z98 := by kernel_rfl
theorem y99 : compF Go.Proofs.Tryz.prog wt 99 = some z99 := by kernel_rfl
theorem y103 : compF Go.Proofs.Tryz.prog wt 103 = some z103 := by kernel_rfl
theorem y104 : compF Go.Proofs.Tryz.prog wt 104 = some z104 := by kernel_rfl
theorem y105 : compF Go.Proofs.Tryz.prog wt 105 = some z105 := by kernel_rfl
theorem y109 : compF Go.Proofs.Tryz.prog wt 109 = some z109 := by kernel_rfl
theorem y112 : compF Go.Proofs.Tryz.prog wt 112 = some z112 := by kernel_rfl
theorem y114 : compF Go.Proofs.Tryz.prog wt 114 = some z114 := by kernel_rfl
theorem y119 : compF Go.Proofs.Tryz.prog wt 119 = some z119 := by kernel_rfl
theorem y124 : compF Go.Proofs.Tryz.prog wt 124 = some z124 := by kernel_rfl
theorem y137 : compF Go.Proofs.Tryz.prog wt 137 = some z137 := by kernel_rfl
theorem y149 : compF Go.Proofs.Tryz.prog wt 149 = some z149 := by kernel_rfl
theorem y150 : compF Go.Proofs.Tryz.prog wt 150 = some z150 := by kernel_rfl
theorem y161 : compF Go.Proofs.Tryz.prog wt 161 = some z161 := by kernel_rfl
theorem y164 : compF Go.Proofs.Tryz.prog wt 164 = some z164 := by kernel_rfl
theorem y166 : compF Go.Proofs.Tryz.prog wt 166 = some z166 := by kernel_rfl
theorem y171 : compF Go.Proofs.Tryz.prog wt 171 = some z171 := by kernel_rfl
theorem y172 : compF Go.Proofs.Tryz.prog wt 172 = some z172 := by kernel_rfl
theorem y180 : compF Go.Proofs.Tryz.prog wt 180 = some z180 := by kernel_rfl
theorem y216 : compF Go.Proofs.Tryz.prog wt 216 = some z216 := by kernel_rfl
theorem y219 : compF Go.Proofs.Tryz.prog wt 219 = some z219 := by kernel_rfl
theorem y221 : compF Go.Proofs.Tryz.prog wt 221 = some z221 := by kernel_rfl
theorem y248 : compF Go.Proofs.Tryz.prog wt 248 = some z248 := by kernel_rfl
theorem y258 : compF Go.Proofs.Tryz.prog wt 258 = some z258 := by kernel_rfl
theorem y260 : compF Go.Proofs.Tryz.prog wt 260 = some z260 := by kernel_rfl
theorem y285 : compF Go.Proofs.Tryz.prog wt 285 = some z285 := by kernel_rfl
theorem y286 : compF Go.Proofs.Tryz.prog wt 286 = some z286 := by kernel_rfl
theorem y291 : compF Go.Proofs.Tryz.prog wt 291 = some z291 := by kernel_rfl
theorem y308 : compF Go.Proofs.Tryz.prog wt 308 = some z308 := by kernel_rfl
theorem y309 : compF Go.Proofs.Tryz.prog wt 309 = some z309 := by kernel_rfl
theorem y319 : compF Go.Proofs.Tryz.prog wt 319 = some z319 := by kernel_rfl
theorem y321 : compF Go.Proofs.Tryz.prog wt 321 = some z321 := by kernel_rfl
end
end Ev
end Go.Proofs.YtcchekmejnhlmaaGreat
