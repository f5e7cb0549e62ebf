/- Each function is made so: part 1. -/
import Derived.Test.YtcchekmejnhlmaaGreatKEvZ
import Derived.Test.YtcchekmejnhlmaaGreatProg
import Derived.KernelRfl
namespace Go.Proofs.YtcchekmejnhlmaaGreat
namespace Ev
noncomputable section
open Go
set_option maxRecDepth 1000000
theorem y16 : compF Go.Proofs.Tryz.prog wt 16 = some z16 := by kernel_rfl
theorem y32 : compF Go.Proofs.Tryz.prog wt 32 = some z32 := by kernel_rfl
theorem y39 : compF Go.Proofs.Tryz.prog wt 39 = some z39 := by kernel_rfl
theorem y41 : compF Go.Proofs.Tryz.prog wt 41 = some z41 := by kernel_rfl
theorem y42 : compF Go.Proofs.Tryz.prog wt 42 = some z42 := by kernel_rfl
theorem y48 : compF Go.Proofs.Tryz.prog wt 48 = some z48 := by kernel_rfl
theorem y52 : compF Go.Proofs.Tryz.prog wt 52 = some z52 := by kernel_rfl
theorem y53 : compF Go.Proofs.Tryz.prog wt 53 = some z53 := by kernel_rfl
theorem y56 : compF Go.Proofs.Tryz.prog wt 56 = some z56 := by kernel_rfl
theorem y63 : compF Go.Proofs.Tryz.prog wt 63 = some z63 := by kernel_rfl
theorem y71 : compF Go.Proofs.Tryz.prog wt 71 = some z71 := by kernel_rfl
theorem y75 : compF Go.Proofs.Tryz.prog wt 75 = some z75 := by kernel_rfl
theorem y81 : compF Go.Proofs.Tryz.prog wt 81 = some z81 := by kernel_rfl
theorem y83 : compF Go.Proofs.Tryz.prog wt 83 = some z83 := by kernel_rfl
theorem y86 : compF Go.Proofs.Tryz.prog wt 86 = some z86 := by kernel_rfl
theorem y98 : compF Go.Proofs.Tryz.prog wt 98 = some z98 := by kernel_rfl
theorem y99 : compF Go.Proofs.Tryz.prog wt 99 = some z99 := by kernel_rfl
theorem y103 : compF Go.Proofs.Tryz.prog wt 103 = some z103 := by kernel_rfl
theorem y106 : compF Go.Proofs.Tryz.prog wt 106 = some z106 := by kernel_rfl
theorem y108 : compF Go.Proofs.Tryz.prog wt 108 = some z108 := by kernel_rfl
theorem y110 : compF Go.Proofs.Tryz.prog wt 110 = some z110 := by kernel_rfl
theorem y112 : compF Go.Proofs.Tryz.prog wt 112 = some z112 := by kernel_rfl
theorem y118 : compF Go.Proofs.Tryz.prog wt 118 = some z118 := by kernel_rfl
theorem y119 : compF Go.Proofs.Tryz.prog wt 119 = some z119 := by kernel_rfl
theorem y120 : compF Go.Proofs.Tryz.prog wt 120 = some z120 := by kernel_rfl
theorem y122 : compF Go.Proofs.Tryz.prog wt 122 = some z122 := by kernel_rfl
theorem y132 : compF Go.Proofs.Tryz.prog wt 132 = some z132 := by kernel_rfl
theorem y135 : compF Go.Proofs.Tryz.prog wt 135 = some z135 := by kernel_rfl
theorem y137 : compF Go.Proofs.Tryz.prog wt 137 = some z137 := by kernel_rfl
theorem y138 : compF Go.Proofs.Tryz.prog wt 138 = some z138 := by kernel_rfl
theorem y146 : compF Go.Proofs.Tryz.prog wt 146 = some z146 := by kernel_rfl
theorem y149 : compF Go.Proofs.Tryz.prog wt 149 = some z149 := by kernel_rfl
theorem y153 : compF Go.Proofs.Tryz.prog wt 153 = some z153 := by kernel_rfl
theorem y155 : compF Go.Proofs.Tryz.prog wt 155 = some z155 := by kernel_rfl
theorem y158 : compF Go.Proofs.Tryz.prog wt 158 = some z158 := by kernel_rfl
theorem y166 : compF Go.Proofs.Tryz.prog wt 166 = some z166 := by kernel_rfl
theorem y176 : compF Go.Proofs.Tryz.prog wt 176 = some z176 := by kernel_rfl
theorem y188 : compF Go.Proofs.Tryz.prog wt 188 = some z188 := by kernel_rfl
theorem y189 : compF Go.Proofs.Tryz.prog wt 189 = some z189 := by kernel_rfl
theorem y193 : compF Go.Proofs.Tryz.prog wt 193 = some z193 := by kernel_rfl
theorem y199 : compF Go.Proofs.Tryz.prog wt 199 = some z199 := by kernel_rfl
theorem y202 : compF Go.Proofs.Tryz.prog wt 202 = some z202 := by kernel_rfl
theorem y203 : compF Go.Proofs.Tryz.prog wt 203 = some z203 := by kernel_rfl
theorem y207 : compF Go.Proofs.Tryz.prog wt 207 = some z207 := by kernel_rfl
theorem y210 : compF Go.Proofs.Tryz.prog wt 210 = some z210 := by kernel_rfl
theorem y217 : compF Go.Proofs.Tryz.prog wt 217 = some z217 := by kernel_rfl
theorem y218 : compF Go.Proofs.Tryz.prog wt 218 = some z218 := by kernel_rfl
theorem y220 : compF Go.Proofs.Tryz.prog wt 220 = some z220 := by kernel_rfl
theorem y221 : compF Go.Proofs.Tryz.prog wt 221 = some z221 := by kernel_rfl
theorem y224 : compF Go.Proofs.Tryz.prog wt 224 = some z224 := by kernel_rfl
theorem y228 : compF Go.Proofs.Tryz.prog wt 228 = some z228 := by kernel_rfl
theorem y229 : compF Go.Proofs.Tryz.prog wt 229 = some z229 := by kernel_rfl
theorem y234 : compF Go.Proofs.Tryz.prog wt 234 = some z234 := by kernel_rfl
theorem y239 : compF Go.Proofs.Tryz.prog wt 239 = some z239 := by kernel_rfl
theorem y243 : compF Go.Proofs.Tryz.prog wt 243 = some z243 := by kernel_rfl
theorem y245 : compF Go.Proofs.Tryz.prog wt 245 = some z245 := by kernel_rfl
theorem y246 : compF Go.Proofs.Tryz.prog wt 246 = some z246 := by kernel_rfl
theorem y256 : compF Go.Proofs.Tryz.prog wt 256 = some z256 := by kernel_rfl
theorem y262 : compF Go.Proofs.Tryz.prog wt 262 = some z262 := by kernel_rfl
theorem y265 : compF Go.Proofs.Tryz.prog wt 265 = some z265 := by kernel_rfl
theorem y268 : compF Go.Proofs.Tryz.prog wt 268 = some z268 := by kernel_rfl
theorem y285 : compF Go.Proofs.Tryz.prog wt 285 = some z285 := by kernel_rfl
theorem y308 : compF Go.Proofs.Tryz.prog wt 308 = some z308 := by kernel_rfl
theorem y314 : compF Go.Proofs.Tryz.prog wt 314 = some z314 := by kernel_rfl
theorem y321 : compF Go.Proofs.Tryz.prog wt 321 = some z321 := by kernel_rfl
theorem y346 : compF Go.Proofs.Tryz.prog wt 346 = some z346 := by kernel_rfl
end
end Ev
end Go.Proofs.YtcchekmejnhlmaaGreat
