/- Each function is made so: part 2. -/
import Derived.Test.YtcchekmejnhlmaaGreatKEvZ
import Derived.Test.YtcchekmejnhlmaaGreatProg
import Derived.KernelRfl
namespace Go.Proofs.YtcchekmejnhlmaaGreat
namespace Ev
noncomputable section
open Go
set_option maxRecDepth 1000000
theorem y8 : compF Go.Proofs.Tryz.prog wt 8 = some z8 := by kernel_rfl
theorem y11 : compF Go.Proofs.Tryz.prog wt 11 = some z11 := by kernel_rfl
theorem y14 : compF Go.Proofs.Tryz.prog wt 14 = some z14 := by kernel_rfl
theorem y15 : compF Go.Proofs.Tryz.prog wt 15 = some z15 := by kernel_rfl
theorem y23 : compF Go.Proofs.Tryz.prog wt 23 = some z23 := by kernel_rfl
theorem y25 : compF Go.Proofs.Tryz.prog wt 25 = some z25 := by kernel_rfl
theorem y28 : compF Go.Proofs.Tryz.prog wt 28 = some z28 := by kernel_rfl
theorem y30 : compF Go.Proofs.Tryz.prog wt 30 = some z30 := by kernel_rfl
theorem y41 : compF Go.Proofs.Tryz.prog wt 41 = some z41 := by kernel_rfl
theorem y55 : compF Go.Proofs.Tryz.prog wt 55 = some z55 := by kernel_rfl
theorem y58 : compF Go.Proofs.Tryz.prog wt 58 = some z58 := by kernel_rfl
theorem y61 : compF Go.Proofs.Tryz.prog wt 61 = some z61 := by kernel_rfl
theorem y71 : compF Go.Proofs.Tryz.prog wt 71 = some z71 := by kernel_rfl
theorem y74 : compF Go.Proofs.Tryz.prog wt 74 = some z74 := by kernel_rfl
theorem y75 : compF Go.Proofs.Tryz.prog wt 75 = some z75 := by kernel_rfl
theorem y89 : compF Go.Proofs.Tryz.prog wt 89 = some z89 := by kernel_rfl
theorem y92 : compF Go.Proofs.Tryz.prog wt 92 = some z92 := by kernel_rfl
theorem y98 : compF Go.Proofs.Tryz.prog wt 98 = some z98 := by kernel_rfl
theorem y100 : compF Go.Proofs.Tryz.prog wt 100 = some z100 := by kernel_rfl
theorem y102 : compF Go.Proofs.Tryz.prog wt 102 = some z102 := by kernel_rfl
theorem y104 : compF Go.Proofs.Tryz.prog wt 104 = some z104 := by kernel_rfl
theorem y111 : compF Go.Proofs.Tryz.prog wt 111 = some z111 := by kernel_rfl
theorem y112 : compF Go.Proofs.Tryz.prog wt 112 = some z112 := by kernel_rfl
theorem y146 : compF Go.Proofs.Tryz.prog wt 146 = some z146 := by kernel_rfl
theorem y151 : compF Go.Proofs.Tryz.prog wt 151 = some z151 := by kernel_rfl
theorem y158 : compF Go.Proofs.Tryz.prog wt 158 = some z158 := by kernel_rfl
theorem y160 : compF Go.Proofs.Tryz.prog wt 160 = some z160 := by kernel_rfl
theorem y162 : compF Go.Proofs.Tryz.prog wt 162 = some z162 := by kernel_rfl
theorem y166 : compF Go.Proofs.Tryz.prog wt 166 = some z166 := by kernel_rfl
theorem y171 : compF Go.Proofs.Tryz.prog wt 171 = some z171 := by kernel_rfl
theorem y185 : compF Go.Proofs.Tryz.prog wt 185 = some z185 := by kernel_rfl
theorem y188 : compF Go.Proofs.Tryz.prog wt 188 = some z188 := by kernel_rfl
theorem y196 : compF Go.Proofs.Tryz.prog wt 196 = some z196 := by kernel_rfl
theorem y198 : compF Go.Proofs.Tryz.prog wt 198 = some z198 := by kernel_rfl
theorem y209 : compF Go.Proofs.Tryz.prog wt 209 = some z209 := by kernel_rfl
theorem y212 : compF Go.Proofs.Tryz.prog wt 212 = some z212 := by kernel_rfl
theorem y215 : compF Go.Proofs.Tryz.prog wt 215 = some z215 := by kernel_rfl
theorem y216 : compF Go.Proofs.Tryz.prog wt 216 = some z216 := by kernel_rfl
theorem y221 : compF Go.Proofs.Tryz.prog wt 221 = some z221 := by kernel_rfl
theorem y227 : compF Go.Proofs.Tryz.prog wt 227 = some z227 := by kernel_rfl
theorem y246 : compF Go.Proofs.Tryz.prog wt 246 = some z246 := by kernel_rfl
theorem y248 : compF Go.Proofs.Tryz.prog wt 248 = some z248 := by kernel_rfl
theorem y258 : compF Go.Proofs.Tryz.prog wt 258 = some z258 := by kernel_rfl
theorem y262 : compF Go.Proofs.Tryz.prog wt 262 = some z262 := by kernel_rfl
theorem y265 : compF Go.Proofs.Tryz.prog wt 265 = some z265 := by kernel_rfl
theorem y279 : compF Go.Proofs.Tryz.prog wt 279 = some z279 := by kernel_rfl
theorem y282 : compF Go.Proofs.Tryz.prog wt 282 = some z282 := by kernel_rfl
theorem y285 : compF Go.Proofs.Tryz.prog wt 285 = some z285 := by kernel_rfl
theorem y292 : compF Go.Proofs.Tryz.prog wt 292 = some z292 := by kernel_rfl
theorem y310 : compF Go.Proofs.Tryz.prog wt 310 = some z310 := by kernel_rfl
theorem y346 : compF Go.Proofs.Tryz.prog wt 346 = some z346 := by kernel_rfl
end
end Ev
end Go.Proofs.YtcchekmejnhlmaaGreat
