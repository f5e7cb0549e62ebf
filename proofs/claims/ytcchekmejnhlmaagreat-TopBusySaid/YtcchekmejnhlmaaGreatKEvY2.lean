/- Each function is made so: part 2. -/
import Derived.Test.YtcchekmejnhlmaaGreatKEvZ
import Derived.Test.YtcchekmejnhlmaaGreatProg
import Derived.KernelRfl
namespace Go.Proofs.YtcchekmejnhlmaaGreat
namespace Ev
noncomputable section
open Go
set_option maxRecDepth 1000000
theorem y6 : compF Go.Proofs.Tryz.prog wt 6 = some z6 := by kernel_rfl
theorem y8 : compF Go.Proofs.Tryz.prog wt 8 = some z8 := by kernel_rfl
theorem y13 : compF Go.Proofs.Tryz.prog wt 13 = some z13 := by kernel_rfl
theorem y17 : compF Go.Proofs.Tryz.prog wt 17 = some z17 := by kernel_rfl
theorem y21 : compF Go.Proofs.Tryz.prog wt 21 = some z21 := by kernel_rfl
theorem y23 : compF Go.Proofs.Tryz.prog wt 23 = some z23 := by kernel_rfl
theorem y26 : compF Go.Proofs.Tryz.prog wt 26 = some z26 := by kernel_rfl
theorem y28 : compF Go.Proofs.Tryz.prog wt 28 = some z28 := by kernel_rfl
theorem y29 : compF Go.Proofs.Tryz.prog wt 29 = some z29 := by kernel_rfl
theorem y37 : compF Go.Proofs.Tryz.prog wt 37 = some z37 := by kernel_rfl
theorem y43 : compF Go.Proofs.Tryz.prog wt 43 = some z43 := by kernel_rfl
theorem y50 : compF Go.Proofs.Tryz.prog wt 50 = some z50 := by kernel_rfl
theorem y51 : compF Go.Proofs.Tryz.prog wt 51 = some z51 := by kernel_rfl
theorem y59 : compF Go.Proofs.Tryz.prog wt 59 = some z59 := by kernel_rfl
theorem y61 : compF Go.Proofs.Tryz.prog wt 61 = some z61 := by kernel_rfl
theorem y70 : compF Go.Proofs.Tryz.prog wt 70 = some z70 := by kernel_rfl
theorem y73 : compF Go.Proofs.Tryz.prog wt 73 = some z73 := by kernel_rfl
theorem y74 : compF Go.Proofs.Tryz.prog wt 74 = some z74 := by kernel_rfl
theorem y79 : compF Go.Proofs.Tryz.prog wt 79 = some z79 := by kernel_rfl
theorem y82 : compF Go.Proofs.Tryz.prog wt 82 = some z82 := by kernel_rfl
theorem y102 : compF Go.Proofs.Tryz.prog wt 102 = some z102 := by kernel_rfl
theorem y105 : compF Go.Proofs.Tryz.prog wt 105 = some z105 := by kernel_rfl
theorem y107 : compF Go.Proofs.Tryz.prog wt 107 = some z107 := by kernel_rfl
theorem y109 : compF Go.Proofs.Tryz.prog wt 109 = some z109 := by kernel_rfl
theorem y113 : compF Go.Proofs.Tryz.prog wt 113 = some z113 := by kernel_rfl
theorem y123 : compF Go.Proofs.Tryz.prog wt 123 = some z123 := by kernel_rfl
theorem y124 : compF Go.Proofs.Tryz.prog wt 124 = some z124 := by kernel_rfl
theorem y139 : compF Go.Proofs.Tryz.prog wt 139 = some z139 := by kernel_rfl
theorem y140 : compF Go.Proofs.Tryz.prog wt 140 = some z140 := by kernel_rfl
theorem y148 : compF Go.Proofs.Tryz.prog wt 148 = some z148 := by kernel_rfl
theorem y150 : compF Go.Proofs.Tryz.prog wt 150 = some z150 := by kernel_rfl
theorem y159 : compF Go.Proofs.Tryz.prog wt 159 = some z159 := by kernel_rfl
theorem y161 : compF Go.Proofs.Tryz.prog wt 161 = some z161 := by kernel_rfl
theorem y162 : compF Go.Proofs.Tryz.prog wt 162 = some z162 := by kernel_rfl
theorem y164 : compF Go.Proofs.Tryz.prog wt 164 = some z164 := by kernel_rfl
theorem y167 : compF Go.Proofs.Tryz.prog wt 167 = some z167 := by kernel_rfl
theorem y170 : compF Go.Proofs.Tryz.prog wt 170 = some z170 := by kernel_rfl
theorem y171 : compF Go.Proofs.Tryz.prog wt 171 = some z171 := by kernel_rfl
theorem y172 : compF Go.Proofs.Tryz.prog wt 172 = some z172 := by kernel_rfl
theorem y175 : compF Go.Proofs.Tryz.prog wt 175 = some z175 := by kernel_rfl
theorem y195 : compF Go.Proofs.Tryz.prog wt 195 = some z195 := by kernel_rfl
theorem y196 : compF Go.Proofs.Tryz.prog wt 196 = some z196 := by kernel_rfl
theorem y209 : compF Go.Proofs.Tryz.prog wt 209 = some z209 := by kernel_rfl
theorem y212 : compF Go.Proofs.Tryz.prog wt 212 = some z212 := by kernel_rfl
theorem y214 : compF Go.Proofs.Tryz.prog wt 214 = some z214 := by kernel_rfl
theorem y215 : compF Go.Proofs.Tryz.prog wt 215 = some z215 := by kernel_rfl
theorem y222 : compF Go.Proofs.Tryz.prog wt 222 = some z222 := by kernel_rfl
theorem y227 : compF Go.Proofs.Tryz.prog wt 227 = some z227 := by kernel_rfl
theorem y230 : compF Go.Proofs.Tryz.prog wt 230 = some z230 := by kernel_rfl
theorem y233 : compF Go.Proofs.Tryz.prog wt 233 = some z233 := by kernel_rfl
theorem y237 : compF Go.Proofs.Tryz.prog wt 237 = some z237 := by kernel_rfl
theorem y238 : compF Go.Proofs.Tryz.prog wt 238 = some z238 := by kernel_rfl
theorem y241 : compF Go.Proofs.Tryz.prog wt 241 = some z241 := by kernel_rfl
theorem y244 : compF Go.Proofs.Tryz.prog wt 244 = some z244 := by kernel_rfl
theorem y263 : compF Go.Proofs.Tryz.prog wt 263 = some z263 := by kernel_rfl
theorem y267 : compF Go.Proofs.Tryz.prog wt 267 = some z267 := by kernel_rfl
theorem y270 : compF Go.Proofs.Tryz.prog wt 270 = some z270 := by kernel_rfl
theorem y279 : compF Go.Proofs.Tryz.prog wt 279 = some z279 := by kernel_rfl
theorem y282 : compF Go.Proofs.Tryz.prog wt 282 = some z282 := by kernel_rfl
theorem y291 : compF Go.Proofs.Tryz.prog wt 291 = some z291 := by kernel_rfl
theorem y293 : compF Go.Proofs.Tryz.prog wt 293 = some z293 := by kernel_rfl
theorem y307 : compF Go.Proofs.Tryz.prog wt 307 = some z307 := by kernel_rfl
theorem y310 : compF Go.Proofs.Tryz.prog wt 310 = some z310 := by kernel_rfl
theorem y311 : compF Go.Proofs.Tryz.prog wt 311 = some z311 := by kernel_rfl
theorem y334 : compF Go.Proofs.Tryz.prog wt 334 = some z334 := by kernel_rfl
theorem y336 : compF Go.Proofs.Tryz.prog wt 336 = some z336 := by kernel_rfl
end
end Ev
end Go.Proofs.YtcchekmejnhlmaaGreat
