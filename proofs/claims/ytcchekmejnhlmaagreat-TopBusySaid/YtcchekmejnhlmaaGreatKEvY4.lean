/- Each function is made so: part 4. -/
import Derived.Test.YtcchekmejnhlmaaGreatKEvZ
import Derived.Test.YtcchekmejnhlmaaGreatProg
import Derived.KernelRfl
namespace Go.Proofs.YtcchekmejnhlmaaGreat
namespace Ev
noncomputable section
open Go
set_option maxRecDepth 1000000
theorem y8 : compF Go.Proofs.Tryz.prog wt 8 = some z8 := by kernel_rfl
theorem y9 : compF Go.Proofs.Tryz.prog wt 9 = some z9 := by kernel_rfl
theorem y20 : compF Go.Proofs.Tryz.prog wt 20 = some z20 := by kernel_rfl
theorem y25 : compF Go.Proofs.Tryz.prog wt 25 = some z25 := by kernel_rfl
theorem y33 : compF Go.Proofs.Tryz.prog wt 33 = some z33 := by kernel_rfl
theorem y37 : compF Go.Proofs.Tryz.prog wt 37 = some z37 := by kernel_rfl
theorem y40 : compF Go.Proofs.Tryz.prog wt 40 = some z40 := by kernel_rfl
theorem y46 : compF Go.Proofs.Tryz.prog wt 46 = some z46 := by kernel_rfl
theorem y59 : compF Go.Proofs.Tryz.prog wt 59 = some z59 := by kernel_rfl
theorem y77 : compF Go.Proofs.Tryz.prog wt 77 = some z77 := by kernel_rfl
theorem y95 : compF Go.Proofs.Tryz.prog wt 95 = some z95 := by kernel_rfl
theorem y96 : compF Go.Proofs.Tryz.prog wt 96 = some z96 := by kernel_rfl
theorem y99 : compF Go.Proofs.Tryz.prog wt 99 = some z99 := by kernel_rfl
theorem y100 : compF Go.Proofs.Tryz.prog wt 100 = some z100 := by kernel_rfl
theorem y104 : compF Go.Proofs.Tryz.prog wt 104 = some z104 := by kernel_rfl
theorem y108 : compF Go.Proofs.Tryz.prog wt 108 = some z108 := by kernel_rfl
theorem y113 : compF Go.Proofs.Tryz.prog wt 113 = some z113 := by kernel_rfl
theorem y127 : compF Go.Proofs.Tryz.prog wt 127 = some z127 := by kernel_rfl
theorem y158 : compF Go.Proofs.Tryz.prog wt 158 = some z158 := by kernel_rfl
theorem y159 : compF Go.Proofs.Tryz.prog wt 159 = some z159 := by kernel_rfl
theorem y162 : compF Go.Proofs.Tryz.prog wt 162 = some z162 := by kernel_rfl
theorem y164 : compF Go.Proofs.Tryz.prog wt 164 = some z164 := by kernel_rfl
theorem y177 : compF Go.Proofs.Tryz.prog wt 177 = some z177 := by kernel_rfl
theorem y185 : compF Go.Proofs.Tryz.prog wt 185 = some z185 := by kernel_rfl
theorem y193 : compF Go.Proofs.Tryz.prog wt 193 = some z193 := by kernel_rfl
theorem y198 : compF Go.Proofs.Tryz.prog wt 198 = some z198 := by kernel_rfl
theorem y199 : compF Go.Proofs.Tryz.prog wt 199 = some z199 := by kernel_rfl
theorem y217 : compF Go.Proofs.Tryz.prog wt 217 = some z217 := by kernel_rfl
theorem y223 : compF Go.Proofs.Tryz.prog wt 223 = some z223 := by kernel_rfl
theorem y232 : compF Go.Proofs.Tryz.prog wt 232 = some z232 := by kernel_rfl
theorem y233 : compF Go.Proofs.Tryz.prog wt 233 = some z233 := by kernel_rfl
theorem y282 : compF Go.Proofs.Tryz.prog wt 282 = some z282 := by kernel_rfl
theorem y283 : compF Go.Proofs.Tryz.prog wt 283 = some z283 := by kernel_rfl
theorem y286 : compF Go.Proofs.Tryz.prog wt 286 = some z286 := by kernel_rfl
theorem y319 : compF Go.Proofs.Tryz.prog wt 319 = some z319 := by kernel_rfl
theorem y321 : compF Go.Proofs.Tryz.prog wt 321 = some z321 := by kernel_rfl
end
end Ev
end Go.Proofs.YtcchekmejnhlmaaGreat
