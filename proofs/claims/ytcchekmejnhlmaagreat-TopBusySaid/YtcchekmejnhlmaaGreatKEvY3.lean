/- Each function is made so: part 3. -/
import Derived.Test.YtcchekmejnhlmaaGreatKEvZ
import Derived.Test.YtcchekmejnhlmaaGreatProg
import Derived.KernelRfl
namespace Go.Proofs.YtcchekmejnhlmaaGreat
namespace Ev
noncomputable section
open Go
set_option maxRecDepth 1000000
theorem y7 : compF Go.Proofs.Tryz.prog wt 7 = some z7 := by kernel_rfl
theorem y11 : compF Go.Proofs.Tryz.prog wt 11 = some z11 := by kernel_rfl
theorem y18 : compF Go.Proofs.Tryz.prog wt 18 = some z18 := by kernel_rfl
theorem y28 : compF Go.Proofs.Tryz.prog wt 28 = some z28 := by kernel_rfl
theorem y36 : compF Go.Proofs.Tryz.prog wt 36 = some z36 := by kernel_rfl
theorem y39 : compF Go.Proofs.Tryz.prog wt 39 = some z39 := by kernel_rfl
theorem y42 : compF Go.Proofs.Tryz.prog wt 42 = some z42 := by kernel_rfl
theorem y62 : compF Go.Proofs.Tryz.prog wt 62 = some z62 := by kernel_rfl
theorem y72 : compF Go.Proofs.Tryz.prog wt 72 = some z72 := by kernel_rfl
theorem y74 : compF Go.Proofs.Tryz.prog wt 74 = some z74 := by kernel_rfl
theorem y80 : compF Go.Proofs.Tryz.prog wt 80 = some z80 := by kernel_rfl
theorem y83 : compF Go.Proofs.Tryz.prog wt 83 = some z83 := by kernel_rfl
theorem y84 : compF Go.Proofs.Tryz.prog wt 84 = some z84 := by kernel_rfl
theorem y94 : compF Go.Proofs.Tryz.prog wt 94 = some z94 := by kernel_rfl
theorem y98 : compF Go.Proofs.Tryz.prog wt 98 = some z98 := by kernel_rfl
theorem y109 : compF Go.Proofs.Tryz.prog wt 109 = some z109 := by kernel_rfl
theorem y135 : compF Go.Proofs.Tryz.prog wt 135 = some z135 := by kernel_rfl
theorem y138 : compF Go.Proofs.Tryz.prog wt 138 = some z138 := by kernel_rfl
theorem y156 : compF Go.Proofs.Tryz.prog wt 156 = some z156 := by kernel_rfl
theorem y163 : compF Go.Proofs.Tryz.prog wt 163 = some z163 := by kernel_rfl
theorem y166 : compF Go.Proofs.Tryz.prog wt 166 = some z166 := by kernel_rfl
theorem y167 : compF Go.Proofs.Tryz.prog wt 167 = some z167 := by kernel_rfl
theorem y170 : compF Go.Proofs.Tryz.prog wt 170 = some z170 := by kernel_rfl
theorem y174 : compF Go.Proofs.Tryz.prog wt 174 = some z174 := by kernel_rfl
theorem y189 : compF Go.Proofs.Tryz.prog wt 189 = some z189 := by kernel_rfl
theorem y191 : compF Go.Proofs.Tryz.prog wt 191 = some z191 := by kernel_rfl
theorem y200 : compF Go.Proofs.Tryz.prog wt 200 = some z200 := by kernel_rfl
theorem y202 : compF Go.Proofs.Tryz.prog wt 202 = some z202 := by kernel_rfl
theorem y203 : compF Go.Proofs.Tryz.prog wt 203 = some z203 := by kernel_rfl
theorem y224 : compF Go.Proofs.Tryz.prog wt 224 = some z224 := by kernel_rfl
theorem y228 : compF Go.Proofs.Tryz.prog wt 228 = some z228 := by kernel_rfl
theorem y237 : compF Go.Proofs.Tryz.prog wt 237 = some z237 := by kernel_rfl
theorem y238 : compF Go.Proofs.Tryz.prog wt 238 = some z238 := by kernel_rfl
theorem y248 : compF Go.Proofs.Tryz.prog wt 248 = some z248 := by kernel_rfl
theorem y270 : compF Go.Proofs.Tryz.prog wt 270 = some z270 := by kernel_rfl
theorem y307 : compF Go.Proofs.Tryz.prog wt 307 = some z307 := by kernel_rfl
end
end Ev
end Go.Proofs.YtcchekmejnhlmaaGreat
