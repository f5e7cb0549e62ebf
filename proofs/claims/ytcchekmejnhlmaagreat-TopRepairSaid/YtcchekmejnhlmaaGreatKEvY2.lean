/- Each function is made so: part 2. -/
import Derived.Test.YtcchekmejnhlmaaGreatKEvZ
import Derived.Test.YtcchekmejnhlmaaGreatProg
import Derived.KernelRfl
namespace Go.Proofs.YtcchekmejnhlmaaGreat
namespace Ev
noncomputable section
open Go
set_option maxRecDepth 1000000
theorem y8 : compF Go.Proofs.Tryz.prog wt 8 = some z8 := by kernel_rfl
theorem y10 : compF Go.Proofs.Tryz.prog wt 10 = some z10 := by kernel_rfl
theorem y11 : compF Go.Proofs.Tryz.prog wt 11 = some z11 := by kernel_rfl
theorem y18 : compF Go.Proofs.Tryz.prog wt 18 = some z18 := by kernel_rfl
theorem y19 : compF Go.Proofs.Tryz.prog wt 19 = some z19 := by kernel_rfl
theorem y23 : compF Go.Proofs.Tryz.prog wt 23 = some z23 := by kernel_rfl
theorem y28 : compF Go.Proofs.Tryz.prog wt 28 = some z28 := by kernel_rfl
theorem y35 : compF Go.Proofs.Tryz.prog wt 35 = some z35 := by kernel_rfl
theorem y43 : compF Go.Proofs.Tryz.prog wt 43 = some z43 := by kernel_rfl
theorem y44 : compF Go.Proofs.Tryz.prog wt 44 = some z44 := by kernel_rfl
theorem y48 : compF Go.Proofs.Tryz.prog wt 48 = some z48 := by kernel_rfl
theorem y60 : compF Go.Proofs.Tryz.prog wt 60 = some z60 := by kernel_rfl
theorem y63 : compF Go.Proofs.Tryz.prog wt 63 = some z63 := by kernel_rfl
theorem y73 : compF Go.Proofs.Tryz.prog wt 73 = some z73 := by kernel_rfl
theorem y80 : compF Go.Proofs.Tryz.prog wt 80 = some z80 := by kernel_rfl
theorem y89 : compF Go.Proofs.Tryz.prog wt 89 = some z89 := by kernel_rfl
theorem y112 : compF Go.Proofs.Tryz.prog wt 112 = some z112 := by kernel_rfl
theorem y119 : compF Go.Proofs.Tryz.prog wt 119 = some z119 := by kernel_rfl
theorem y120 : compF Go.Proofs.Tryz.prog wt 120 = some z120 := by kernel_rfl
theorem y122 : compF Go.Proofs.Tryz.prog wt 122 = some z122 := by kernel_rfl
theorem y127 : compF Go.Proofs.Tryz.prog wt 127 = some z127 := by kernel_rfl
theorem y131 : compF Go.Proofs.Tryz.prog wt 131 = some z131 := by kernel_rfl
theorem y136 : compF Go.Proofs.Tryz.prog wt 136 = some z136 := by kernel_rfl
theorem y145 : compF Go.Proofs.Tryz.prog wt 145 = some z145 := by kernel_rfl
theorem y152 : compF Go.Proofs.Tryz.prog wt 152 = some z152 := by kernel_rfl
theorem y158 : compF Go.Proofs.Tryz.prog wt 158 = some z158 := by kernel_rfl
theorem y160 : compF Go.Proofs.Tryz.prog wt 160 = some z160 := by kernel_rfl
theorem y163 : compF Go.Proofs.Tryz.prog wt 163 = some z163 := by kernel_rfl
theorem y180 : compF Go.Proofs.Tryz.prog wt 180 = some z180 := by kernel_rfl
theorem y187 : compF Go.Proofs.Tryz.prog wt 187 = some z187 := by kernel_rfl
theorem y189 : compF Go.Proofs.Tryz.prog wt 189 = some z189 := by kernel_rfl
theorem y193 : compF Go.Proofs.Tryz.prog wt 193 = some z193 := by kernel_rfl
theorem y196 : compF Go.Proofs.Tryz.prog wt 196 = some z196 := by kernel_rfl
theorem y199 : compF Go.Proofs.Tryz.prog wt 199 = some z199 := by kernel_rfl
theorem y201 : compF Go.Proofs.Tryz.prog wt 201 = some z201 := by kernel_rfl
theorem y222 : compF Go.Proofs.Tryz.prog wt 222 = some z222 := by kernel_rfl
theorem y228 : compF Go.Proofs.Tryz.prog wt 228 = some z228 := by kernel_rfl
theorem y232 : compF Go.Proofs.Tryz.prog wt 232 = some z232 := by kernel_rfl
theorem y233 : compF Go.Proofs.Tryz.prog wt 233 = some z233 := by kernel_rfl
theorem y238 : compF Go.Proofs.Tryz.prog wt 238 = some z238 := by kernel_rfl
theorem y245 : compF Go.Proofs.Tryz.prog wt 245 = some z245 := by kernel_rfl
theorem y254 : compF Go.Proofs.Tryz.prog wt 254 = some z254 := by kernel_rfl
theorem y261 : compF Go.Proofs.Tryz.prog wt 261 = some z261 := by kernel_rfl
theorem y268 : compF Go.Proofs.Tryz.prog wt 268 = some z268 := by kernel_rfl
theorem y282 : compF Go.Proofs.Tryz.prog wt 282 = some z282 := by kernel_rfl
theorem y293 : compF Go.Proofs.Tryz.prog wt 293 = some z293 := by kernel_rfl
theorem y319 : compF Go.Proofs.Tryz.prog wt 319 = some z319 := by kernel_rfl
end
end Ev
end Go.Proofs.YtcchekmejnhlmaaGreat
