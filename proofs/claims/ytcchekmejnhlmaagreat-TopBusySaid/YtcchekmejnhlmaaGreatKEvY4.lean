/- Each function is made so: part 4. -/
import Derived.Test.YtcchekmejnhlmaaGreatKEvZ
import Derived.Test.YtcchekmejnhlmaaGreatProg
import Derived.KernelRfl
namespace Go.Proofs.YtcchekmejnhlmaaGreat
namespace Ev
noncomputable section
open Go
set_option maxRecDepth 1000000
theorem y4 : compF Go.Proofs.Tryz.prog wt 4 = some z4 := by kernel_rfl
theorem y10 : compF Go.Proofs.Tryz.prog wt 10 = some z10 := by kernel_rfl
theorem y11 : compF Go.Proofs.Tryz.prog wt 11 = some z11 := by kernel_rfl
theorem y12 : compF Go.Proofs.Tryz.prog wt 12 = some z12 := by kernel_rfl
theorem y18 : compF Go.Proofs.Tryz.prog wt 18 = some z18 := by kernel_rfl
theorem y20 : compF Go.Proofs.Tryz.prog wt 20 = some z20 := by kernel_rfl
theorem y33 : compF Go.Proofs.Tryz.prog wt 33 = some z33 := by kernel_rfl
theorem y35 : compF Go.Proofs.Tryz.prog wt 35 = some z35 := by kernel_rfl
theorem y38 : compF Go.Proofs.Tryz.prog wt 38 = some z38 := by kernel_rfl
theorem y46 : compF Go.Proofs.Tryz.prog wt 46 = some z46 := by kernel_rfl
theorem y54 : compF Go.Proofs.Tryz.prog wt 54 = some z54 := by kernel_rfl
theorem y66 : compF Go.Proofs.Tryz.prog wt 66 = some z66 := by kernel_rfl
theorem y67 : compF Go.Proofs.Tryz.prog wt 67 = some z67 := by kernel_rfl
theorem y72 : compF Go.Proofs.Tryz.prog wt 72 = some z72 := by kernel_rfl
theorem y76 : compF Go.Proofs.Tryz.prog wt 76 = some z76 := by kernel_rfl
theorem y77 : compF Go.Proofs.Tryz.prog wt 77 = some z77 := by kernel_rfl
theorem y78 : compF Go.Proofs.Tryz.prog wt 78 = some z78 := by kernel_rfl
theorem y84 : compF Go.Proofs.Tryz.prog wt 84 = some z84 := by kernel_rfl
theorem y85 : compF Go.Proofs.Tryz.prog wt 85 = some z85 := by kernel_rfl
theorem y87 : compF Go.Proofs.Tryz.prog wt 87 = some z87 := by kernel_rfl
theorem y89 : compF Go.Proofs.Tryz.prog wt 89 = some z89 := by kernel_rfl
theorem y95 : compF Go.Proofs.Tryz.prog wt 95 = some z95 := by kernel_rfl
theorem y100 : compF Go.Proofs.Tryz.prog wt 100 = some z100 := by kernel_rfl
theorem y104 : compF Go.Proofs.Tryz.prog wt 104 = some z104 := by kernel_rfl
theorem y114 : compF Go.Proofs.Tryz.prog wt 114 = some z114 := by kernel_rfl
theorem y127 : compF Go.Proofs.Tryz.prog wt 127 = some z127 := by kernel_rfl
theorem y141 : compF Go.Proofs.Tryz.prog wt 141 = some z141 := by kernel_rfl
theorem y142 : compF Go.Proofs.Tryz.prog wt 142 = some z142 := by kernel_rfl
theorem y143 : compF Go.Proofs.Tryz.prog wt 143 = some z143 := by kernel_rfl
theorem y151 : compF Go.Proofs.Tryz.prog wt 151 = some z151 := by kernel_rfl
theorem y154 : compF Go.Proofs.Tryz.prog wt 154 = some z154 := by kernel_rfl
theorem y156 : compF Go.Proofs.Tryz.prog wt 156 = some z156 := by kernel_rfl
theorem y157 : compF Go.Proofs.Tryz.prog wt 157 = some z157 := by kernel_rfl
theorem y160 : compF Go.Proofs.Tryz.prog wt 160 = some z160 := by kernel_rfl
theorem y165 : compF Go.Proofs.Tryz.prog wt 165 = some z165 := by kernel_rfl
theorem y169 : compF Go.Proofs.Tryz.prog wt 169 = some z169 := by kernel_rfl
theorem y173 : compF Go.Proofs.Tryz.prog wt 173 = some z173 := by kernel_rfl
theorem y174 : compF Go.Proofs.Tryz.prog wt 174 = some z174 := by kernel_rfl
theorem y178 : compF Go.Proofs.Tryz.prog wt 178 = some z178 := by kernel_rfl
theorem y180 : compF Go.Proofs.Tryz.prog wt 180 = some z180 := by kernel_rfl
theorem y184 : compF Go.Proofs.Tryz.prog wt 184 = some z184 := by kernel_rfl
theorem y185 : compF Go.Proofs.Tryz.prog wt 185 = some z185 := by kernel_rfl
theorem y187 : compF Go.Proofs.Tryz.prog wt 187 = some z187 := by kernel_rfl
theorem y197 : compF Go.Proofs.Tryz.prog wt 197 = some z197 := by kernel_rfl
theorem y198 : compF Go.Proofs.Tryz.prog wt 198 = some z198 := by kernel_rfl
theorem y200 : compF Go.Proofs.Tryz.prog wt 200 = some z200 := by kernel_rfl
theorem y205 : compF Go.Proofs.Tryz.prog wt 205 = some z205 := by kernel_rfl
theorem y213 : compF Go.Proofs.Tryz.prog wt 213 = some z213 := by kernel_rfl
theorem y216 : compF Go.Proofs.Tryz.prog wt 216 = some z216 := by kernel_rfl
theorem y226 : compF Go.Proofs.Tryz.prog wt 226 = some z226 := by kernel_rfl
theorem y231 : compF Go.Proofs.Tryz.prog wt 231 = some z231 := by kernel_rfl
theorem y235 : compF Go.Proofs.Tryz.prog wt 235 = some z235 := by kernel_rfl
theorem y248 : compF Go.Proofs.Tryz.prog wt 248 = some z248 := by kernel_rfl
theorem y255 : compF Go.Proofs.Tryz.prog wt 255 = some z255 := by kernel_rfl
theorem y258 : compF Go.Proofs.Tryz.prog wt 258 = some z258 := by kernel_rfl
theorem y259 : compF Go.Proofs.Tryz.prog wt 259 = some z259 := by kernel_rfl
theorem y269 : compF Go.Proofs.Tryz.prog wt 269 = some z269 := by kernel_rfl
theorem y290 : compF Go.Proofs.Tryz.prog wt 290 = some z290 := by kernel_rfl
theorem y295 : compF Go.Proofs.Tryz.prog wt 295 = some z295 := by kernel_rfl
theorem y309 : compF Go.Proofs.Tryz.prog wt 309 = some z309 := by kernel_rfl
theorem y319 : compF Go.Proofs.Tryz.prog wt 319 = some z319 := by kernel_rfl
theorem y320 : compF Go.Proofs.Tryz.prog wt 320 = some z320 := by kernel_rfl
theorem y323 : compF Go.Proofs.Tryz.prog wt 323 = some z323 := by kernel_rfl
theorem y324 : compF Go.Proofs.Tryz.prog wt 324 = some z324 := by kernel_rfl
theorem y329 : compF Go.Proofs.Tryz.prog wt 329 = some z329 := by kernel_rfl
theorem y337 : compF Go.Proofs.Tryz.prog wt 337 = some z337 := by kernel_rfl
end
end Ev
end Go.Proofs.YtcchekmejnhlmaaGreat
