/- Each function is made so: part 4. -/
import Derived.Test.YtcchekmejnhlmaaGreatKEvZ
import Derived.Test.YtcchekmejnhlmaaGreatProg
import Derived.KernelRfl
namespace Go.Proofs.YtcchekmejnhlmaaGreat
namespace Ev
noncomputable section
open Go
set_option maxRecDepth 1000000
theorem y9 : compF Go.Proofs.Tryz.prog wt 9 = some z9 := by kernel_rfl
theorem y10 : compF Go.Proofs.Tryz.prog wt 10 = some z10 := by kernel_rfl
theorem y32 : compF Go.Proofs.Tryz.prog wt 32 = some z32 := by kernel_rfl
theorem y36 : compF Go.Proofs.Tryz.prog wt 36 = some z36 := by kernel_rfl
theorem y44 : compF Go.Proofs.Tryz.prog wt 44 = some z44 := by kernel_rfl
theorem y48 : compF Go.Proofs.Tryz.prog wt 48 = some z48 := by kernel_rfl
theorem y49 : compF Go.Proofs.Tryz.prog wt 49 = some z49 := by kernel_rfl
theorem y52 : compF Go.Proofs.Tryz.prog wt 52 = some z52 := by kernel_rfl
theorem y59 : compF Go.Proofs.Tryz.prog wt 59 = some z59 := by kernel_rfl
theorem y60 : compF Go.Proofs.Tryz.prog wt 60 = some z60 := by kernel_rfl
theorem y73 : compF Go.Proofs.Tryz.prog wt 73 = some z73 := by kernel_rfl
theorem y80 : compF Go.Proofs.Tryz.prog wt 80 = some z80 := by kernel_rfl
theorem y81 : compF Go.Proofs.Tryz.prog wt 81 = some z81 := by kernel_rfl
theorem y88 : compF Go.Proofs.Tryz.prog wt 88 = some z88 := by kernel_rfl
theorem y93 : compF Go.Proofs.Tryz.prog wt 93 = some z93 := by kernel_rfl
theorem y96 : compF Go.Proofs.Tryz.prog wt 96 = some z96 := by kernel_rfl
theorem y116 : compF Go.Proofs.Tryz.prog wt 116 = some z116 := by kernel_rfl
theorem y118 : compF Go.Proofs.Tryz.prog wt 118 = some z118 := by kernel_rfl
theorem y119 : compF Go.Proofs.Tryz.prog wt 119 = some z119 := by kernel_rfl
theorem y120 : compF Go.Proofs.Tryz.prog wt 120 = some z120 := by kernel_rfl
theorem y124 : compF Go.Proofs.Tryz.prog wt 124 = some z124 := by kernel_rfl
theorem y137 : compF Go.Proofs.Tryz.prog wt 137 = some z137 := by kernel_rfl
theorem y139 : compF Go.Proofs.Tryz.prog wt 139 = some z139 := by kernel_rfl
theorem y145 : compF Go.Proofs.Tryz.prog wt 145 = some z145 := by kernel_rfl
theorem y149 : compF Go.Proofs.Tryz.prog wt 149 = some z149 := by kernel_rfl
theorem y156 : compF Go.Proofs.Tryz.prog wt 156 = some z156 := by kernel_rfl
theorem y161 : compF Go.Proofs.Tryz.prog wt 161 = some z161 := by kernel_rfl
theorem y164 : compF Go.Proofs.Tryz.prog wt 164 = some z164 := by kernel_rfl
theorem y174 : compF Go.Proofs.Tryz.prog wt 174 = some z174 := by kernel_rfl
theorem y180 : compF Go.Proofs.Tryz.prog wt 180 = some z180 := by kernel_rfl
theorem y182 : compF Go.Proofs.Tryz.prog wt 182 = some z182 := by kernel_rfl
theorem y190 : compF Go.Proofs.Tryz.prog wt 190 = some z190 := by kernel_rfl
theorem y199 : compF Go.Proofs.Tryz.prog wt 199 = some z199 := by kernel_rfl
theorem y203 : compF Go.Proofs.Tryz.prog wt 203 = some z203 := by kernel_rfl
theorem y204 : compF Go.Proofs.Tryz.prog wt 204 = some z204 := by kernel_rfl
theorem y205 : compF Go.Proofs.Tryz.prog wt 205 = some z205 := by kernel_rfl
theorem y206 : compF Go.Proofs.Tryz.prog wt 206 = some z206 := by kernel_rfl
theorem y231 : compF Go.Proofs.Tryz.prog wt 231 = some z231 := by kernel_rfl
theorem y241 : compF Go.Proofs.Tryz.prog wt 241 = some z241 := by kernel_rfl
theorem y255 : compF Go.Proofs.Tryz.prog wt 255 = some z255 := by kernel_rfl
theorem y261 : compF Go.Proofs.Tryz.prog wt 261 = some z261 := by kernel_rfl
theorem y268 : compF Go.Proofs.Tryz.prog wt 268 = some z268 := by kernel_rfl
theorem y286 : compF Go.Proofs.Tryz.prog wt 286 = some z286 := by kernel_rfl
theorem y291 : compF Go.Proofs.Tryz.prog wt 291 = some z291 := by kernel_rfl
theorem y296 : compF Go.Proofs.Tryz.prog wt 296 = some z296 := by kernel_rfl
theorem y309 : compF Go.Proofs.Tryz.prog wt 309 = some z309 := by kernel_rfl
theorem y314 : compF Go.Proofs.Tryz.prog wt 314 = some z314 := by kernel_rfl
theorem y320 : compF Go.Proofs.Tryz.prog wt 320 = some z320 := by kernel_rfl
theorem y321 : compF Go.Proofs.Tryz.prog wt 321 = some z321 := by kernel_rfl
theorem y322 : compF Go.Proofs.Tryz.prog wt 322 = some z322 := by kernel_rfl
theorem y337 : compF Go.Proofs.Tryz.prog wt 337 = some z337 := by kernel_rfl
end
end Ev
end Go.Proofs.YtcchekmejnhlmaaGreat
