/- Each function is made so: part 3. -/
import Derived.Test.YtcchekmejnhlmaaGreatKEvZ
import Derived.Test.YtcchekmejnhlmaaGreatProg
import Derived.KernelRfl
namespace Go.Proofs.YtcchekmejnhlmaaGreat
namespace Ev
noncomputable section
open Go
set_option maxRecDepth 1000000
theorem y16 : compF Go.Proofs.Tryz.prog wt 16 = some z16 := by kernel_rfl
theorem y18 : compF Go.Proofs.Tryz.prog wt 18 = some z18 := by kernel_rfl
theorem y24 : compF Go.Proofs.Tryz.prog wt 24 = some z24 := by kernel_rfl
theorem y37 : compF Go.Proofs.Tryz.prog wt 37 = some z37 := by kernel_rfl
theorem y42 : compF Go.Proofs.Tryz.prog wt 42 = some z42 := by kernel_rfl
theorem y51 : compF Go.Proofs.Tryz.prog wt 51 = some z51 := by kernel_rfl
theorem y56 : compF Go.Proofs.Tryz.prog wt 56 = some z56 := by kernel_rfl
theorem y62 : compF Go.Proofs.Tryz.prog wt 62 = some z62 := by kernel_rfl
theorem y66 : compF Go.Proofs.Tryz.prog wt 66 = some z66 := by kernel_rfl
theorem y76 : compF Go.Proofs.Tryz.prog wt 76 = some z76 := by kernel_rfl
theorem y77 : compF Go.Proofs.Tryz.prog wt 77 = some z77 := by kernel_rfl
theorem y78 : compF Go.Proofs.Tryz.prog wt 78 = some z78 := by kernel_rfl
theorem y85 : compF Go.Proofs.Tryz.prog wt 85 = some z85 := by kernel_rfl
theorem y99 : compF Go.Proofs.Tryz.prog wt 99 = some z99 := by kernel_rfl
theorem y101 : compF Go.Proofs.Tryz.prog wt 101 = some z101 := by kernel_rfl
theorem y109 : compF Go.Proofs.Tryz.prog wt 109 = some z109 := by kernel_rfl
theorem y121 : compF Go.Proofs.Tryz.prog wt 121 = some z121 := by kernel_rfl
theorem y127 : compF Go.Proofs.Tryz.prog wt 127 = some z127 := by kernel_rfl
theorem y131 : compF Go.Proofs.Tryz.prog wt 131 = some z131 := by kernel_rfl
theorem y138 : compF Go.Proofs.Tryz.prog wt 138 = some z138 := by kernel_rfl
theorem y150 : compF Go.Proofs.Tryz.prog wt 150 = some z150 := by kernel_rfl
theorem y157 : compF Go.Proofs.Tryz.prog wt 157 = some z157 := by kernel_rfl
theorem y159 : compF Go.Proofs.Tryz.prog wt 159 = some z159 := by kernel_rfl
theorem y165 : compF Go.Proofs.Tryz.prog wt 165 = some z165 := by kernel_rfl
theorem y170 : compF Go.Proofs.Tryz.prog wt 170 = some z170 := by kernel_rfl
theorem y178 : compF Go.Proofs.Tryz.prog wt 178 = some z178 := by kernel_rfl
theorem y183 : compF Go.Proofs.Tryz.prog wt 183 = some z183 := by kernel_rfl
theorem y187 : compF Go.Proofs.Tryz.prog wt 187 = some z187 := by kernel_rfl
theorem y191 : compF Go.Proofs.Tryz.prog wt 191 = some z191 := by kernel_rfl
theorem y202 : compF Go.Proofs.Tryz.prog wt 202 = some z202 := by kernel_rfl
theorem y207 : compF Go.Proofs.Tryz.prog wt 207 = some z207 := by kernel_rfl
theorem y211 : compF Go.Proofs.Tryz.prog wt 211 = some z211 := by kernel_rfl
theorem y217 : compF Go.Proofs.Tryz.prog wt 217 = some z217 := by kernel_rfl
theorem y222 : compF Go.Proofs.Tryz.prog wt 222 = some z222 := by kernel_rfl
theorem y224 : compF Go.Proofs.Tryz.prog wt 224 = some z224 := by kernel_rfl
theorem y225 : compF Go.Proofs.Tryz.prog wt 225 = some z225 := by kernel_rfl
theorem y226 : compF Go.Proofs.Tryz.prog wt 226 = some z226 := by kernel_rfl
theorem y229 : compF Go.Proofs.Tryz.prog wt 229 = some z229 := by kernel_rfl
theorem y232 : compF Go.Proofs.Tryz.prog wt 232 = some z232 := by kernel_rfl
theorem y237 : compF Go.Proofs.Tryz.prog wt 237 = some z237 := by kernel_rfl
theorem y238 : compF Go.Proofs.Tryz.prog wt 238 = some z238 := by kernel_rfl
theorem y243 : compF Go.Proofs.Tryz.prog wt 243 = some z243 := by kernel_rfl
theorem y245 : compF Go.Proofs.Tryz.prog wt 245 = some z245 := by kernel_rfl
theorem y254 : compF Go.Proofs.Tryz.prog wt 254 = some z254 := by kernel_rfl
theorem y267 : compF Go.Proofs.Tryz.prog wt 267 = some z267 := by kernel_rfl
theorem y270 : compF Go.Proofs.Tryz.prog wt 270 = some z270 := by kernel_rfl
theorem y283 : compF Go.Proofs.Tryz.prog wt 283 = some z283 := by kernel_rfl
theorem y293 : compF Go.Proofs.Tryz.prog wt 293 = some z293 := by kernel_rfl
theorem y294 : compF Go.Proofs.Tryz.prog wt 294 = some z294 := by kernel_rfl
theorem y307 : compF Go.Proofs.Tryz.prog wt 307 = some z307 := by kernel_rfl
theorem y336 : compF Go.Proofs.Tryz.prog wt 336 = some z336 := by kernel_rfl
end
end Ev
end Go.Proofs.YtcchekmejnhlmaaGreat
