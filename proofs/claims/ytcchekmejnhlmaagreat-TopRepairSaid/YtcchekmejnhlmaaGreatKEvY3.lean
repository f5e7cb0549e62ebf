/- Each function is made so: part 3. -/
import Derived.Test.YtcchekmejnhlmaaGreatKEvZ
import Derived.Test.YtcchekmejnhlmaaGreatProg
import Derived.KernelRfl
namespace Go.Proofs.YtcchekmejnhlmaaGreat
namespace Ev
noncomputable section
open Go
set_option maxRecDepth 1000000
theorem y6 : compF Go.Proofs.Tryz.prog wt 6 = some z6 := by kernel_rfl
theorem y14 : compF Go.Proofs.Tryz.prog wt 14 = some z14 := by kernel_rfl
theorem y17 : compF Go.Proofs.Tryz.prog wt 17 = some z17 := by kernel_rfl
theorem y24 : compF Go.Proofs.Tryz.prog wt 24 = some z24 := by kernel_rfl
theorem y36 : compF Go.Proofs.Tryz.prog wt 36 = some z36 := by kernel_rfl
theorem y41 : compF Go.Proofs.Tryz.prog wt 41 = some z41 := by kernel_rfl
theorem y50 : compF Go.Proofs.Tryz.prog wt 50 = some z50 := by kernel_rfl
theorem y51 : compF Go.Proofs.Tryz.prog wt 51 = some z51 := by kernel_rfl
theorem y56 : compF Go.Proofs.Tryz.prog wt 56 = some z56 := by kernel_rfl
theorem y62 : compF Go.Proofs.Tryz.prog wt 62 = some z62 := by kernel_rfl
theorem y66 : compF Go.Proofs.Tryz.prog wt 66 = some z66 := by kernel_rfl
theorem y69 : compF Go.Proofs.Tryz.prog wt 69 = some z69 := by kernel_rfl
theorem y70 : compF Go.Proofs.Tryz.prog wt 70 = some z70 := by kernel_rfl
theorem y74 : compF Go.Proofs.Tryz.prog wt 74 = some z74 := by kernel_rfl
theorem y76 : compF Go.Proofs.Tryz.prog wt 76 = some z76 := by kernel_rfl
theorem y81 : compF Go.Proofs.Tryz.prog wt 81 = some z81 := by kernel_rfl
theorem y95 : compF Go.Proofs.Tryz.prog wt 95 = some z95 := by kernel_rfl
theorem y98 : compF Go.Proofs.Tryz.prog wt 98 = some z98 := by kernel_rfl
theorem y99 : compF Go.Proofs.Tryz.prog wt 99 = some z99 := by kernel_rfl
theorem y107 : compF Go.Proofs.Tryz.prog wt 107 = some z107 := by kernel_rfl
theorem y108 : compF Go.Proofs.Tryz.prog wt 108 = some z108 := by kernel_rfl
theorem y121 : compF Go.Proofs.Tryz.prog wt 121 = some z121 := by kernel_rfl
theorem y146 : compF Go.Proofs.Tryz.prog wt 146 = some z146 := by kernel_rfl
theorem y164 : compF Go.Proofs.Tryz.prog wt 164 = some z164 := by kernel_rfl
theorem y165 : compF Go.Proofs.Tryz.prog wt 165 = some z165 := by kernel_rfl
theorem y166 : compF Go.Proofs.Tryz.prog wt 166 = some z166 := by kernel_rfl
theorem y188 : compF Go.Proofs.Tryz.prog wt 188 = some z188 := by kernel_rfl
theorem y197 : compF Go.Proofs.Tryz.prog wt 197 = some z197 := by kernel_rfl
theorem y203 : compF Go.Proofs.Tryz.prog wt 203 = some z203 := by kernel_rfl
theorem y204 : compF Go.Proofs.Tryz.prog wt 204 = some z204 := by kernel_rfl
theorem y206 : compF Go.Proofs.Tryz.prog wt 206 = some z206 := by kernel_rfl
theorem y207 : compF Go.Proofs.Tryz.prog wt 207 = some z207 := by kernel_rfl
theorem y215 : compF Go.Proofs.Tryz.prog wt 215 = some z215 := by kernel_rfl
theorem y217 : compF Go.Proofs.Tryz.prog wt 217 = some z217 := by kernel_rfl
theorem y221 : compF Go.Proofs.Tryz.prog wt 221 = some z221 := by kernel_rfl
theorem y229 : compF Go.Proofs.Tryz.prog wt 229 = some z229 := by kernel_rfl
theorem y230 : compF Go.Proofs.Tryz.prog wt 230 = some z230 := by kernel_rfl
theorem y244 : compF Go.Proofs.Tryz.prog wt 244 = some z244 := by kernel_rfl
theorem y246 : compF Go.Proofs.Tryz.prog wt 246 = some z246 := by kernel_rfl
theorem y248 : compF Go.Proofs.Tryz.prog wt 248 = some z248 := by kernel_rfl
theorem y255 : compF Go.Proofs.Tryz.prog wt 255 = some z255 := by kernel_rfl
theorem y284 : compF Go.Proofs.Tryz.prog wt 284 = some z284 := by kernel_rfl
theorem y285 : compF Go.Proofs.Tryz.prog wt 285 = some z285 := by kernel_rfl
theorem y292 : compF Go.Proofs.Tryz.prog wt 292 = some z292 := by kernel_rfl
theorem y307 : compF Go.Proofs.Tryz.prog wt 307 = some z307 := by kernel_rfl
theorem y310 : compF Go.Proofs.Tryz.prog wt 310 = some z310 := by kernel_rfl
theorem y311 : compF Go.Proofs.Tryz.prog wt 311 = some z311 := by kernel_rfl
end
end Ev
end Go.Proofs.YtcchekmejnhlmaaGreat
