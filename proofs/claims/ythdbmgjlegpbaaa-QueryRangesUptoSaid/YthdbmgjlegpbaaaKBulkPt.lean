/- What the bound of an Upto statement gives of a list of points. -/
import Derived.Test.YthdbmgjlegpbaaaKBulk
namespace Go.Proofs.Ythdbmgjlegpbaaa
open Go.RowKit
set_option linter.unusedVariables false

theorem bulk_point {H : Type} (f : ByteArray × Int × Int) : Rows.uptoBulk (pointData (H := H) f) = f.1.size + 4 := by simp [pointData, Rows.uptoBulk, Rows.uptoBulkAll]
end Go.Proofs.Ythdbmgjlegpbaaa
