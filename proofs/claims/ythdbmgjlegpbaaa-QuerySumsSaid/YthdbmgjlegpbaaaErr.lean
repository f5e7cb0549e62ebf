/- An error's number; an int's bounds. -/
import Derived.Test.YthdbmgjlegpbaaaBase
import Derived.Test.YthdbmgjlegpbaaaProg
namespace Go.Proofs.Ythdbmgjlegpbaaa
open Go.RowKit

theorem wf_int {a : Int} (h : (Lit.int .i64 a).wf = true) : -9223372036854775808 ≤ a ∧ a ≤ 9223372036854775807 := by
  simpa [Lit.wf, IntKind.min, IntKind.max, IntKind.signed, IntKind.bits] using h
theorem errno_any (x : Int) (w : World) : Calls Try.prog 18 #[.int .i64 x] w fun e w' => e = .returned (.int .i64 x) ∧ w = w' := by
  go_enter Try.func18, Try.ntmps18
  go_wp2
  go_ret
  exact ⟨rfl, rfl⟩
end Go.Proofs.Ythdbmgjlegpbaaa
