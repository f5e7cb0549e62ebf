/- The walks through awake of cachetlaw2 and its laws WireNums, WireTexts. -/
import Derived.Test.YtjfdkjgmjjfmcaaWireText
namespace Go.Proofs.Ytjfdkjgmjjfmcaa
open Go.RowKit
set_option linter.unusedVariables false

theorem wf_int {a : Int} (h : (Lit.int .i64 a).wf = true) : -9223372036854775808 ≤ a ∧ a ≤ 9223372036854775807 := by
  simpa [Lit.wf, IntKind.min, IntKind.max, IntKind.signed, IntKind.bits] using h
theorem errno_any (x : Int) (w : World) : Calls Try.prog 31 #[.int .i64 x] w fun e w' => e = .returned (.int .i64 x) ∧ w = w' := by
  go_enter Try.func31, Try.ntmps31
  go_wp2
  go_ret
  exact ⟨rfl, rfl⟩
theorem getN_ac02 : Wr.getN [172, 2] 0 = (150, 2, 0) := by decide +kernel
theorem getN_8000 : Wr.getN [128, 0] 0 = (0, 0, 201) := by decide +kernel
theorem put_m1 : Wr.putB (-1) = ⟨#[1]⟩ := by
  have : Wr.putL (-1) = [1] := by decide +kernel
  unfold Wr.putB; rw [this]
theorem put_big : Wr.putB 1152921504606846976 = ⟨#[]⟩ := by
  have : Wr.putL 1152921504606846976 = [] := by decide +kernel
  unfold Wr.putB; rw [this]

set_option maxRecDepth 100000 in
set_option maxHeartbeats 400000 in
theorem awake2 (w : World) : Calls Try.prog 50 #[] w fun e w' => e = .returned (.bool true) ∧ Below w.heap.size w w' := by
  have h1 := fun W => getNum_any ⟨#[172, 2]⟩ 0 W (by decide) (by omega)
  have h2 := fun W => getNum_any ⟨#[128, 0]⟩ 0 W (by decide) (by omega)
  have h3 := fun W => putNum_any (-1) W (by omega)
  have h4 := fun W => putNum_any 1152921504606846976 W (by omega)
  rw [show (ByteArray.mk #[172, 2]).data.toList = [172, 2] from rfl, getN_ac02] at h1
  rw [show (ByteArray.mk #[128, 0]).data.toList = [128, 0] from rfl, getN_8000] at h2
  rw [put_m1] at h3
  rw [put_big] at h4
  have H1 := Lib.hid h1
  have H2 := Lib.hid h2
  have H3 := Lib.hid h3
  have H4 := Lib.hid h4
  clear h1 h2 h3 h4
  go_enter Try.func50, Try.ntmps50
  go_wp2_with fail
  refine (H1.out _).mono ?_
  rintro e w' ⟨rfl, rfl⟩
  unfold gnV
  go_wp2_with fail
  refine (H2.out _).mono ?_
  rintro e w' ⟨rfl, rfl⟩
  unfold gnV
  go_wp2_with fail
  refine (H3.out _).mono ?_
  rintro e w1 ⟨rfl, hb1⟩
  go_wp2_with fail
  refine (errno_any _ _).mono ?_
  rintro e w' ⟨rfl, rfl⟩
  go_wp2_with fail
  refine (errno_any _ _).mono ?_
  rintro e w' ⟨rfl, rfl⟩
  go_wp2_with fail
  refine (H4.out _).mono ?_
  rintro e w2 ⟨rfl, hb2⟩
  go_wp2_with fail
  go_ret
  exact ⟨rfl, hb1.trans (hb2.mono hb1.size)⟩

set_option maxRecDepth 100000 in
set_option maxHeartbeats 400000 in
theorem wireNums_walk (a0 : Int) (a1 : ByteArray) (a2 : Int) (w0 : (Lit.int .i64 a0).wf = true) (b1 : a1.size ≤ 140737488351232) (w2 : (Lit.int .i64 a2).wf = true) (w : World) :
    Calls Try.prog 12 #[.int .i64 a0, .string a1, .int .i64 a2] w fun e w' => e = .returned (.bool true) ∧ Below w.heap.size w w' := by
  have h0 := wf_int w0
  have h2 := wf_int w2
  clear w0 w2
  have H1 := fun W => Lib.hid (getNum_any a1 a2 W (by omega) h2)
  have H2 := fun W => Lib.hid (rgetNum_any a1 a2 W (by omega) h2)
  have H3 := fun W => Lib.hid (putNum_any a0 W h0)
  have H4 := fun W => Lib.hid (rnum_any a0 W h0)
  generalize Wr.getN a1.data.toList a2 = r at *
  generalize Wr.putB a0 = p at *
  obtain ⟨x, m, e0⟩ := r
  go_enter Try.func12, Try.ntmps12
  go_wp2_with fail
  refine (H1 _).out.mono ?_
  rintro e w' ⟨rfl, rfl⟩
  unfold gnV
  go_wp2_with fail
  refine (H2 _).out.mono ?_
  rintro e w' ⟨rfl, rfl⟩
  unfold gnV
  go_wp2_with fail
  refine (H3 _).out.mono ?_
  rintro e w1 ⟨rfl, hb1⟩
  go_wp2_with fail
  refine (H4 _).out.mono ?_
  rintro e w2 ⟨rfl, hb2⟩
  go_wp2_with fail
  refine (errno_any _ _).mono ?_
  rintro e w' ⟨rfl, rfl⟩
  go_wp2_with fail
  refine (awake2 _).mono ?_
  rintro e w3 ⟨rfl, hb3⟩
  go_wp2_with fail
  go_ret
  exact ⟨rfl, hb1.trans ((hb2.mono hb1.size).trans (hb3.mono (Nat.le_trans hb1.size hb2.size)))⟩

set_option maxRecDepth 100000 in
set_option maxHeartbeats 400000 in
theorem wireTexts_walk (a0 : ByteArray) (a1 : ByteArray) (a2 a3 : Int) (b0 : a0.size ≤ 140737488351232) (b1 : a1.size ≤ 140737488351232) (w2 : (Lit.int .i64 a2).wf = true) (w3 : (Lit.int .i64 a3).wf = true) (w : World) :
    Calls Try.prog 14 #[.string a0, .string a1, .int .i64 a2, .int .i64 a3] w fun e w' => e = .returned (.bool true) ∧ Below w.heap.size w w' := by
  have h2 := wf_int w2
  have h3 := wf_int w3
  clear w2 w3
  have H1 := fun W => Lib.hid (getText_any a1 a2 a3 W (by omega) h2 h3)
  have H2 := fun W => Lib.hid (rgetText_any a1 a2 a3 W (by omega) h2 h3)
  have H3 := fun W => Lib.hid (putText_any a0 W (by omega))
  have H4 := fun W => Lib.hid (rtext_any a0 W (by omega))
  generalize Wr.getT a1 a2 a3 = r at *
  generalize Wr.textB a0 = p at *
  obtain ⟨x, m, e0⟩ := r
  go_enter Try.func14, Try.ntmps14
  go_wp2_with fail
  refine (H1 _).out.mono ?_
  rintro e w' ⟨rfl, rfl⟩
  unfold gtV
  go_wp2_with fail
  refine (H2 _).out.mono ?_
  rintro e w' ⟨rfl, rfl⟩
  unfold gtV
  go_wp2_with fail
  refine (H3 _).out.mono ?_
  rintro e w1 ⟨rfl, hb1⟩
  go_wp2_with fail
  refine (H4 _).out.mono ?_
  rintro e w2 ⟨rfl, hb2⟩
  go_wp2_with fail
  refine (errno_any _ _).mono ?_
  rintro e w' ⟨rfl, rfl⟩
  go_wp2_with fail
  refine (awake2 _).mono ?_
  rintro e w3 ⟨rfl, hb3⟩
  go_wp2_with fail
  go_ret
  exact ⟨rfl, hb1.trans ((hb2.mono hb1.size).trans (hb3.mono (Nat.le_trans hb1.size hb2.size)))⟩
end Go.Proofs.Ytjfdkjgmjjfmcaa
