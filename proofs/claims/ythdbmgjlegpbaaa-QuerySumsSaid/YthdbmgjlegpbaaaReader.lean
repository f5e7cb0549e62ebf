/- The walk through wire.Reader's Text. -/
import Derived.Test.YthdbmgjlegpbaaaWireText
import Derived.Test.YthdbmgjlegpbaaaReaderNum
namespace Go.Proofs.Ythdbmgjlegpbaaa
open Go.RowKit
set_option linter.unusedVariables false

set_option maxRecDepth 100000 in
set_option maxHeartbeats 800000 in
theorem readerText_any (s : ByteArray) (a : Int) (bad : Bool) (most : Int) (w : World) (g : Nat) (hR : RdAt w g s (a, bad)) (hs : s.size ≤ 4611686018427387904) (ha : -9223372036854775808 ≤ a ∧ a ≤ 9223372036854775807) (hm : -9223372036854775808 ≤ most ∧ most ≤ 9223372036854775807) :
    Calls Try.prog 45 #[.pointer (some ⟨g, 0, none⟩), .int .i64 most] w (RdPost g s w (.string (Pt.rdText s most (a, bad)).1) (Pt.rdText s most (a, bad)).2) := by
  have H1 := fun W => Lib.hid (getText_any s a most W hs ha hm)
  have hc0 := hR.cell0
  have hc1 := hR.cell1
  have hc2 := hR.cell2
  have hf1 := hR.frozen 1
  have hf2 := hR.frozen 2
  have HR := Lib.hid hR
  clear hR hs ha hm
  have hdef : Pt.rdText s most (a, bad) = if (Wr.getT s a most).2.2 ≠ 0 ∨ bad = true then (⟨#[]⟩, (a, true)) else ((Wr.getT s a most).1, ((Wr.getT s a most).2.1, false)) := rfl
  generalize Pt.rdText s most (a, bad) = res at *
  generalize Wr.getT s a most = r at *
  obtain ⟨x, m, e0⟩ := r
  simp only at hdef hc1 hc2
  simp only [gtV] at H1
  by_cases h0 : e0 = 0
  · cases bad
    · have Hres : Hid (res = (x, (m, false))) := by rw [if_neg (by simp [h0])] at hdef; exact hdef
      have hz : (e0 != 0) = false := by simp [h0]
      clear hdef h0
      go_enter Try.func45, Try.ntmps45
      go_wp2_with fail
      go_quiet ((go_at_call 74; exact quiet_left (Hid.out (H1 _))))
      go_wp2_with fail
      go_ret
      exact ⟨by rw [Hres.out]; rfl, by rw [Hres.out]; exact (rd_go HR.out nq m).1, (rd_go HR.out nq m).2⟩
    · have Hres : Hid (res = (⟨#[]⟩, (a, true))) := by rw [if_pos (.inr rfl)] at hdef; exact hdef
      have hz : (e0 != 0) = false := by simp [h0]
      clear hdef h0
      go_enter Try.func45, Try.ntmps45
      go_wp2_with fail
      go_quiet ((go_at_call 74; exact quiet_left (Hid.out (H1 _))))
      go_wp2_with fail
      go_ret
      exact ⟨by rw [Hres.out]; rfl, by rw [Hres.out]; exact (rd_stop HR.out nq).1, (rd_stop HR.out nq).2⟩
  · have Hres : Hid (res = (⟨#[]⟩, (a, true))) := by rw [if_pos (.inl h0)] at hdef; exact hdef
    have hz : (e0 != 0) = true := by simp [h0]
    clear hdef h0
    go_enter Try.func45, Try.ntmps45
    go_wp2_with fail
    go_quiet ((go_at_call 74; exact quiet_left (Hid.out (H1 _))))
    go_wp2_with fail
    go_ret
    exact ⟨by rw [Hres.out]; rfl, by rw [Hres.out]; exact (rd_stop HR.out nq).1, (rd_stop HR.out nq).2⟩
end Go.Proofs.Ythdbmgjlegpbaaa
