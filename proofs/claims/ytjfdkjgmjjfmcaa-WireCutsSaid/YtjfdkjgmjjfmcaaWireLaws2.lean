/- The walk through WireCuts. -/
import Derived.Test.YtjfdkjgmjjfmcaaWireLaws
import Derived.Test.YtjfdkjgmjjfmcaaWireMore
namespace Go.Proofs.Ytjfdkjgmjjfmcaa
open Go.RowKit
set_option linter.unusedVariables false

set_option maxRecDepth 100000 in
set_option maxHeartbeats 400000 in
theorem wireCuts_walk (a0 : ByteArray) (a1 : Int) (b0 : a0.size ≤ 140737488351232) (w1 : (Lit.int .i64 a1).wf = true) (w : World) :
    Calls Try.prog 16 #[.string a0, .int .i64 a1] w fun e w' => e = .returned (.bool true) ∧ Below w.heap.size w w' := by
  clear w1
  have H3 := fun W => Lib.hid (putText_any a0 W (by omega))
  have hpl := Wr.putL_len (a0.size : Int)
  have hts : (Wr.textB a0).size = (Wr.putL (a0.size : Int)).length + a0.size := by unfold Wr.textB; rw [ByteArray.size_append, Wr.putB_size]
  have hpos : 0 < (Wr.putL (a0.size : Int)).length := by
    unfold Wr.putL; rw [if_pos (Wr.isNum_len _ (by omega))]; exact Wr.vb_pos _ _
  have hT1 : 0 < (Wr.textB a0).size := by omega
  have hT2 : (Wr.textB a0).size ≤ 140737488351240 := by omega
  have Hcut := Lib.hid (Wr.getT_cut a0 (by omega))
  have Hlong := Lib.hid (Wr.getT_long a0 (by omega) ((a0.size : Int) - 1) (by omega))
  clear hpl hts hpos
  generalize Wr.textB a0 = T at *
  have hne := nonempty_of (s := T) (by omega)
  obtain ⟨k, hk, hk1⟩ := pick_of a1 T.size hT1 (by omega)
  have hsk : (T.extract 0 k).size ≤ 4611686018427387904 := by rw [ByteArray.size_extract]; omega
  have H1 := fun W => Lib.hid (getText_any (T.extract 0 k) 0 (a0.size : Int) W hsk (by omega) (by omega))
  have H2 := fun W => Lib.hid (getText_any T 0 ((a0.size : Int) - 1) W (by omega) (by omega) (by omega))
  replace Hcut := Lib.hid (Hcut.out k hk)
  generalize Wr.getT (T.extract 0 k) 0 (a0.size : Int) = r1 at *
  generalize Wr.getT T 0 ((a0.size : Int) - 1) = r2 at *
  obtain ⟨x1, m1, e1⟩ := r1
  obtain ⟨x2, m2, e2⟩ := r2
  obtain rfl : e1 = 200 := Hcut.out
  obtain rfl : e2 = 202 := Hlong.out
  clear Hcut Hlong hsk
  go_enter Try.func16, Try.ntmps16
  go_wp2_with fail
  refine (awake2 _).mono ?_
  rintro e w1 ⟨rfl, hb1⟩
  go_wp2_with fail
  refine (H3 _).out.mono ?_
  rintro e w2 ⟨rfl, hb2⟩
  go_wp2_with fail
  refine (H1 _).out.mono ?_
  rintro e w' ⟨rfl, rfl⟩
  unfold gtV
  go_wp2_with fail
  refine (errno_any _ _).mono ?_
  rintro e w' ⟨rfl, rfl⟩
  go_wp2_with fail
  refine (H2 _).out.mono ?_
  rintro e w' ⟨rfl, rfl⟩
  unfold gtV
  go_wp2_with fail
  refine (errno_any _ _).mono ?_
  rintro e w' ⟨rfl, rfl⟩
  go_wp2_with fail
  go_ret
  exact ⟨rfl, hb1.trans (hb2.mono hb1.size)⟩

end Go.Proofs.Ytjfdkjgmjjfmcaa
