/- The walk through WireBack. -/
import Derived.Test.YtjfdkjgmjjfmcaaWireLaws
import Derived.Test.YtjfdkjgmjjfmcaaWireMore
import Derived.Test.YtjfdkjgmjjfmcaaAft
namespace Go.Proofs.Ytjfdkjgmjjfmcaa
open Go.RowKit
set_option linter.unusedVariables false

set_option maxRecDepth 100000 in
set_option maxHeartbeats 600000 in
theorem wireBack_walk (a0 : Int) (a1 a2 a3 : ByteArray) (w0 : (Lit.int .i64 a0).wf = true) (b1 : a1.size ≤ 140737488351232) (b2 : a2.size ≤ 140737488351232) (b3 : a3.size ≤ 140737488351232) (w : World) :
    Calls Try.prog 15 #[.int .i64 a0, .string a1, .string a2, .string a3] w fun e w' => e = .returned (.bool true) ∧ Below w.heap.size w w' := by
  have h0 := wf_int w0
  clear w0
  obtain ⟨k, hk⟩ : ∃ k : Int, a0.tmod 9007199254740992 = k := ⟨_, rfl⟩
  have hkb : -9007199254740992 < k ∧ k < 9007199254740992 := by
    have h1 := Int.tmod_lt_of_pos a0 (show (0 : Int) < 9007199254740992 by omega)
    have h2 := Int.lt_tmod_of_pos a0 (show (0 : Int) < 9007199254740992 by omega)
    omega
  have hnum : Wr.isNum k = true := (Wr.isNum_iff k).2 (by omega)
  have hpl := Wr.putL_len k
  have hps := Wr.putB_size k
  have H1 := fun W => Lib.hid (putNum_any k W (by omega))
  have hg1 : Wr.getN (a2 ++ Wr.putB k ++ a3).data.toList (a2.size : Int) = (k, ((a2.size + (Wr.putB k).size : Nat) : Int), 0) := by
    rw [Wr.append_list, Wr.append_list, Wr.putB_list, List.append_assoc, ← Wr.len_list a2, Wr.getN_put _ _ _ hnum, hps, Wr.len_list]
    congr 2
  have H2 := fun W => Lib.hid (getNum_any (a2 ++ Wr.putB k ++ a3) (a2.size : Int) W (by rw [ByteArray.size_append, ByteArray.size_append]; omega) (by omega))
  rw [hg1] at H2
  have hpt := Wr.putL_len (a1.size : Int)
  have hts : (Wr.textB a1).size = (Wr.putL (a1.size : Int)).length + a1.size := by unfold Wr.textB; rw [ByteArray.size_append, Wr.putB_size]
  have H3 := fun W => Lib.hid (putText_any a1 W (by omega))
  have hg2 := Wr.getT_text a2 a1 a3 (by omega)
  have H4 := fun W => Lib.hid (getText_any (a2 ++ Wr.textB a1 ++ a3) (a2.size : Int) (a1.size : Int) W (by rw [ByteArray.size_append, ByteArray.size_append]; omega) (by omega) (by omega))
  rw [hg2] at H4
  have H5 := fun W => Lib.hid (getNum_any a3 0 W (by omega) (by omega))
  have hc5 := Wr.getN_cases a3.data.toList 0
  have hp8 : (Wr.putB k).size ≤ 8 := by omega
  have ht8 : (Wr.textB a1).size ≤ 140737488351240 := by omega
  clear hg1 hg2 hpl hps hpt hts hnum
  generalize Wr.putB k = P at *
  generalize Wr.textB a1 = T at *
  have hsz1 : (a2 ++ P ++ a3).size = a2.size + P.size + a3.size := by rw [ByteArray.size_append, ByteArray.size_append]
  have hsz2 : (a2 ++ T ++ a3).size = a2.size + T.size + a3.size := by rw [ByteArray.size_append, ByteArray.size_append]
  go_enter Try.func15, Try.ntmps15
  go_wp2_with fail
  refine (awake2 _).mono ?_
  rintro e w1 ⟨rfl, hb1⟩
  go_wp2_with fail
  refine (H1 _).out.mono ?_
  rintro e w2 ⟨rfl, hb2⟩
  go_wp2_with fail
  refine (H2 _).out.mono ?_
  rintro e w' ⟨rfl, rfl⟩
  unfold gnV
  go_wp2_with fail
  refine (H3 _).out.mono ?_
  rintro e w3 ⟨rfl, hb3⟩
  go_wp2_with fail
  refine (H4 _).out.mono ?_
  rintro e w' ⟨rfl, rfl⟩
  unfold gtV
  have hb13 : Below w.heap.size w w3 := hb1.trans ((hb2.mono hb1.size).trans (hb3.mono (Nat.le_trans hb1.size hb2.size)))
  go_wp2_with fail
  refine (errno_any _ _).mono ?_
  rintro e w' ⟨rfl, rfl⟩
  have hkk : (k != k) = false := by simp
  go_wp2_with fail
  refine (errno_any _ _).mono ?_
  rintro e w' ⟨rfl, rfl⟩
  go_wp2_with fail
  clear H1 H2 H3 H4 hsz1 hsz2
  rcases hc5 with ⟨e5, hg5, hcode⟩ | ⟨x, a, m, ha, hg5, hn5, hm5, hle5, hput5⟩
  · rw [hg5] at H5
    have hne : (e5 != 0) = true := by rcases hcode with rfl | rfl <;> rfl
    clear hcode hg5
    refine (H5 _).out.mono ?_
    rintro e w' ⟨rfl, rfl⟩
    unfold gnV
    go_wp2_with fail
    go_quiet ((go_at_call 31; exact quiet_left (errno_any _ _)))
    go_wp2_with fail
    go_ret
    exact ⟨rfl, below_drewN hb13 _⟩
  · obtain rfl : a = 0 := by omega
    rw [Nat.zero_add] at hg5 hle5
    rw [hg5] at H5
    have hxb := (Wr.isNum_iff x).1 hn5
    have H6 := fun W => Lib.hid (putNum_any x W (by omega))
    have hpe : Wr.putB x = a3.extract 0 m := by
      apply Wr.ext_list
      rw [Wr.putB_list, hput5, Lib.extract_data]; simp
    rw [hpe] at H6
    have hle : m ≤ a3.size := by rw [Wr.len_list] at hle5; exact hle5
    clear hg5 hn5 hput5 hpe hle5 ha
    refine (H5 _).out.mono ?_
    rintro e w' ⟨rfl, rfl⟩
    unfold gnV
    have hi1 : (m : Int) ≤ (a3.size : Int) := by omega
    have hi0 : (0 : Int) ≤ (m : Int) := by omega
    have hd13 := hb13.drew
    go_wp2_with fail
    generalize a2 ++ P ++ a3 = S1 at *
    generalize a2 ++ T ++ a3 = S2 at *
    clear hk hkb hkk hb1 hb2 hb3 b1 b2 hp8 ht8 h0 H5
    refine wp_region_aft w.heap.size w (by kernel_rfl) (by kernel_rfl) hb13 ?_
    repeat (go_big_quiet_step (first | (go_at_call 31; exact aft_same (errno_any _ _)) | (go_at_call 48; exact aft_new (Nat.le_refl _) (Hid.out (H6 _)))))
    refine wpQuiet_nil ?_
    rintro _ ⟨x, rfl⟩
    go_wp2_with fail
    go_ret
    exact ⟨rfl, x.below⟩

end Go.Proofs.Ytjfdkjgmjjfmcaa
