/- The walk through the law IngestSnaps (chapter 11). -/
import Derived.Test.YtapdlmiioljpgaaK12
import Derived.Test.YtapdlmiioljpgaaKIgSnapP
import Derived.Test.YtapdlmiioljpgaaKSameSums
import Derived.Test.YtapdlmiioljpgaaK3
namespace Go.Proofs.Ytapdlmiioljpgaa
open Go.RowKit
set_option linter.unusedVariables false

theorem snapL_len (m : Ig.M) : (Ig.snapL m).length ≤ 200 + 8 * m.digs.length := by
  unfold Ig.snapL
  have h1 := Wr.putL_len m.at_
  have h2 := Wr.putL_len (m.digs.length : Int)
  have h3 := Ig.textB_size (Se.putR m.rows).1
  have h4 := Ig.putR_size m.rows
  have h5 := tails_le m.digs
  rw [← Wr.len_list] at h3
  simp only [List.length_append]
  omega
set_option maxRecDepth 100000 in
set_option maxHeartbeats 4000000 in
theorem ingestSnaps_walk (a0 : Int) (w0 : (Lit.int .i64 a0).wf = true) (w : World) :
    Calls Try.prog 9 #[.int .i64 a0] w fun e w' => e = .returned (.bool true) ∧ Below w.heap.size w w' := by
  obtain ⟨c, hc, hand⟩ := and_low a0 31 (by omega)
  rw [show ((31 : Nat) : Int) = 31 from rfl] at hand
  clear w0
  go_enter Try.func9, Try.ntmps9
  go_wp2_with fail
  refine (awake11 _).mono ?_
  rintro e w1 ⟨rfl, hb1⟩
  have Hb1 := Lib.hid hb1
  have hs1 := hb1.size
  clear hb1
  go_wp2_with fail
  refine (begun_any w1).mono ?_
  rintro e w2 ⟨rfl, hm2, hb2⟩
  have HM2 := Lib.hid hm2
  have Hb2 : Hid (Below w1.heap.size w1 w2) := hb2
  have hs2 := hb2.size
  clear hm2 hb2
  go_wp2_with fail
  have Hand := Lib.hid hand
  clear hand
  go_loopw [4] (fun i wr => ∃ (j : Nat) (m : Ig.M), j ≤ c ∧ i = .int .i64 (j : Int) ∧ Hid (MachX wr w1.heap.size w1.heap.size m (fun _ => False)) ∧ Hid (Ig.Inv m) ∧ Hid (Ig.Fit m) ∧ Hid (m.at_ = 1 + (j : Int)) ∧ Hid (Below w1.heap.size w1 wr)) (fun i _ => c - (intOf i).toNat)
  case atStart => exact ⟨0, Ig.m1, Nat.zero_le _, rfl, HM2, Ig.inv1, Ig.fit1, Lib.hid rfl, Hb2⟩
  case round =>
    obtain ⟨j, m, hj, rfl, hm, hI, hf, hat, hbw⟩ := hrel
    have hsw := hbw.out.size
    have hand := Hand.out
    by_cases hlt : j < c
    · go_wp2_with fail
      refine (writeE_any ((j : Int) + 1) (j : Int) (j : Int) wr).mono ?_
      rintro e w5 ⟨b5, rfl, hr, h1, h2, hb5⟩
      have HA := Lib.hid (applyW hm.out hI.out (fun k h => absurd h id) hsw hb5 h1 h2 hr (by omega) (by omega) ((j : Int) + 1))
      have HI := Lib.hid (Ig.inv_apply hI.out 0 0 1 ((j : Int) + 1) [Ig.pt (j : Int) (j : Int)])
      have HF := Lib.hid (Ig.fit_apply hI.out hf.out 0 0 1 ((j : Int) + 1) [Ig.pt (j : Int) (j : Int)])
      have HAt : Hid ((Ig.applyM m 0 0 1 ((j : Int) + 1) [Ig.pt (j : Int) (j : Int)]).1.at_ = 1 + ((j + 1 : Nat) : Int)) := by
        show _ = _
        have := hat.out
        rw [Ig.at_apply _ _ _ _ _ (by omega), this]; omega
      have Hb5 : Hid (Below w1.heap.size w1 w5) := hbw.out.trans (hb5.mono hsw)
      have hs5 := Hb5.out.size
      clear hr h1 h2 hb5 hm hbw hI hf hat
      generalize Ig.applyM m 0 0 1 ((j : Int) + 1) [Ig.pt (j : Int) (j : Int)] = q at *
      go_wp2_with fail
      refine HA.out.mono ?_
      rintro e w6 ⟨rfl, hm6, ho6⟩
      have HM6 := Lib.hid hm6
      have Hb6 : Hid (Below w1.heap.size w1 w6) := Hb5.out.trans (ho6.below (fun k hk q => by omega) hs5)
      clear hm6 ho6 HA Hb5 hs5
      go_wp2_with fail
      go_roundw
      case rel => exact ⟨j + 1, q.1, by omega, by go_num, HM6, HI, HF, HAt, Hb6⟩
      case measure => simp [intOf]; omega
    · obtain rfl : j = c := by omega
      have hat0 := hI.out.at0
      have hat1 := hI.out.at1
      have Hdl := Lib.hid hI.out.dl
      have HS := Lib.hid (snapX hm.out hI.out)
      by_cases h8 : m.at_ % 8 ≠ 0
      · rw [Ig.snap_no h8] at HS
        have h8b : (m.at_ % 8 != 0) = true := by simpa using h8
        clear h8
        go_wp2_with fail
        refine HS.out.mono ?_
        rintro e w3 ⟨rfl, hb3⟩
        have Hat := Lib.hid (atX (hm.out.below hb3))
        have Hb3 : Hid (Below w.heap.size w w3) := Hb1.out.trans ((hbw.out.trans (hb3.mono hsw)).mono hs1)
        clear hb3
        try simp only
        go_wp2_with fail
        refine Hat.out.mono ?_
        rintro e w' ⟨rfl, rfl⟩
        go_wp2_with fail
        refine (errno_any _ _).mono ?_
        rintro e w' ⟨rfl, rfl⟩
        go_wp2_with fail
        go_ret
        exact ⟨rfl, Hb3.out⟩
      · rw [Ig.snap_yes h8] at HS
        have h8' : m.at_ % 8 = 0 := by omega
        have h8b : (m.at_ % 8 != 0) = false := by simpa using h8
        have hsl := snapL_len m
        have hdl : m.digs.length ≤ 512 := by have := Hdl.out; omega
        have HL1 := fun W => Lib.hid (load_any ⟨(Ig.snapL m).toArray⟩ W (by rw [← Wr.len_list]; show (Ig.snapL m).length ≤ _; omega))
        have HL2 := fun W => Lib.hid (load_any (⟨(Ig.snapL m).toArray⟩ ++ ⟨#[120]⟩) W (by rw [ByteArray.size_append, ← Wr.len_list]; show (Ig.snapL m).length + 1 ≤ _; omega))
        rw [Ig.load_snap hI.out hf.out h8'] at HL1
        rw [Ig.load_more hI.out hf.out h8' ⟨#[120]⟩ (by simp)] at HL2
        have hsz : (⟨(Ig.snapL m).toArray⟩ : ByteArray).size ≤ 10000 := by rw [← Wr.len_list]; show (Ig.snapL m).length ≤ _; omega
        have hrl := Se.may_len hI.out.rows
        clear h8 h8' hsl hf hat hI
        generalize (⟨(Ig.snapL m).toArray⟩ : ByteArray) = S at *
        obtain ⟨at_, rows, opn, digs, seals⟩ := m
        simp only at hat0 hat1 hdl h8b hrl
        have hq1 : ¬ 9223372036854775807 < S.size + 1 := by omega
        go_wp2_with fail
        refine HS.out.mono ?_
        rintro e w3 ⟨rfl, hb3⟩
        have HM3 := Lib.hid (hm.out.below hb3)
        have Hat3 := Lib.hid (atX HM3.out)
        have Hb3 : Hid (Below w1.heap.size w1 w3) := hbw.out.trans (hb3.mono hsw)
        have hs3 := Hb3.out.size
        clear hb3 hbw hm HS
        try simp only
        go_wp2_with fail
        refine Hat3.out.mono ?_
        rintro e w' ⟨rfl, rfl⟩
        try simp only
        go_wp2_with fail
        refine (HL1 _).out.mono ?_
        rintro e w4 ⟨g4, vr4, vd4, rfl, hM4, hb4⟩
        have HM4 : Hid (MachX w4 w3.heap.size g4 ⟨at_, rows, [], digs, []⟩ (fun _ => False)) := ⟨_, _, _, _, hM4, fun _ _ h => h⟩
        have HM3' := Lib.hid (HM3.out.below hb4)
        have Hb4 : Hid (Below w1.heap.size w1 w4) := Hb3.out.trans (hb4.mono hs3)
        have hs4 := Hb4.out.size
        clear hM4 hb4 HM3 Hb3 Hat3 HL1
        go_wp2_with fail
        refine (HL2 _).out.mono ?_
        rintro e w5 ⟨rfl, hb5⟩
        have HM5 := Lib.hid (HM4.out.below hb5)
        have HN5 := Lib.hid (HM3'.out.below hb5)
        have Hb5 : Hid (Below w1.heap.size w1 w5) := Hb4.out.trans (hb5.mono hs4)
        have hs5 := Hb5.out.size
        clear hb5 HM4 HM3' Hb4 HL2
        have A5 := Lib.hid (atX HM5.out)
        have B5 := Lib.hid (atX HN5.out)
        have C5 := Lib.hid (sealsX HM5.out (by show 0 ≤ _; omega))
        have hat : (at_ == at_) = true := by simp
        go_wp2_with fail
        refine (errno_any _ _).mono ?_
        rintro e w' ⟨rfl, rfl⟩
        go_wp2_with fail
        refine (errno_any _ _).mono ?_
        rintro e w' ⟨rfl, rfl⟩
        go_wp2_with fail
        refine A5.out.mono ?_
        rintro e w' ⟨rfl, rfl⟩
        try simp only
        go_wp2_with fail
        refine B5.out.mono ?_
        rintro e w' ⟨rfl, rfl⟩
        try simp only
        go_wp2_with fail
        refine C5.out.mono ?_
        rintro e w6 ⟨v6, rfl, hown6, hb6⟩
        obtain ⟨A6, c6, rfl, _, _⟩ := own_slice hown6
        have HM6 := Lib.hid (HM5.out.below hb6)
        have HN6 := Lib.hid (HN5.out.below hb6)
        have Hb6 : Hid (Below w1.heap.size w1 w6) := Hb5.out.trans (hb6.mono hs5)
        have hs6 := Hb6.out.size
        have D6 := Lib.hid (digsX HM6.out (by show digs.length ≤ _; omega))
        clear hown6 hb6 HM5 HN5 Hb5 A5 B5 C5
        try simp only [List.length_nil]
        go_wp2_with fail
        refine D6.out.mono ?_
        rintro e w7 ⟨v7, rfl, hown7, hb7⟩
        obtain ⟨A7, c7, rfl, _, hr7⟩ := own_slice hown7
        have Hr7 : Hid (Reads w7 w7.heap.size 1 A7 digs.length (digs.map (Value.int .u64))) := by rw [← digs_map]; exact hr7
        have HM7 := Lib.hid (HM6.out.below hb7)
        have HN7 := Lib.hid (HN6.out.below hb7)
        have Hb7 : Hid (Below w1.heap.size w1 w7) := Hb6.out.trans (hb7.mono hs6)
        have hs7 := Hb7.out.size
        have D7 := Lib.hid (digsX HN7.out (by show digs.length ≤ _; omega))
        clear hown7 hb7 hr7 HM6 HN6 Hb6 D6
        try simp only
        go_wp2_with fail
        refine D7.out.mono ?_
        rintro e w8 ⟨v8, rfl, hown8, hb8⟩
        obtain ⟨A8, c8, rfl, _, hr8⟩ := own_slice hown8
        have Hr8 : Hid (Reads w8 w8.heap.size 1 A8 digs.length (digs.map (Value.int .u64))) := by rw [← digs_map]; exact hr8
        have Hr7' := Lib.hid (Hr7.out.below hb8)
        have HM8 := Lib.hid (HM7.out.below hb8)
        have HN8 := Lib.hid (HN7.out.below hb8)
        have Hb8 : Hid (Below w1.heap.size w1 w8) := Hb7.out.trans (hb8.mono hs7)
        have hs8 := Hb8.out.size
        clear hown8 hb8 hr8 HM7 HN7 Hb7 D7 Hr7
        try simp only
        go_wp2_with fail
        refine (sameSums_true A7 A8 c7 c8 digs _ _ _ Hr7'.out Hr8.out (by omega)).mono ?_
        rintro e w9 ⟨rfl, n9, rfl⟩
        have HM9 := Lib.hid (HM8.out.below (below_drewN (Below.refl _ w8) n9))
        have HN9 := Lib.hid (HN8.out.below (below_drewN (Below.refl _ w8) n9))
        have Hb9 : Hid (Below w1.heap.size w1 (w8.drewN n9)) := below_drewN Hb8.out n9
        have hs9 := Hb9.out.size
        have E9 := Lib.hid (rowsX HM9.out (by show rows.length ≤ _; omega))
        clear Hr7' Hr8 HM8 HN8 Hb8
        generalize w8.drewN n9 = w9 at *
        go_wp2_with fail
        refine E9.out.mono ?_
        rintro e w10 ⟨v10, rfl, hown10, hb10⟩
        obtain ⟨A10, c10, rfl, _, hr10⟩ := own_slice hown10
        have Hr10 := Lib.hid hr10
        have HN10 := Lib.hid (HN9.out.below hb10)
        have Hb10 : Hid (Below w1.heap.size w1 w10) := Hb9.out.trans (hb10.mono hs9)
        have hs10 := Hb10.out.size
        have E10 := Lib.hid (rowsX HN10.out (by show rows.length ≤ _; omega))
        clear hown10 hb10 hr10 HM9 HN9 Hb9 E9
        try simp only at Hr10
        try simp only
        go_wp2_with fail
        refine E10.out.mono ?_
        rintro e w11 ⟨v11, rfl, hown11, hb11⟩
        obtain ⟨A11, c11, rfl, _, hr11⟩ := own_slice hown11
        have Hr11 := Lib.hid hr11
        have Hr10' := Lib.hid (Hr10.out.below hb11)
        have Hb11 : Hid (Below w1.heap.size w1 w11) := Hb10.out.trans (hb11.mono hs10)
        clear hown11 hb11 hr11 HN10 Hb10 E10 Hr10
        try simp only at Hr11
        try simp only
        go_wp2_with fail
        refine (sameRows_true A10 A11 c10 c11 rows _ _ _ Hr10'.out Hr11.out (by omega)).mono ?_
        rintro e w12 ⟨rfl, n12, rfl⟩
        go_wp2_with fail
        refine (errno_any _ _).mono ?_
        rintro e w' ⟨rfl, rfl⟩
        go_wp2_with fail
        go_ret
        exact ⟨rfl, below_drewN (Hb1.out.trans (Hb11.out.mono hs1)) n12⟩
end Go.Proofs.Ytapdlmiioljpgaa
