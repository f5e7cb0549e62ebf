/- The walk through the law IngestCopies (chapter 11). -/
import Derived.Test.YtfopbkgbegeffaaK12
import Derived.Test.YtfopbkgbegeffaaKIgSnapP
namespace Go.Proofs.Ytfopbkgbegeffaa
open Go.RowKit
set_option linter.unusedVariables false

theorem ints_cell {w : World} {B : Nat} {A : Option Addr} {z : List Int} (h : Reads w B 1 A z.length (z.map (Value.int .i64))) (j : Nat) (hj : j < z.length) : ∃ b off, A = some ⟨b, off, none⟩ ∧ b < B ∧ w.cell? ⟨b, off + j, none⟩ = some (.int .i64 z[j]) := by
  obtain ⟨b, off, e, hb, hc⟩ := h.2 (by omega)
  exact ⟨b, off, e, hb, hc j _ (by simp [hj])⟩
set_option maxRecDepth 100000 in
set_option maxHeartbeats 4000000 in
theorem ingestCopies_walk {w : World} (A0 : Option Addr) (c0 : Nat) (z0 : List Int) (A1 : Option Addr) (c1 : Nat) (z1 : List Int) (rd0 : Reads w w.heap.size 1 A0 z0.length (z0.map (Value.int .i64))) (wf0 : ∀ n ∈ z0, (Lit.int .i64 n).wf = true) (nb0 : z0.length * 8 ≤ 140737488351232) (rd1 : Reads w w.heap.size 1 A1 z1.length (z1.map (Value.int .i64))) (wf1 : ∀ n ∈ z1, (Lit.int .i64 n).wf = true) (nb1 : z1.length * 8 ≤ 140737488351232) :
    Calls Try.prog 9 #[.slice A0 z0.length c0, .slice A1 z1.length c1] w fun e w' => e = .returned (.bool true) ∧ Below w.heap.size w w' := by
  have HC0 := Lib.hid (ints_cell rd0)
  have HC1 := Lib.hid (ints_cell rd1)
  clear rd0 rd1 wf0 wf1
  go_enter Try.func9, Try.ntmps9
  go_wp2_with fail
  refine (awake11 _).mono ?_
  rintro e w1 ⟨rfl, hb1⟩
  have Hb1 := Lib.hid hb1
  have hs1 := hb1.size
  clear hb1
  go_wp2_with fail
  refine (begun_any w1).mono ?_
  rintro e w2 ⟨rfl, hm2, hb2⟩
  have HM2 := Lib.hid hm2
  have Hb2 : Hid (Below w1.heap.size w1 w2) := hb2
  have hs2 := hb2.size
  clear hm2 hb2
  go_wp2_with fail
  go_loopw [6] (fun i wr => ∃ (j : Nat) (m : Ig.M), j ≤ 5 ∧ i = .int .i64 (j : Int) ∧ Hid (MachX wr w1.heap.size w1.heap.size m (fun _ => False)) ∧ Hid (Ig.Inv m) ∧ Hid (m.at_ = 1 + (j : Int)) ∧ Hid (Below w1.heap.size w1 wr)) (fun i _ => 5 - (intOf i).toNat)
  case atStart => exact ⟨0, Ig.m1, Nat.zero_le _, rfl, HM2, Ig.inv1, Lib.hid rfl, Hb2⟩
  case round =>
    obtain ⟨j, m, hj, rfl, hm, hI, hat, hbw⟩ := hrel
    have hsw := hbw.out.size
    by_cases hlt : j < z0.length ∧ j < 5
    · obtain ⟨hl1, hl2⟩ := hlt
      have hd1 : decide (j < z0.length) = true := decide_eq_true hl1
      have hd2 : decide ((j : Int) < 5) = true := decide_eq_true (by omega)
      have hd3 : decide ((j : Int) < (z0.length : Int)) = true := decide_eq_true (by omega)
      obtain ⟨bd, off, rfl, hbd, hcd⟩ := HC0.out j hl1
      have hcr := (hbw.out.cell (p := ⟨bd, off + j, none⟩) (by show bd < _; omega)).trans ((Hb1.out.cell (p := ⟨bd, off + j, none⟩) hbd).trans hcd)
      obtain ⟨t, ht, hand⟩ := and_low z0[j] 3 (by omega)
      rw [show ((3 : Nat) : Int) = 3 from rfl] at hand
      clear hcd
      generalize z0[j] = zj at *
      go_wp2_with fail
      refine (writeE_any ((j : Int) + 1) (t : Int) (j : Int) wr).mono ?_
      rintro e w5 ⟨b5, rfl, hr, h1, h2, hb5⟩
      have HA := Lib.hid (applyW hm.out hI.out (fun k h => absurd h id) hsw hb5 h1 h2 hr (by omega) (by omega) ((j : Int) + 1))
      have HI := Lib.hid (Ig.inv_apply hI.out 0 0 1 ((j : Int) + 1) [Ig.pt (t : Int) (j : Int)])
      have HAt : Hid ((Ig.applyM m 0 0 1 ((j : Int) + 1) [Ig.pt (t : Int) (j : Int)]).1.at_ = 1 + ((j + 1 : Nat) : Int)) := by
        show _ = _
        have := hat.out
        rw [Ig.at_apply _ _ _ _ _ (by omega), this]; omega
      have Hb5 : Hid (Below w1.heap.size w1 w5) := hbw.out.trans (hb5.mono hsw)
      have hs5 := Hb5.out.size
      clear hr h1 h2 hb5 hm hbw hI hat hand
      generalize Ig.applyM m 0 0 1 ((j : Int) + 1) [Ig.pt (t : Int) (j : Int)] = q at *
      go_wp2_with fail
      refine HA.out.mono ?_
      rintro e w6 ⟨rfl, hm6, ho6⟩
      have HM6 := Lib.hid hm6
      have Hb6 : Hid (Below w1.heap.size w1 w6) := Hb5.out.trans (ho6.below (fun k hk q => by omega) hs5)
      clear hm6 ho6 HA Hb5 hs5
      go_wp2_with fail
      go_roundw
      case rel => exact ⟨j + 1, q.1, by omega, by go_num, HM6, HI, HAt, Hb6⟩
      case measure => simp [intOf]; omega
    · have hend : (decide (j < z0.length) = false ∧ decide ((j : Int) < (z0.length : Int)) = false) ∨ (decide (j < z0.length) = true ∧ decide ((j : Int) < (z0.length : Int)) = true ∧ decide ((j : Int) < 5) = false) := by
        by_cases h : j < z0.length
        · exact .inr ⟨decide_eq_true h, decide_eq_true (by omega), decide_eq_false (by omega)⟩
        · exact .inl ⟨decide_eq_false h, decide_eq_false (by omega)⟩
      have hI0 := hI.out
      have hb0 : 0 ≤ m.at_ ∧ m.at_ ≤ 6 := by have := hat.out; omega
      have hln := Ig.inv_len hI0
      have HAt := Lib.hid (atX hm.out)
      have HOp := Lib.hid (openX hm.out (by omega))
      clear hlt hI0 hat
      rcases hend with ⟨hd1, hd3⟩ | ⟨hd1, hd3, hd2⟩
      all_goals
        go_wp2_with fail
        refine HAt.out.mono ?_
        rintro e w' ⟨rfl, rfl⟩
        go_wp2_with fail
        refine HOp.out.mono ?_
        rintro e w8 ⟨v8, rfl, hown8, hb8⟩
        obtain ⟨A8, c8, rfl, _, hr8⟩ := own_slice hown8
        have Hr8 := Lib.hid hr8
        have HM8 := Lib.hid (hm.out.below hb8)
        have Hb8 : Hid (Below w1.heap.size w1 w8) := hbw.out.trans (hb8.mono hsw)
        have hs8 := Hb8.out.size
        have HCp := Lib.hid (copyX HM8.out hI.out)
        clear hown8 hb8 hr8 hm HOp HAt hd1 hd3
        go_wp2_with fail
        refine HCp.out.mono ?_
        rintro e w9 ⟨g9, r9, o9, d9, s9, rfl, hm9, hb9⟩
        have HM9 : Hid (MachX w9 w8.heap.size g9 m (fun _ => False)) := ⟨_, _, _, _, hm9, fun _ _ h => h⟩
        have Hb9 := Lib.hid hb9
        clear hm9 hb9 HCp
        go_wp2_with fail
        go_loopw [10] (fun i wr2 => ∃ (q : Nat) (m2 : Ig.M), q ≤ min z1.length 20 ∧ i = .int .i64 (q : Int) ∧ Hid (MachX wr2 w8.heap.size g9 m2 (fun _ => False)) ∧ Hid (Ig.Inv m2) ∧ Hid (m2.at_ = m.at_ + (q : Int)) ∧ Hid (Below w8.heap.size w8 wr2)) (fun i _ => 20 - (intOf i).toNat)
        case atStart => exact ⟨0, m, Nat.zero_le _, rfl, HM9, hI, Lib.hid (by simp), Hb9⟩
        case round =>
          obtain ⟨q, m2, hq, rfl, hm2, hI2, hat2, hbw2⟩ := hrel
          have hsw2 := hbw2.out.size
          by_cases hlt2 : q < z1.length ∧ q < 20
          · obtain ⟨hl1, hl2⟩ := hlt2
            have gd1 : decide (q < z1.length) = true := decide_eq_true hl1
            have gd2 : decide ((q : Int) < 20) = true := decide_eq_true (by omega)
            have gd3 : decide ((q : Int) < (z1.length : Int)) = true := decide_eq_true (by omega)
            obtain ⟨bd, off, rfl, hbd, hcd⟩ := HC1.out q hl1
            have hcr := (hbw2.out.cell (p := ⟨bd, off + q, none⟩) (by show bd < _; omega)).trans ((Hb8.out.cell (p := ⟨bd, off + q, none⟩) (by show bd < _; omega)).trans ((Hb1.out.cell (p := ⟨bd, off + q, none⟩) hbd).trans hcd))
            obtain ⟨t, ht, hand⟩ := and_low z1[q] 3 (by omega)
            rw [show ((3 : Nat) : Int) = 3 from rfl] at hand
            clear hcd
            generalize z1[q] = zj at *
            have w1' : (10 : Int) + (q : Int) = 10 + (q : Int) := rfl
            go_wp2_with fail
            refine (writeE_any (10 + (q : Int)) (t : Int) (50 + (q : Int)) _).mono ?_
            rintro e w10 ⟨b10, rfl, hr, h1, h2, hb10⟩
            have HA := Lib.hid (applyW hm2.out hI2.out (fun k h => absurd h id) hsw2 hb10 h1 h2 hr (by omega) (by omega) (10 + (q : Int)))
            have HI := Lib.hid (Ig.inv_apply hI2.out 0 0 1 (10 + (q : Int)) [Ig.pt (t : Int) (50 + (q : Int))])
            have HAt : Hid ((Ig.applyM m2 0 0 1 (10 + (q : Int)) [Ig.pt (t : Int) (50 + (q : Int))]).1.at_ = m.at_ + ((q + 1 : Nat) : Int)) := by
              show _ = _
              have := hat2.out
              rw [Ig.at_apply _ _ _ _ _ (by omega), this]; omega
            have Hb10 : Hid (Below w8.heap.size w8 w10) := hbw2.out.trans (hb10.mono hsw2)
            have hs10 := Hb10.out.size
            clear hr h1 h2 hb10 hm2 hbw2 hI2 hat2 hand
            generalize Ig.applyM m2 0 0 1 (10 + (q : Int)) [Ig.pt (t : Int) (50 + (q : Int))] = p at *
            go_wp2_with fail
            refine HA.out.mono ?_
            rintro e w11 ⟨rfl, hm11, ho11⟩
            have HM11 := Lib.hid hm11
            have Hb11 : Hid (Below w8.heap.size w8 w11) := Hb10.out.trans (ho11.below (fun k hk q => by omega) hs10)
            clear hm11 ho11 HA Hb10 hs10
            go_wp2_with fail
            go_roundw
            case rel => exact ⟨q + 1, p.1, by omega, by go_num, HM11, HI, HAt, Hb11⟩
            case measure => simp [intOf]; omega
          · have hqe : (q : Int) = min (z1.length : Int) 20 := by omega
            have hend2 : (decide (q < z1.length) = false ∧ decide ((q : Int) < (z1.length : Int)) = false) ∨ (decide (q < z1.length) = true ∧ decide ((q : Int) < (z1.length : Int)) = true ∧ decide ((q : Int) < 20) = false) := by
              by_cases h : q < z1.length
              · exact .inr ⟨decide_eq_true h, decide_eq_true (by omega), decide_eq_false (by omega)⟩
              · exact .inl ⟨decide_eq_false h, decide_eq_false (by omega)⟩
            have hat3 : (m2.at_ == m.at_ + min (z1.length : Int) 20) = true := by rw [beq_iff_eq, hat2.out, hqe]
            have hatm : (m.at_ == m.at_) = true := by simp
            have HMr := Lib.hid (HM8.out.below hbw2.out)
            have HOr := Lib.hid (Hr8.out.below hbw2.out)
            have Hbr : Hid (Below w1.heap.size w1 wr) := Hb8.out.trans (hbw2.out.mono hs8)
            have hsr := Hbr.out.size
            have T1 := Lib.hid (atX HMr.out)
            have T2 := Lib.hid (openX HMr.out (by omega))
            have hb02 : m2.at_ ≤ 26 := by have := hat2.out; omega
            clear hlt2 hqe hat2 hbw2 hI hI2 Hr8 HM8 Hb8 HC0 HC1 hbw
            rcases hend2 with ⟨hd1, hd3⟩ | ⟨hd1, hd3, hd2⟩
            all_goals
              go_wp2_with fail
              refine T1.out.mono ?_
              rintro e w' ⟨rfl, rfl⟩
              go_wp2_with fail
              refine T2.out.mono ?_
              rintro e w12 ⟨v12, rfl, hown12, hb12⟩
              obtain ⟨A12, c12, rfl, _, hr12⟩ := own_slice hown12
              have Hr12 := Lib.hid hr12
              have HO12 := Lib.hid (HOr.out.below (hb12.mono hsw2))
              have HM12 := Lib.hid (hm2.out.below hb12)
              have Hb12 : Hid (Below w1.heap.size w1 w12) := Hbr.out.trans (hb12.mono hsr)
              clear hown12 hb12 hr12 HOr HMr
              go_wp2_with fail
              refine (samePoints_true A12 A8 c12 c8 m.opn _ _ _ Hr12.out HO12.out (by omega)).mono ?_
              rintro e w13 ⟨rfl, n13, rfl⟩
              have T3 := Lib.hid (atX (HM12.out.below (below_drewN (Below.refl _ w12) n13)))
              go_wp2_with fail
              refine T3.out.mono ?_
              rintro e w' ⟨rfl, rfl⟩
              go_wp2_with fail
              go_ret
              exact ⟨rfl, below_drewN (Hb1.out.trans (Hb12.out.mono hs1)) n13⟩
end Go.Proofs.Ytfopbkgbegeffaa
