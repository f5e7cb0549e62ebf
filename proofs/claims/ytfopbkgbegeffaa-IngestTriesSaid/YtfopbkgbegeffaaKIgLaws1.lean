/- The walk through the law IngestTries (chapter 11). -/
import Derived.Test.YtfopbkgbegeffaaK12
namespace Go.Proofs.Ytfopbkgbegeffaa
open Go.RowKit
set_option linter.unusedVariables false

def Ig.tr (a x : Int) : Ig.M := ⟨a, [(1, 4, 2, 2)], [Ig.pt 1 x], [], []⟩
theorem Ig.tr_inv {a x : Int} (h0 : 1 ≤ a) (h1 : a ≤ 7) (hx : -2147483648 ≤ x ∧ x ≤ 2147483647) : Ig.Inv (Ig.tr a x) := by
  refine ⟨?_, ?_, ?_, ?_, ?_, Ig.row_may _, ?_, fun d h => by simp [Ig.tr] at h, ?_⟩ <;> simp only [Ig.tr]
  · omega
  · omega
  · exact fun i j hij hj => by simp at hj; omega
  · simp; omega
  · intro p hp; rw [List.mem_singleton] at hp; subst hp; exact Ig.pt_may (by omega) hx
  · simp; omega
  · simp; omega
theorem Ig.tr_first {x : Int} (hx : -2147483648 ≤ x ∧ x ≤ 2147483647) : Ig.applyM Ig.m1 0 0 1 4 [Ig.pt 1 x] = (Ig.tr 2 x, 2, 0) := by
  rw [Ig.apply_open _ _ _ _ _ (by decide) (by decide), Ig.take_write (m := Ig.up Ig.m1) rfl (by omega) (by omega) (by omega) (Ig.pt_batch (by omega) hx) (by decide)]
  rfl
theorem Ig.tr_again {a x y : Int} (h0 : 1 ≤ a) (h1 : a ≤ 6) (hy : -2147483648 ≤ y ∧ y ≤ 2147483647) : Ig.applyM (Ig.tr a x) 0 0 1 4 [Ig.pt 1 y] = (Ig.tr (a + 1) x, 2, 0) := by
  rw [Ig.apply_open _ _ _ _ _ (by simp only [Ig.tr]; omega) (by simp only [Ig.tr]; omega), Ig.take_again (m := Ig.up (Ig.tr a x)) rfl (by omega) (by omega) (Ig.pt_batch (by omega) hy) (by simp only [Ig.up, Ig.tr]; omega) (by omega)]
  rfl
theorem Ig.tr_stale {a x y : Int} (h0 : 1 ≤ a) (h1 : a ≤ 6) (hy : -2147483648 ≤ y ∧ y ≤ 2147483647) : Ig.applyM (Ig.tr a x) 0 0 1 3 [Ig.pt 1 y] = (Ig.tr (a + 1) x, -1, 3) := by
  rw [Ig.apply_open _ _ _ _ _ (by simp only [Ig.tr]; omega) (by simp only [Ig.tr]; omega), Ig.take_stale (m := Ig.up (Ig.tr a x)) rfl (by omega) (by omega) (by omega) (Ig.pt_batch (by omega) hy) (by simp only [Ig.up, Ig.tr]; omega)]
  rfl
theorem Ig.tr_gone {a x : Int} (h0 : 1 ≤ a) (h1 : a ≤ 6) : Ig.applyM (Ig.tr a x) 0 0 7 1 [] = (Ig.tr (a + 1) x, -1, 4) := by
  rw [Ig.apply_open _ _ _ _ _ (by simp only [Ig.tr]; omega) (by simp only [Ig.tr]; omega), Ig.take_gone (m := Ig.up (Ig.tr a x)) rfl (by omega) (by omega) (by omega) (by omega) (by simp only [Ig.up, Ig.tr]; omega)]
  rfl
set_option maxRecDepth 100000 in
set_option maxHeartbeats 2000000 in
theorem ingestTries_walk (a0 a1 : Int) (w0 : (Lit.int .i64 a0).wf = true) (w1 : (Lit.int .i64 a1).wf = true) (w : World) :
    Calls Try.prog 7 #[.int .i64 a0, .int .i64 a1] w fun e w' => e = .returned (.bool true) ∧ Below w.heap.size w w' := by
  obtain ⟨c, hc, hand⟩ := and_low a0 3 (by omega)
  rw [show ((3 : Nat) : Int) = 3 from rfl] at hand
  obtain ⟨x, hx⟩ : ∃ x : Int, a1.tmod 100000 = x := ⟨_, rfl⟩
  have hx1 := Int.tmod_lt_of_pos a1 (show (0 : Int) < 100000 by omega)
  have hx2 := Int.lt_tmod_of_pos a1 (show (0 : Int) < 100000 by omega)
  rw [hx] at hx1 hx2
  have HT1 := Lib.hid (@Ig.tr_first x (by omega))
  have HT2 := Lib.hid (fun a y h0 h1 hy => @Ig.tr_again a x y h0 h1 hy)
  have HT3 := Lib.hid (fun a y h0 h1 hy => @Ig.tr_stale a x y h0 h1 hy)
  have HT4 := Lib.hid (fun a h0 h1 => @Ig.tr_gone a x h0 h1)
  have HI := Lib.hid (fun a h0 h1 => @Ig.tr_inv a x h0 h1 (by omega))
  clear w0 w1
  go_enter Try.func7, Try.ntmps7
  go_wp2_with fail
  refine (awake11 _).mono ?_
  rintro e w1 ⟨rfl, hb1⟩
  have Hb1 := Lib.hid hb1
  have hs1 := hb1.size
  clear hb1
  go_wp2_with fail
  refine (begun_any w1).mono ?_
  rintro e w2 ⟨rfl, hm2, hb2⟩
  have HM2 := Lib.hid hm2
  have Hb2 : Hid (Below w1.heap.size w1 w2) := hb2
  have hs2 := hb2.size
  clear hm2 hb2
  go_wp2_with fail
  refine (writeE_any 4 1 x w2).mono ?_
  rintro e w3 ⟨b, rfl, hr, h1, h2, hb3⟩
  have HA := Lib.hid (applyW HM2.out Ig.inv1 (fun k h => absurd h id) hs2 hb3 h1 h2 hr (by omega) (by omega) 4)
  rw [HT1.out] at HA
  have Hb3 : Hid (Below w1.heap.size w1 w3) := Hb2.out.trans (hb3.mono hs2)
  have hs3 := Hb3.out.size
  clear hr h1 h2 hb3 HM2 Hb2 hs2
  go_wp2_with fail
  refine HA.out.mono ?_
  rintro e w4 ⟨rfl, hm4, ho4⟩
  have HM4 : Hid (MachX w4 w1.heap.size w1.heap.size (Ig.tr 2 x) (fun _ => False)) := hm4
  have Hb4 : Hid (Below w1.heap.size w1 w4) := Hb3.out.trans (ho4.below (fun k hk q => by omega) hs3)
  have hs4 := Hb4.out.size
  clear hm4 ho4 HA Hb3 hs3
  simp only
  go_wp2_with fail
  have Hand := Lib.hid hand
  clear hx hand
  go_loopw [9, 10, 11] (fun i _ _ wr => ∃ j : Nat, j ≤ c ∧ i = .int .i64 (j : Int) ∧ Hid (MachX wr w1.heap.size w1.heap.size (Ig.tr (2 + (j : Int)) x) (fun _ => False)) ∧ Hid (Below w1.heap.size w1 wr)) (fun i _ _ _ => c - (intOf i).toNat)
  case atStart => exact ⟨0, Nat.zero_le _, rfl, HM4, Hb4⟩
  case round =>
    obtain ⟨j, hj, rfl, hm, hbw⟩ := hrel
    have hsw := hbw.out.size
    by_cases hlt : j < c
    · have hand := Hand.out
      go_wp2_with fail
      refine (writeE_any 4 1 (x + 1 + (j : Int)) wr).mono ?_
      rintro e w5 ⟨b5, rfl, hr, h1, h2, hb5⟩
      have HA := Lib.hid (applyW hm.out (HI.out (2 + (j : Int)) (by omega) (by omega)) (fun k h => absurd h id) hsw hb5 h1 h2 hr (by omega) (by omega) 4)
      rw [HT2.out _ _ (by omega) (by omega) (by omega)] at HA
      have Hb5 : Hid (Below w1.heap.size w1 w5) := hbw.out.trans (hb5.mono hsw)
      have hs5 := Hb5.out.size
      clear hr h1 h2 hb5 hm hbw
      go_wp2_with fail
      refine HA.out.mono ?_
      rintro e w6 ⟨rfl, hm6, ho6⟩
      have HM6 : Hid (MachX w6 w1.heap.size w1.heap.size (Ig.tr (2 + ((j + 1 : Nat) : Int)) x) (fun _ => False)) := by
        rw [show 2 + ((j + 1 : Nat) : Int) = 2 + (j : Int) + 1 from by omega]; exact hm6
      have Hb6 : Hid (Below w1.heap.size w1 w6) := Hb5.out.trans (ho6.below (fun k hk q => by omega) hs5)
      clear hm6 ho6 HA Hb5 hs5
      simp only
      go_wp2_with fail
      go_roundw
      case rel => exact ⟨j + 1, by omega, by go_num, HM6, Hb6⟩
      case measure => simp [intOf]; omega
    · have hand := Hand.out
      obtain rfl : j = c := by omega
      go_wp2_with fail
      refine (writeE_any 3 1 (x + 9) wr).mono ?_
      rintro e w5 ⟨b5, rfl, hr, h1, h2, hb5⟩
      have HA := Lib.hid (applyW hm.out (HI.out (2 + (j : Int)) (by omega) (by omega)) (fun k h => absurd h id) hsw hb5 h1 h2 hr (by omega) (by omega) 3)
      rw [HT3.out _ _ (by omega) (by omega) (by omega)] at HA
      have Hb5 : Hid (Below w1.heap.size w1 w5) := hbw.out.trans (hb5.mono hsw)
      have hs5 := Hb5.out.size
      clear hr h1 h2 hb5 hm hbw
      go_wp2_with fail
      refine HA.out.mono ?_
      rintro e w6 ⟨rfl, hm6, ho6⟩
      have Hb6 : Hid (Below w1.heap.size w1 w6) := Hb5.out.trans (ho6.below (fun k hk q => by omega) hs5)
      have hs6 := Hb6.out.size
      have HA6 := Lib.hid (applyX hm6 (HI.out (2 + (j : Int) + 1) (by omega) (by omega)) 0 0 7 1 none 0 0 [] rfl Reads.none_ (fun p hp => by simp at hp) (by simp) (fun k h => absurd h id) (fun b off h => by cases h) hs6)
      rw [HT4.out _ (by omega) (by omega)] at HA6
      clear hm6 ho6 HA Hb5 hs5
      simp only
      go_wp2_with fail
      refine HA6.out.mono ?_
      rintro e w7 ⟨rfl, hm7, ho7⟩
      have Hop := Lib.hid (openX hm7 (by show 1 ≤ _; omega))
      have Hb7 : Hid (Below w1.heap.size w1 w7) := Hb6.out.trans (ho7.below (fun k hk q => by omega) hs6)
      have hs7 := Hb7.out.size
      clear hm7 ho7 HA6 Hb6 hs6
      simp only
      go_wp2_with fail
      refine Hop.out.mono ?_
      rintro e w8 ⟨v8, rfl, hown8, hb8⟩
      obtain ⟨A8, c8, rfl, _, hr8⟩ := own_slice hown8
      have Hr8 : Hid (Reads w8 w8.heap.size 3 A8 [Ig.pt 1 x].length ([Ig.pt 1 x].flatMap pointCells)) := hr8
      have Hb8 : Hid (Below w.heap.size w w8) := Hb1.out.trans ((Hb7.out.trans (hb8.mono hs7)).mono hs1)
      have hl8 : (Ig.tr (2 + (j : Int) + 1 + 1) x).opn.length = 1 := rfl
      rw [hl8]
      clear hown8 hb8 hr8 hl8
      obtain ⟨bd, off, rfl, hbd, hcd⟩ := Hr8.out.2 (by simp)
      have hv8 : w8.cell? ⟨bd, off + 2, none⟩ = some (.int .i64 x) := hcd 2 _ rfl
      clear hcd
      go_wp2_with fail
      go_ret
      exact ⟨rfl, Hb8.out⟩
end Go.Proofs.Ytfopbkgbegeffaa
