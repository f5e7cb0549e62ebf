/- The walk through the law IngestSeals (chapter 11). -/
import Derived.Test.YtfopbkgbegeffaaK12
import Derived.Test.YtfopbkgbegeffaaKIgSealP
namespace Go.Proofs.Ytfopbkgbegeffaa
open Go.RowKit
set_option linter.unusedVariables false

theorem first_any (x : Int) (w : World) : Calls Try.prog 40 #[.int .i64 x] w fun e w' => e = .returned (.int .i64 (if x < 8 then 1 else 0)) ∧ w = w' := by
  by_cases h : x < 8
  · rw [if_pos h]
    go_enter Try.func40, Try.ntmps40
    go_wp2_with fail
    go_ret
    exact ⟨rfl, rfl⟩
  · rw [if_neg h]
    go_enter Try.func40, Try.ntmps40
    go_wp2_with fail
    go_ret
    exact ⟨rfl, rfl⟩
theorem first2_any (x : Int) (w : World) : Calls Try.prog 42 #[.int .i64 x] w fun e w' => e = .returned (.int .i64 (if x = 0 then 1 else 0)) ∧ w = w' := by
  by_cases h : x = 0
  · rw [if_pos h]
    have hb : (x == 0) = true := by simp [h]
    clear h
    go_enter Try.func42, Try.ntmps42
    go_wp2_with fail
    go_ret
    exact ⟨rfl, rfl⟩
  · rw [if_neg h]
    have hb : (x == 0) = false := by simp [h]
    go_enter Try.func42, Try.ntmps42
    go_wp2_with fail
    go_ret
    exact ⟨rfl, rfl⟩
theorem sgt_size (i : Nat) (h : i < 4) : (Ig.sgt i).size ≤ 5000 := by
  unfold Ig.sgt
  have hr := Ig.sgp_rise ⟨i, h⟩
  simp only at hr
  rw [putR_good (by omega) hr]
  show (Sg.fileB _).size ≤ _
  rw [file_size]
  have := body_le (r := (i : Int) + 1) hr
  omega
set_option maxRecDepth 100000 in
set_option maxHeartbeats 4000000 in
theorem ingestSeals_walk (a0 : Int) (w0 : (Lit.int .i64 a0).wf = true) (w : World) :
    Calls Try.prog 10 #[.int .i64 a0] w fun e w' => e = .returned (.bool true) ∧ Below w.heap.size w w' := by
  obtain ⟨c, hc, hand⟩ := and_low a0 31 (by omega)
  rw [show ((31 : Nat) : Int) = 31 from rfl] at hand
  clear w0
  have HST := Lib.hid (fun k r u hk => @Ig.sm_step k r u hk)
  have HIN : Hid (∀ (m : Ig.M) v c s n bs, Ig.Inv m → Ig.Inv (Ig.applyM m v c s n bs).1) := fun m v c s n bs h => Ig.inv_apply h v c s n bs
  have HM0 := Lib.hid Ig.sm0
  go_enter Try.func10, Try.ntmps10
  go_wp2_with fail
  refine (awake11 _).mono ?_
  rintro e w1 ⟨rfl, hb1⟩
  have Hb1 := Lib.hid hb1
  have hs1 := hb1.size
  clear hb1
  go_wp2_with fail
  refine (begun_any w1).mono ?_
  rintro e w2 ⟨rfl, hm2, hb2⟩
  rw [← HM0.out] at hm2
  have HM2 := Lib.hid hm2
  have HI2 : Hid (Ig.Inv (Ig.sm 0 1 1)) := by show Ig.Inv _; rw [HM0.out]; exact Ig.inv1
  have Hb2 : Hid (Below w1.heap.size w1 w2) := hb2
  have hs2 := hb2.size
  clear hm2 hb2 HM0
  go_wp2_with fail
  clear hand
  go_loopw [5] (fun i wr => ∃ (j : Nat) (r u : Int), j ≤ c ∧ i = .int .i64 (j : Int) ∧ Hid (MachX wr w1.heap.size w1.heap.size (Ig.sm j r u) (fun _ => False)) ∧ Hid (Ig.Inv (Ig.sm j r u)) ∧ Hid (Below w1.heap.size w1 wr)) (fun i _ => c - (intOf i).toNat)
  case atStart => exact ⟨0, 1, 1, Nat.zero_le _, rfl, HM2, HI2, Hb2⟩
  case round =>
    obtain ⟨j, r, u, hj, rfl, hm, hI, hbw⟩ := hrel
    have hsw := hbw.out.size
    by_cases hlt : j < c
    · go_wp2_with fail
      refine (writeE_any ((j : Int) + 1) (j : Int) (j : Int) wr).mono ?_
      rintro e w5 ⟨b5, rfl, hr, h1, h2, hb5⟩
      have HA := Lib.hid (applyW hm.out hI.out (fun k h => absurd h id) hsw hb5 h1 h2 hr (by omega) (by omega) ((j : Int) + 1))
      have HI := Lib.hid (HIN.out _ 0 0 1 ((j : Int) + 1) [Ig.pt (j : Int) (j : Int)] hI.out)
      rw [HST.out j r u (by omega)] at HA HI
      have Hb5 : Hid (Below w1.heap.size w1 w5) := hbw.out.trans (hb5.mono hsw)
      have hs5 := Hb5.out.size
      clear hr h1 h2 hb5 hm hbw hI
      go_wp2_with fail
      refine HA.out.mono ?_
      rintro e w6 ⟨rfl, hm6, ho6⟩
      have HM6 := Lib.hid hm6
      have Hb6 : Hid (Below w1.heap.size w1 w6) := Hb5.out.trans (ho6.below (fun k hk q => by omega) hs5)
      clear hm6 ho6 HA Hb5 hs5
      go_wp2_with fail
      go_roundw
      case rel => exact ⟨j + 1, _, _, by omega, by go_num, HM6, HI, Hb6⟩
      case measure => simp [intOf]; omega
    · obtain rfl : j = c := by omega
      obtain ⟨q, hq⟩ : ∃ q, q = (1 + j) / 8 := ⟨_, rfl⟩
      have hq4 : q ≤ 4 := by omega
      have hsl : (Ig.sm j r u).seals.length = q := by show (List.map _ (List.range ((1 + j) / 8))).length = q; simp [hq]
      have hdl : (Ig.sm j r u).digs.length = q := by show (List.map _ (List.range ((1 + j) / 8))).length = q; simp [hq]
      have hse : (Ig.sm j r u).seals = (List.range q).map (fun (i : Nat) => ((i : Int) + 1, Ig.sgt i)) := by rw [hq]; rfl
      have hop := Ig.sm_open j r u
      have hln := Ig.inv_len hI.out
      have HAt := fun W (hb : Below wr.heap.size wr W) => Lib.hid (atX (hm.out.below hb))
      have HSl := fun W (hb : Below wr.heap.size wr W) => Lib.hid (sealsX (hm.out.below hb) (by omega))
      have HDg := fun W (hb : Below wr.heap.size wr W) => Lib.hid (digsX (hm.out.below hb) (by omega))
      have HOp := fun W (hb : Below wr.heap.size wr W) => Lib.hid (openX (hm.out.below hb) (by omega))
      have HF := fun W => Lib.hid (first_any ((j : Int) + 1) W)
      have g1 : (1 + (j : Int) != (j : Int) + 1) = false := by simp; omega
      have g2 : ((q : Int) != ((j : Int) + 1) / 8) = false := by simp; omega
      have g3 : ((q : Int) != (q : Int)) = false := by simp
      have g4 : (((Ig.sm j r u).opn.length : Int) != ((j : Int) + 1) % 8 - (if (j : Int) + 1 < 8 then 1 else 0)) = false := by
        rw [hop, show 1 + (j : Int) = (j : Int) + 1 from by omega]; simp
      have g5 : 0 ≤ (if (j : Int) + 1 < 8 then (1 : Int) else 0) ∧ (if (j : Int) + 1 < 8 then (1 : Int) else 0) ≤ 1 := by split <;> omega
      obtain ⟨g5a, g5b⟩ := g5
      have Hse := Lib.hid hse
      have Hsl := Lib.hid hsl
      have Hdl := Lib.hid hdl
      clear hop hse hq hI HIN HST hsl hdl
      generalize (if (j : Int) + 1 < 8 then (1 : Int) else 0) = fv at *
      go_wp2_with fail
      refine (HSl _ (Below.refl _ _)).out.mono ?_
      rintro e w3 ⟨v3, rfl, hown3, hb3⟩
      obtain ⟨A3, c3, rfl, _, hr3⟩ := own_slice hown3
      rw [Hsl.out, Hse.out] at hr3
      rw [Hsl.out]
      have Hr3 := Lib.hid hr3
      have Hb3 := Lib.hid hb3
      have hs3 := hb3.size
      clear hown3 hr3 hb3
      go_wp2_with fail
      refine (HDg _ Hb3.out).out.mono ?_
      rintro e w4 ⟨v4, rfl, hown4, hb4⟩
      obtain ⟨A4, c4, rfl, _, _⟩ := own_slice hown4
      rw [Hdl.out]
      have Hr4 := Lib.hid ((Hr3.out.below hb4).more hb4.size)
      have Hb4 : Hid (Below wr.heap.size wr w4) := Hb3.out.trans (hb4.mono hs3)
      have hs4 := Hb4.out.size
      clear hown4 hb4 Hr3 Hb3
      go_wp2_with fail
      refine (HAt _ Hb4.out).out.mono ?_
      rintro e w' ⟨rfl, rfl⟩
      have hat : (Ig.sm j r u).at_ = 1 + (j : Int) := rfl
      rw [hat]
      clear hat
      go_wp2_with fail
      refine (HOp _ Hb4.out).out.mono ?_
      rintro e w5 ⟨v5, rfl, hown5, hb5⟩
      obtain ⟨A5, c5, rfl, _, _⟩ := own_slice hown5
      have Hr5 := Lib.hid ((Hr4.out.below hb5).more hb5.size)
      have Hb5 : Hid (Below wr.heap.size wr w5) := Hb4.out.trans (hb5.mono hs4)
      have hs5 := Hb5.out.size
      clear hown5 hb5 Hr4 Hb4
      generalize (Ig.sm j r u).opn.length = ol at *
      go_wp2_with fail
      refine (HF _).out.mono ?_
      rintro e w' ⟨rfl, rfl⟩
      clear HAt HSl HDg HOp HF hm
      have Hbw5 : Hid (Below w1.heap.size w1 w5) := hbw.out.trans (Hb5.out.mono hsw)
      have hs1' := Hbw5.out.size
      have HTx := Lib.hid (fun i (h : i < 4) => And.intro (Ig.sgt_get i h) (And.intro (sgt_size i h) (And.intro (Ig.sgp_len i) (Ig.sgp_head i))))
      have HFc : Hid (∀ i, i < q → ∃ b off, A3 = some ⟨b, off, none⟩ ∧ b < w5.heap.size ∧ w5.cell? ⟨b, off + i * 2, none⟩ = some (.int .i64 ((i : Int) + 1)) ∧ w5.cell? ⟨b, off + i * 2 + 1, none⟩ = some (.string (Ig.sgt i))) := fun i h => by
        obtain ⟨b, off, e, hb, hc⟩ := Hr5.out.2 (by omega)
        have hl : i < ((List.range q).map (fun (i : Nat) => ((i : Int) + 1, Ig.sgt i))).length := by simpa using h
        have hg : ((List.range q).map (fun (i : Nat) => ((i : Int) + 1, Ig.sgt i)))[i] = ((i : Int) + 1, Ig.sgt i) := by simp
        refine ⟨b, off, e, hb, ?_, ?_⟩
        · have := hc (i * 2 + 0) (.int .i64 ((i : Int) + 1)) (by rw [flat_at fileCells 2 (fun _ => rfl) _ i 0 hl (by omega), hg]; rfl)
          exact this
        · have := hc (i * 2 + 1) (.string (Ig.sgt i)) (by rw [flat_at fileCells 2 (fun _ => rfl) _ i 1 hl (by omega), hg]; rfl)
          rwa [← Nat.add_assoc] at this
      clear Hr5 Hb5 hbw
      go_wp2_with fail
      go_loopw [9, 10, 11, 12, 13] (fun i _ _ _ _ wr2 => ∃ k : Nat, k ≤ q ∧ i = .int .i64 (k : Int) ∧ Hid (Below w5.heap.size w5 wr2)) (fun i _ _ _ _ _ => q - (intOf i).toNat)
      case atStart => exact ⟨0, Nat.zero_le _, rfl, Lib.hid (Below.refl _ _)⟩
      case round =>
        obtain ⟨k, hk, rfl, hbw⟩ := hrel
        have hsw2 := hbw.out.size
        by_cases hlt : k < q
        · obtain ⟨b, off, rfl, hb, hc0, hc1⟩ := HFc.out k hlt
          have d0 := (hbw.out.cell (p := ⟨b, off + k * 2, none⟩) hb).trans hc0
          have d1 := (hbw.out.cell (p := ⟨b, off + k * 2 + 1, none⟩) hb).trans hc1
          obtain ⟨hgt, hsz, hln2, hhd⟩ := HTx.out k (by omega)
          have HG := Lib.hid (rsgget_any (Ig.sgt k) wr (by omega))
          rw [hgt] at HG
          clear hc0 hc1 hgt HTx
          generalize Ig.sgt k = tx at *
          go_wp2_with fail
          refine HG.out.mono ?_
          rintro e w6 ⟨v6, rfl, hown6, hb6⟩
          have hb6' : Below w5.heap.size w5 w6 := hbw.out.trans (hb6.mono hsw2)
          have d0' := (hb6.cell (p := ⟨b, off + k * 2, none⟩) (by show b < _; omega)).trans d0
          obtain ⟨A6, c6, rfl, _, hr6⟩ := own_slice hown6
          simp only at hr6
          obtain ⟨b6, o6, rfl, hb6b, hc6⟩ := hr6.2 (by rw [hln2]; split <;> omega)
          have y1 : w6.cell? ⟨b6, o6 + 1, none⟩ = some (.int .i64 ((8 * k - 1 : Nat) : Int)) := by
            obtain ⟨l, hl⟩ := hhd
            exact hc6 1 _ (by rw [hl]; rfl)
          have Hb6 := Lib.hid hb6'
          obtain ⟨f2, hf2⟩ : ∃ f2 : Int, (if (k : Int) = 0 then (1 : Int) else 0) = f2 := ⟨_, rfl⟩
          have HF2 := fun W => Lib.hid (first2_any (k : Int) W)
          rw [hf2] at HF2
          have hf01 : (0 ≤ f2 ∧ f2 ≤ 1) ∧ (k : Int) * 8 - 1 + f2 = ((8 * k - 1 : Nat) : Int) := by rw [← hf2]; split <;> omega
          obtain ⟨⟨f0, f1⟩, hT⟩ := hf01
          have x1 : IntKind.i64.wrap ((k : Int) * 8) = (k : Int) * 8 := IntWalk.i64_in _ (by omega)
          have x2 : IntKind.i64.wrap ((k : Int) * 8 - 1) = (k : Int) * 8 - 1 := IntWalk.i64_in _ (by omega)
          have x3 : IntKind.i64.wrap ((k : Int) * 8 - 1 + f2) = ((8 * k - 1 : Nat) : Int) := by rw [hT]; exact IntWalk.i64_in _ (by omega)
          have x4 : IntKind.i64.wrap ((k : Int) + 1) = (k : Int) + 1 := IntWalk.i64_in _ (by omega)
          have z1 : ((k : Int) + 1 != (k : Int) + 1) = false := by simp
          have k0 : (0 : Int) ≤ (k : Int) := by omega
          have k1 : (k : Int) < (q : Int) := by omega
          have hcs : (((k : Int) == 0) = true ∧ (Ig.sgp k).length = 7) ∨ (((k : Int) == 0) = false ∧ (Ig.sgp k).length = 8) := by
            by_cases h : k = 0
            · left; exact ⟨by simp [h], by rw [hln2, if_pos h]⟩
            · right; exact ⟨by simp; omega, by rw [hln2, if_neg h]⟩
          clear hf2 hT hc6 hr6 hown6 hb6 hhd hln2 HFc d0 d1 hbw hb6'
          generalize ((8 * k - 1 : Nat) : Int) = T at *
          have z2 : (T != T) = false := by simp
          rcases hcs with ⟨hz, hL⟩ | ⟨hz, hL⟩
          all_goals
            try simp only
            rw [hL]
            clear hL
            go_wp2_with fail
            go_quiet ((go_at_call 42; exact quiet_left (Hid.out (HF2 _))))
            go_wp2_with fail
            go_roundw
            case rel => exact ⟨k + 1, by omega, by go_num, below_drewN Hb6.out _⟩
            case measure => simp [intOf]; omega
        · clear HFc HTx
          go_wp2_with fail
          refine (errno_any _ _).mono ?_
          rintro e w' ⟨rfl, rfl⟩
          go_wp2_with fail
          go_ret
          exact ⟨rfl, Hb1.out.trans ((Hbw5.out.trans (hbw.out.mono hs1')).mono hs1)⟩
end Go.Proofs.Ytfopbkgbegeffaa
