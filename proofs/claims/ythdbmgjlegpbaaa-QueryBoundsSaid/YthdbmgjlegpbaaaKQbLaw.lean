/- The walk through QueryBounds. -/
import Derived.Test.YthdbmgjlegpbaaaK8
import Derived.Test.YthdbmgjlegpbaaaKQmRange
import Derived.Test.YthdbmgjlegpbaaaKQbP
import Derived.Test.YthdbmgjlegpbaaaK4
namespace Go.Proofs.Ythdbmgjlegpbaaa
open Go.RowKit
set_option linter.unusedVariables false

theorem bl_next (k : Nat) : (Qm.bl (k + 1)).flatMap pointCells = (Qm.bl k).flatMap pointCells ++ [.string ⟨#[115]⟩, .int .i64 (k : Int), .int .i64 (-(k : Int)), .string ⟨#[116]⟩, .int .i64 (k : Int), .int .i64 0] := by
  rw [Qm.bl, List.flatMap_append]; rfl
set_option maxRecDepth 100000 in
set_option maxHeartbeats 4000000 in
theorem queryBounds_walk {w : World} (a0 a1 a2 : Int) (w0 : (Lit.int .i64 a0).wf = true) (w1 : (Lit.int .i64 a1).wf = true) (w2 : (Lit.int .i64 a2).wf = true) :
    Calls Try.prog 12 #[.int .i64 a0, .int .i64 a1, .int .i64 a2] w fun e w' => e = .returned (.bool true) ∧ Below w.heap.size w w' := by
  obtain ⟨i0, hi, hz0, hz1, hz2⟩ := info_parts info_point
  clear w0 w1 w2
  obtain ⟨a, ha⟩ : ∃ a : Int, a0.tmod 40 = a := ⟨_, rfl⟩
  obtain ⟨b, hb⟩ : ∃ b : Int, a1.tmod 40 = b := ⟨_, rfl⟩
  obtain ⟨m, hm, hand⟩ := and_low a2 31 (by omega)
  rw [show ((31 : Nat) : Int) = 31 from rfl] at hand
  have hab : -40 < a ∧ a < 40 := by
    have h1 := Int.tmod_lt_of_pos a0 (show (0 : Int) < 40 by omega)
    have h2 := Int.lt_tmod_of_pos a0 (show (0 : Int) < 40 by omega)
    omega
  have hbb : -40 < b ∧ b < 40 := by
    have h1 := Int.tmod_lt_of_pos a1 (show (0 : Int) < 40 by omega)
    have h2 := Int.lt_tmod_of_pos a1 (show (0 : Int) < 40 by omega)
    omega
  go_enter Try.func12, Try.ntmps12
  go_wp2_with fail
  refine (awake15 _).mono ?_
  rintro e w1 ⟨rfl, hb1⟩
  have Hb1 := Lib.hid hb1
  have hs1 := hb1.size
  clear hb1
  go_wp2_with fail
  have Ha := Lib.hid ha
  have Hb := Lib.hid hb
  have Hand := Lib.hid hand
  clear ha hb hand
  go_loopw [8, 9] (fun v i wr => ∃ j : Nat, j ≤ m ∧ i = .int .i64 (j : Int) ∧ Hid (wr.ownsRow w1.heap.size 52 3 v (2 * j) ((Qm.bl j).flatMap pointCells)) ∧ Hid (Below w1.heap.size w1 wr)) (fun _ i _ => m - (intOf i).toNat)
  case atStart => exact ⟨0, Nat.zero_le _, rfl, Lib.hid (own_nil _ _ _ _), Lib.hid (Below.refl _ _)⟩
  case round =>
    obtain ⟨j, hj, rfl, hown, hbw⟩ := hrel
    have hsw := hbw.out.size
    by_cases hlt : j < m
    · have hjI : (j : Int) < (m : Int) := by omega
      go_wp2_with (at_builtin; refine wpList_pushes _ rfl _ _ 38 rfl w1.heap.size 52 i0 _ 3 32 Try.underlying38 hi hz0 hz1 hz2 rfl (by decide) _ (2 * j) _ (by rfl) hown.out 2 [.string ⟨#[115]⟩, .int .i64 (j : Int), .int .i64 (-(j : Int)), .string ⟨#[116]⟩, .int .i64 (j : Int), .int .i64 0] (by rfl) rfl (by simp [Value.oneCell']) (by unfold maxLen; omega) (by omega) w1 hbw.out hsw ?_; intro v8 w8 hown8 hb8)
      have Hown8 : Hid (w8.ownsRow w1.heap.size 52 3 v8 (2 * (j + 1)) ((Qm.bl (j + 1)).flatMap pointCells)) := by
        show World.ownsRow _ _ _ _ _ _ _
        rw [bl_next]; exact hown8
      have Hb8 := Lib.hid hb8
      clear hown8 hb8
      go_roundw
      case rel => exact ⟨j + 1, by omega, by go_num, Hown8, Hb8⟩
      case measure => simp [intOf]; omega
    · obtain rfl : j = m := by omega
      obtain ⟨A8, c8, rfl, _, hr8⟩ := own_slice hown.out
      have HX : Hid (Calls Try.prog 32 #[.slice none 0 0, .slice A8 (2 * j) c8, .string ⟨#[115]⟩, .int .i64 a, .int .i64 b] wr (RangePost wr ((Qm.bE a b j).map Qm.bpt, 0))) := by
        have h := range_any none 0 [] (A8, c8, Qm.bl j) Qm.bS a b wr wr.heap.size Reads.none_ (Nat.le_refl _) (by decide) (fun s hs => by cases hs) (by dsimp only; rw [Qm.bl_len]; exact hr8) (by simp [Qm.bl_len]; omega)
        have e : Qm.rangeR [] (Qm.bl j) Qm.bS a b = ((Qm.bE a b j).map Qm.bpt, 0) := by
          unfold Qm.rangeR
          rw [if_pos (by rfl)]
          show (Qm.mergeP [] (Qm.keepL (Qm.gone Qm.bS a b) (Qm.bl j)), _) = _
          rw [Qm.b_range]
        dsimp only at h
        rw [e] at h
        unfold layV at h
        dsimp only at h
        rw [Qm.bl_len] at h
        exact h
      have ha := Ha.out
      have hb := Hb.out
      have hand := Hand.out
      clear hown hr8
      go_wp2_with fail
      refine HX.out.mono ?_
      rintro e w4 ⟨v4, rfl, hown4, hb4⟩
      dsimp only at hown4 ⊢
      have Hw4 : Hid (Below w.heap.size w w4) := (Hb1.out.trans (hbw.out.mono hs1)).trans (hb4.mono (by omega))
      obtain ⟨lo, hlo, hlo2⟩ : ∃ lo : Nat, max a 0 = (lo : Int) ∧ ((lo : Int) ≤ a ∨ lo = 0) := ⟨(max a 0).toNat, by omega, by omega⟩
      have hlo3 : a ≤ (lo : Int) ∧ lo < 40 := by omega
      obtain ⟨A4, c4, rfl, _, hr4⟩ := own_slice hown4
      have Hr4 := Lib.hid hr4
      obtain ⟨E, hE⟩ : ∃ E, E = (Qm.bE a b j).map Qm.bpt := ⟨_, rfl⟩
      rw [← hE] at Hr4
      have HE := Lib.hid hE
      have hEl : ((Qm.bE a b j).map Qm.bpt).length = E.length := by rw [hE]
      have HEl := Lib.hid hEl
      rw [hEl]
      have Hst : Hid ((Qm.bE a b (min lo j)).length = 0) := Qm.b_start (by omega)
      clear hown4 hb4 hr4 hE hEl HX ha hb hand hlo2
      go_wp2_with fail
      go_loopw [14, 15] (fun c t wr => ∃ t' c' : Nat, lo ≤ t' ∧ t' ≤ 100 ∧ c = .int .i64 (c' : Int) ∧ t = .int .i64 (t' : Int) ∧ Hid (c' = (Qm.bE a b (min t' j)).length) ∧ Hid (Below w4.heap.size w4 wr)) (fun _ t _ => 100 - (intOf t).toNat)
      case atStart => exact ⟨lo, 0, Nat.le_refl _, by omega, rfl, rfl, Lib.hid Hst.out.symm, Lib.hid (Below.refl _ _)⟩
      case round =>
        clear Hst hlo hbw
        obtain ⟨t, k, hlt', ht100, rfl, rfl, hk, hbw2⟩ := hrel
        by_cases h1 : (t : Int) ≤ b
        · by_cases h2 : t < j
          · have hp : Qm.bP a b t = true := by
              unfold Qm.bP
              rw [decide_eq_true (show a ≤ (t : Int) by omega), decide_eq_true h1]; rfl
            have hat := Qm.b_at h2 hp
            have hmin : min t j = t := by omega
            rw [hmin] at hk
            have hkn := hk.out
            rw [← hkn, ← HE.out] at hat
            obtain ⟨hkl, hke⟩ := List.getElem?_eq_some_iff.1 hat
            have HK : Hid (k + 1 = (Qm.bE a b (min (t + 1) j)).length) := by
              show _ = _
              rw [show min (t + 1) j = t + 1 from by omega, Qm.b_next hp, hkn]
            obtain ⟨bb, off, rfl, hbl, hc⟩ := Hr4.out.2 (by omega)
            have hcp := pt_cells (wr := wr) hkl hc (fun p hp => hbw2.out.cell (p := p) hp) hbl
            rw [hke] at hcp
            dsimp only [Qm.bpt, Qm.bS] at hcp
            obtain ⟨q0, q1, q2⟩ := hcp
            have h2I : (t : Int) < (j : Int) := by omega
            have hkI : (k : Int) < (E.length : Int) := by omega
            have hkb : k ≤ 100 := by
              have := List.length_filter_le (Qm.bP a b) (List.range t)
              rw [List.length_range] at this
              rw [hkn]; unfold Qm.bE; omega
            clear hat hke hc hk hkn hp
            go_wp2_with fail
            go_roundw
            case rel => exact ⟨t + 1, k + 1, by omega, by omega, by go_num, by go_num, HK, hbw2⟩
            case measure => simp [intOf]; omega
          · have h2I : ¬ (t : Int) < (j : Int) := by omega
            have hmin : min t j = j := by omega
            rw [hmin] at hk
            have hkE : k = E.length := by rw [hk.out, ← HEl.out, List.length_map]
            subst hkE
            have hs4 := Hw4.out.size
            clear hk
            go_wp2_with fail
            refine (errno_any _ _).mono ?_
            rintro e w6 ⟨rfl, rfl⟩
            go_wp2_with fail
            go_ret
            exact ⟨rfl, Hw4.out.trans (hbw2.out.mono (by omega))⟩
        · have hkE : k = E.length := by
            rw [hk.out, ← HEl.out]
            by_cases h2 : t ≤ j
            · rw [show min t j = t from by omega]
              exact Qm.b_end (by omega) h2
            · rw [show min t j = j from by omega, List.length_map]
          subst hkE
          have hs4 := Hw4.out.size
          clear hk
          go_wp2_with fail
          refine (errno_any _ _).mono ?_
          rintro e w6 ⟨rfl, rfl⟩
          go_wp2_with fail
          go_ret
          exact ⟨rfl, Hw4.out.trans (hbw2.out.mono (by omega))⟩
end Go.Proofs.Ythdbmgjlegpbaaa
