/- The walk through SegmentRows. -/
import Derived.Test.YthpnhodpfhagaaaSgLaws2
import Derived.Test.YthpnhodpfhagaaaOwnSet
namespace Go.Proofs.Ythpnhodpfhagaaa
open Go.RowKit
set_option linter.unusedVariables false

def Sg.rowP (i : Nat) : Pt.Point := (⟨#[115]⟩, (i : Int), -(i : Int))
def Sg.rows (k : Nat) : List Pt.Point := (List.range k).map Sg.rowP
theorem rows_len (k : Nat) : (Sg.rows k).length = k := by simp [Sg.rows]
theorem rows_snoc (k : Nat) : Sg.rows (k + 1) = Sg.rows k ++ [Sg.rowP k] := by simp [Sg.rows, List.range_succ]
theorem rows_at (k i : Nat) (h : i < (Sg.rows k).length) : (Sg.rows k)[i] = Sg.rowP i := by simp [Sg.rows]
theorem rowP_may (i : Nat) (h : i ≤ 64) : Pt.mayB (Sg.rowP i) = true := by
  unfold Pt.mayB
  have h1 : Pt.nameB (Sg.rowP i).1 = true := by show Pt.nameB ⟨#[115]⟩ = true; decide +kernel
  have h2 : Pt.smallB (Sg.rowP i).2.1 = true := (Pt.smallB_iff _).2 (by show -2147483648 ≤ (i : Int) ∧ (i : Int) ≤ 2147483647; omega)
  have h3 : Pt.smallB (Sg.rowP i).2.2 = true := (Pt.smallB_iff _).2 (by show -2147483648 ≤ -(i : Int) ∧ -(i : Int) ≤ 2147483647; omega)
  rw [h1, h2, h3]; rfl
theorem rowP_wf (i : Nat) (h : i ≤ 128) (t : Int) (ht : 0 ≤ t ∧ t ≤ 1000) : Pt.wf ((⟨#[115]⟩ : ByteArray), t, -(i : Int)) := by
  unfold Pt.wf; simp only; omega
theorem less_s (t u a b : Int) : Pt.lessB ((⟨#[115]⟩ : ByteArray), t, a) ((⟨#[115]⟩ : ByteArray), u, b) = decide (t < u) := by
  rw [less_ref]; simp
theorem rows_rise (k : Nat) (h : k ≤ 64) : Sg.riseB (Sg.rows k) = true := by
  unfold Sg.riseB
  rw [rows_len, decide_eq_true h, Bool.true_and, List.all_eq_true]
  intro i hi
  rw [List.mem_range] at hi
  have hi' : i < (Sg.rows k).length := by rw [rows_len]; exact hi
  rw [okAt_eq hi', rows_at, rowP_may i (by omega), Bool.true_and]
  by_cases h0 : i = 0
  · simp [h0]
  · rw [getD_lt (by omega), rows_at, Bool.or_eq_true]
    right
    unfold Sg.rowP
    rw [less_s]
    exact decide_eq_true (by omega)
theorem rows_many (k : Nat) (h : 64 < k) : Sg.riseB (Sg.rows k) = false := by
  unfold Sg.riseB
  rw [rows_len, decide_eq_false (by omega), Bool.false_and]
theorem rows_swap (k i : Nat) (hi : i + 1 < k) (t v : Int) (ht : (i : Int) + 1 ≤ t) : Sg.riseB ((Sg.rows k).set i ((⟨#[115]⟩ : ByteArray), t, v)) = false := by
  have hl : i + 1 < ((Sg.rows k).set i ((⟨#[115]⟩ : ByteArray), t, v)).length := by rw [List.length_set, rows_len]; exact hi
  refine range_stop hl ?_
  have hl2 : i < (Sg.rows k).length := by rw [rows_len]; omega
  rw [okAt_eq hl, List.getElem_set_ne (by omega), rows_at, Nat.add_sub_cancel, getD_lt (by rw [List.length_set]; exact hl2), List.getElem_set_self, decide_eq_false (by omega : ¬ i + 1 = 0), Bool.false_or]
  have : Pt.lessB ((⟨#[115]⟩ : ByteArray), t, v) (Sg.rowP (i + 1)) = false := by
    unfold Sg.rowP; rw [less_s]; exact decide_eq_false (by omega)
  rw [this, Bool.and_false]
theorem rows_cell (k i : Nat) (h : i < k) : ((Sg.rows k).flatMap pointCells)[i * 3 + 1]? = some (.int .i64 (i : Int)) := by
  have hl : i < (Sg.rows k).length := by rw [rows_len]; exact h
  rw [flat_at pointCells 3 (fun _ => rfl) _ i 1 hl (by omega), rows_at]; rfl
theorem rows_set (k i : Nat) (h : i < k) (t : Int) : ((Sg.rows k).flatMap pointCells).set (i * 3 + 1) (.int .i64 t) = ((Sg.rows k).set i ((⟨#[115]⟩ : ByteArray), t, -(i : Int))).flatMap pointCells := by
  have hl : i < (Sg.rows k).length := by rw [rows_len]; exact h
  exact flat_set pointCells 3 (fun _ => rfl) _ i 1 _ _ hl (by omega) (by rw [rows_at]; rfl)
theorem rows_set2 (k i : Nat) (h : i < k) (t u : Int) : (((Sg.rows k).set i ((⟨#[115]⟩ : ByteArray), t, -(i : Int))).flatMap pointCells).set (i * 3 + 1) (.int .i64 u) = ((Sg.rows k).set i ((⟨#[115]⟩ : ByteArray), u, -(i : Int))).flatMap pointCells := by
  have hl : i < ((Sg.rows k).set i ((⟨#[115]⟩ : ByteArray), t, -(i : Int))).length := by rw [List.length_set, rows_len]; exact h
  rw [flat_set pointCells 3 (fun _ => rfl) _ i 1 ((⟨#[115]⟩ : ByteArray), u, -(i : Int)) _ hl (by omega) (by rw [List.getElem_set_self]; rfl), List.set_set]
theorem rows_cell2 (k i : Nat) (h : i + 1 < k) (t : Int) : (((Sg.rows k).set i ((⟨#[115]⟩ : ByteArray), t, -(i : Int))).flatMap pointCells)[(i + 1) * 3 + 1]? = some (.int .i64 ((i : Int) + 1)) := by
  have hl : i + 1 < ((Sg.rows k).set i ((⟨#[115]⟩ : ByteArray), t, -(i : Int))).length := by rw [List.length_set, rows_len]; exact h
  rw [flat_at pointCells 3 (fun _ => rfl) _ (i + 1) 1 hl (by omega), List.getElem_set_ne (by omega), rows_at]; rfl
theorem rows_wf (k : Nat) (h : k ≤ 128) : ∀ p ∈ Sg.rows k, Pt.wf p := by
  intro p hp
  unfold Sg.rows at hp
  rw [List.mem_map] at hp
  obtain ⟨i, hi, rfl⟩ := hp
  rw [List.mem_range] at hi
  exact rowP_wf i (by omega) _ (by omega)
theorem rows_wf_set (k i : Nat) (h : k ≤ 128) (hi : i < k) (t : Int) (ht : 0 ≤ t ∧ t ≤ 1000) : ∀ p ∈ (Sg.rows k).set i ((⟨#[115]⟩ : ByteArray), t, -(i : Int)), Pt.wf p := by
  intro p hp
  rcases List.mem_or_eq_of_mem_set hp with hp | rfl
  · exact rows_wf k h p hp
  · exact rowP_wf i (by omega) t ht
theorem put_swap (j q g c base : Nat) (t : Int) (W : World) (hj : j ≤ 64) (hq : q + 1 < j) (ht : (q : Int) + 1 ≤ t ∧ t ≤ 1000) (ho : W.ownsRow base 70 3 (.slice (some ⟨g, 0, none⟩) j c) j (((Sg.rows j).set q ((⟨#[115]⟩ : ByteArray), t, -(q : Int))).flatMap pointCells)) :
    Calls Try.prog 34 #[.int .i64 1, .slice (some ⟨g, 0, none⟩) j c] W fun e w' => e = .returned (.tuple #[.string ⟨#[]⟩, .int .i64 1300]) ∧ Below W.heap.size W w' := by
  have hl : ((Sg.rows j).set q ((⟨#[115]⟩ : ByteArray), t, -(q : Int))).length = j := by rw [List.length_set, rows_len]
  have h := sgput_any 1 (some ⟨g, 0, none⟩) c ((Sg.rows j).set q ((⟨#[115]⟩ : ByteArray), t, -(q : Int))) W W.heap.size (by rw [hl]; exact Reads.of_own ho) (Nat.le_refl _) (by omega) (rows_wf_set j q (by omega) (by omega) t (by omega))
  rw [hl, putR_form (by omega) (rows_swap j q hq t _ ht.1)] at h
  exact h
set_option maxRecDepth 100000 in
set_option maxHeartbeats 2000000 in
theorem segmentRows_walk (a0 a1 : Int) (w0 : (Lit.int .i64 a0).wf = true) (w1 : (Lit.int .i64 a1).wf = true) (w : World) :
    Calls Try.prog 12 #[.int .i64 a0, .int .i64 a1] w fun e w' => e = .returned (.bool true) ∧ Below w.heap.size w w' := by
  obtain ⟨i0, hi, hz0, hz1, hz2⟩ := info_parts info_point
  obtain ⟨k, hk, hpick⟩ := and_low a0 127 (by omega)
  rw [show ((127 : Nat) : Int) = 127 from rfl] at hpick
  clear w0 w1
  go_enter Try.func12, Try.ntmps12
  go_wp2_with fail
  refine (awake13 _).mono ?_
  rintro e w1 ⟨rfl, hb1⟩
  have Hb1 := Lib.hid hb1
  have hs1 := hb1.size
  clear hb1
  go_wp2_with fail
  try simp only [hpick]
  clear hpick
  go_loopw [6, 7] (fun v i wr => ∃ j : Nat, j ≤ k ∧ i = .int .i64 (j : Int) ∧ Hid (wr.ownsRow w1.heap.size 70 3 v j ((Sg.rows j).flatMap pointCells)) ∧ Hid (Below w1.heap.size w1 wr)) (fun _ i _ => k - (intOf i).toNat)
  case atStart => exact ⟨0, Nat.zero_le _, rfl, Lib.hid (own_nil _ _ _ _), Lib.hid (Below.refl _ _)⟩
  case round =>
    obtain ⟨j, hj, rfl, hown, hbw⟩ := hrel
    have hsw := hbw.out.size
    by_cases hlt : j < k
    · go_wp2_with (at_builtin; refine wpList_push _ rfl _ _ 52 rfl w1.heap.size 70 i0 _ 3 32 Try.underlying52 hi hz0 hz1 hz2 rfl (by decide) _ j _ (by rfl) hown.out [.string ⟨#[115]⟩, .int .i64 (j : Int), .int .i64 (-(j : Int))] (by rfl) rfl (by simp [Value.oneCell']) (by unfold maxLen; omega) (by omega) w1 hbw.out hsw ?_; intro v8 w8 hown8 hb8)
      have Hown8 : Hid (w8.ownsRow w1.heap.size 70 3 v8 (j + 1) ((Sg.rows (j + 1)).flatMap pointCells)) := by
        show World.ownsRow _ _ _ _ _ _ _
        rw [rows_snoc, List.flatMap_append]; exact hown8
      have Hb8 := Lib.hid hb8
      clear hown8 hb8 hown hbw
      go_wp2_with fail
      go_roundw
      case rel => exact ⟨j + 1, by omega, by go_num, Hown8, Hb8⟩
      case measure => simp [intOf]; omega
    · obtain rfl : j = k := by omega
      obtain ⟨A, c, rfl, hnc, hrd⟩ := own_slice hown.out
      have hjl := rows_len j
      have hwf := rows_wf j (by omega)
      have HP := sgput_any 1 A c (Sg.rows j) wr wr.heap.size (by rw [hjl]; exact hrd) (Nat.le_refl _) (by omega) hwf
      rw [hjl] at HP
      have Hrd := Lib.hid hrd
      clear hrd hwf
      by_cases h64 : 64 < j
      · rw [putR_form (by omega) (rows_many j h64)] at HP
        have HP' := Lib.hid HP
        clear HP hjl Hrd
        go_wp2_with fail
        refine HP'.out.mono ?_
        rintro e w2 ⟨rfl, hb2⟩
        have Hb2 : Hid (Below w.heap.size w w2) := Hb1.out.trans ((hbw.out.trans (hb2.mono hsw)).mono hs1)
        clear hb2
        simp only
        go_wp2_with fail
        refine (errno_any _ _).mono ?_
        rintro e w' ⟨rfl, rfl⟩
        go_wp2_with fail
        go_ret
        exact ⟨rfl, Hb2.out⟩
      · have hp := rows_rise j (by omega)
        rw [putR_good (by omega) hp] at HP
        have hfs : (Sg.fileB (Sg.bodyB 1 (Sg.rows j))).size ≤ 5000 := by rw [file_size]; have := body_le (r := 1) hp; omega
        have HG := fun W => sgget_any (Sg.fileB (Sg.bodyB 1 (Sg.rows j))) W (by omega)
        rw [get_file (by omega) hp] at HG
        generalize Sg.fileB (Sg.bodyB 1 (Sg.rows j)) = S at *
        have HP' := Lib.hid HP
        have HG' := fun W => Lib.hid (HG W)
        have HSm := fun A3 c3 W b1 b2 h1 h2 => Lib.hid (samePoints_true A3 A c3 c (Sg.rows j) W b1 b2 h1 h2 (by omega))
        rw [hjl] at HSm
        have Hjl := Lib.hid hjl
        clear HP HG hp hjl
        go_wp2_with fail
        refine HP'.out.mono ?_
        rintro e w2 ⟨rfl, hb2⟩
        have Hb2 := Lib.hid hb2
        have hs2 := hb2.size
        clear hb2
        simp only
        go_wp2_with fail
        refine (HG' _).out.mono ?_
        rintro e w3 ⟨v3, rfl, hown3, hb3⟩
        simp only at hown3
        rw [Hjl.out] at hown3
        obtain ⟨A3, c3, rfl, hnc3, hrd3⟩ := own_slice hown3
        have Hrd3 := Lib.hid hrd3
        have Hb3 : Hid (Below wr.heap.size wr w3) := Hb2.out.trans (hb3.mono hs2)
        have hs3 := Hb3.out.size
        clear hown3 hrd3 hb3
        simp only
        go_wp2_with fail
        refine (errno_any _ _).mono ?_
        rintro e w' ⟨rfl, rfl⟩
        go_wp2_with fail
        refine (errno_any _ _).mono ?_
        rintro e w' ⟨rfl, rfl⟩
        go_wp2_with fail
        refine (HSm A3 c3 w3 w3.heap.size wr.heap.size Hrd3.out (Hrd.out.below Hb3.out)).out.mono ?_
        rintro e w8 ⟨rfl, n8, rfl⟩
        by_cases h2 : j < 2
        · go_wp2_with fail
          go_ret
          exact ⟨rfl, below_drewN (Hb1.out.trans ((hbw.out.trans (Hb3.out.mono hsw)).mono hs1)) _⟩
        · obtain ⟨q, hq, hq1⟩ := pick_of a1 (j - 1) (by omega) (by omega)
          rw [show ((j - 1 : Nat) : Int) = (j : Int) - 1 from by omega] at hq1
          obtain ⟨g, rfl, hg1, hg2⟩ := own_some hown.out (by omega)
          have hO := own_only hown.out (Only.new (fun _ => False) (below_drewN Hb3.out n8)) (fun _ _ h => h)
          have hc1 : (w3.drewN n8).cell? ⟨g, (q + 1) * 3 + 1, none⟩ = some (.int .i64 ((q : Int) + 1)) := own_cell hO (rows_cell j (q + 1) (by omega))
          have hc0 : (w3.drewN n8).cell? ⟨g, q * 3 + 1, none⟩ = some (.int .i64 (q : Int)) := own_cell hO (rows_cell j q (by omega))
          have hf0 : (w3.drewN n8).frozen? ⟨g, q * 3 + 1, none⟩ = false := own_frozen hO _
          have hO1 := own_set hO (q * 3 + 1) (.int .i64 ((q : Int) + 1))
          rw [rows_set j q (by omega)] at hO1
          have HO1 := Lib.hid hO1
          have HP1 := Lib.hid (put_swap j q g c _ _ _ (by omega) (by omega) (by omega) hO1)
          have Hb3' : Hid (Below w1.heap.size w1 ((w3.drewN n8).setCell ⟨g, q * 3 + 1, none⟩ (.int .i64 ((q : Int) + 1)))) := Below.setCell (below_drewN (hbw.out.trans (Hb3.out.mono hsw)) n8) hg1 _
          clear hO hO1
          go_wp2_with fail
          generalize (w3.drewN n8).setCell ⟨g, q * 3 + 1, none⟩ (.int .i64 ((q : Int) + 1)) = w4 at *
          refine HP1.out.mono ?_
          rintro e w5 ⟨rfl, hb5⟩
          have hO := own_only HO1.out (Only.new (fun _ => False) hb5) (fun _ _ h => h)
          have Hb5 : Hid (Below w1.heap.size w1 w5) := Hb3'.out.trans (hb5.mono Hb3'.out.size)
          clear hb5 hc0 hc1 hf0
          have hc1 : w5.cell? ⟨g, (q + 1) * 3 + 1, none⟩ = some (.int .i64 ((q : Int) + 1)) := own_cell hO (rows_cell2 j q (by omega) _)
          have hc0 : w5.cell? ⟨g, q * 3 + 1, none⟩ = some (.int .i64 ((q : Int) + 1)) := own_cell hO (by
            have hl : q < ((Sg.rows j).set q ((⟨#[115]⟩ : ByteArray), (q : Int) + 1, -(q : Int))).length := by rw [List.length_set, rows_len]; omega
            rw [flat_at pointCells 3 (fun _ => rfl) _ q 1 hl (by omega), List.getElem_set_self]; rfl)
          have hf0 : w5.frozen? ⟨g, q * 3 + 1, none⟩ = false := own_frozen hO _
          have hO2 := own_set hO (q * 3 + 1) (.int .i64 ((q : Int) + 1 + 1))
          rw [rows_set2 j q (by omega)] at hO2
          have HP2 := Lib.hid (put_swap j q g c _ _ _ (by omega) (by omega) (by omega) hO2)
          have Hb6 : Hid (Below w1.heap.size w1 (w5.setCell ⟨g, q * 3 + 1, none⟩ (.int .i64 ((q : Int) + 1 + 1)))) := Below.setCell Hb5.out hg1 _
          clear hO hO2 HP1 HO1
          go_wp2_with fail
          generalize w5.setCell ⟨g, q * 3 + 1, none⟩ (.int .i64 ((q : Int) + 1 + 1)) = w6 at *
          refine HP2.out.mono ?_
          rintro e w7 ⟨rfl, hb7⟩
          have Hb7 : Hid (Below w1.heap.size w1 w7) := Hb6.out.trans (hb7.mono Hb6.out.size)
          clear hb7 hc0 hc1 hf0
          go_wp2_with fail
          refine (errno_any _ _).mono ?_
          rintro e w' ⟨rfl, rfl⟩
          go_wp2_with fail
          refine (errno_any _ _).mono ?_
          rintro e w' ⟨rfl, rfl⟩
          go_wp2_with fail
          go_ret
          exact ⟨rfl, Hb1.out.trans (Hb7.out.mono hs1)⟩
end Go.Proofs.Ythpnhodpfhagaaa
