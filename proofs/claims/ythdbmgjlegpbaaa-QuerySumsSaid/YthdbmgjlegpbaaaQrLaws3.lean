/- The walk through QuerySums. -/
import Derived.Test.YthdbmgjlegpbaaaQrLaws2
import Derived.Test.YthdbmgjlegpbaaaQrSums
namespace Go.Proofs.Ythdbmgjlegpbaaa
open Go.RowKit
set_option linter.unusedVariables false

theorem sumI_wf {k : Nat} {ps : List Pt.Point} {S L M : Int} (h : Qr.SumI k ps S L M) (hk : k ≤ 200) : ∀ p ∈ ps, Pt.wf p := by
  intro p hp
  have h1 := (Pt.smallB_iff _).1 (h.small p hp)
  obtain ⟨j, hj, rfl⟩ := List.getElem_of_mem hp
  have ht := h.time j (by have := h.len; omega)
  rw [Qr.getD_lt hj] at ht
  have := h.len
  exact ⟨by omega, by omega⟩

set_option maxRecDepth 100000 in
set_option maxHeartbeats 4000000 in
theorem querySums_walk {w : World} (A0 : Option Addr) (c0 : Nat) (z0 : List Int) (rd0 : Reads w w.heap.size 1 A0 z0.length (z0.map (Value.int .i64))) (wf0 : ∀ n ∈ z0, (Lit.int .i64 n).wf = true) (nb0 : z0.length * 8 ≤ 140737488351232) :
    Calls Try.prog 6 #[.slice A0 z0.length c0] w fun e w' => e = .returned (.bool true) ∧ Below w.heap.size w w' := by
  obtain ⟨i0, hi, hz0, hz1, hz2⟩ := info_parts info_point
  have Hr0 := Lib.hid rd0
  clear rd0 wf0
  go_enter Try.func6, Try.ntmps6
  go_wp2_with fail
  refine (awake15 _).mono ?_
  rintro e w1 ⟨rfl, hb1⟩
  have Hb1 := Lib.hid hb1
  clear hb1
  go_wp2_with fail
  go_loopw [3, 4, 5, 6, 7, 8] (fun vp vs vl vm i _ wr => ∃ (k : Nat) (ps : List Pt.Point) (S L M : Int), k ≤ z0.length ∧ k ≤ 200 ∧ i = .int .i64 (k : Int) ∧ vs = .int .i64 S ∧ vl = .int .i64 L ∧ vm = .int .i64 M ∧ Hid (Qr.SumI k ps S L M) ∧ (-2147483648 * (k : Int) ≤ S ∧ S ≤ 2147483648 * (k : Int)) ∧ Hid (wr.ownsRow w.heap.size 52 3 vp ps.length (ps.flatMap pointCells)) ∧ Hid (Below w.heap.size w wr)) (fun _ _ _ _ i _ _ => z0.length - (intOf i).toNat)
  case atStart => exact ⟨0, [], 0, 0, 0, Nat.zero_le _, by omega, rfl, rfl, rfl, rfl, Lib.hid Qr.sumI_start, by omega, Lib.hid (own_nil _ _ _ _), Hb1⟩
  case round =>
    obtain ⟨k, ps, S, L, M, hk, hk2, rfl, rfl, rfl, rfl, hI, hSb, hown, hbw⟩ := hrel
    have hsw := hbw.out.size
    have hpl := Lib.hid hI.out.len
    by_cases hlt : k < z0.length ∧ k < 200
    · obtain ⟨hl1, hl2⟩ := hlt
      obtain ⟨bb, off, rfl, hbb, hc⟩ := Hr0.out.2 (by omega)
      have hcell : wr.cell? ⟨bb, off + k, none⟩ = some (.int .i64 z0[k]) := (hbw.out.cell (p := ⟨bb, off + k, none⟩) hbb).trans (hc k _ (by simp [hl1]))
      have h1 := Int.tmod_lt_of_pos z0[k] (show (0 : Int) < 2147483648 by omega)
      have h2 := Int.lt_tmod_of_pos z0[k] (show (0 : Int) < 2147483648 by omega)
      have hd : decide ((k : Int) < 200) = true := decide_eq_true (by omega)
      clear hc
      generalize z0[k] = z at *
      obtain ⟨v, hv⟩ : ∃ v, v = z.tmod 2147483648 := ⟨_, rfl⟩
      rw [← hv] at h1 h2
      have hv' : z.tmod 2147483648 = v := hv.symm
      clear hv
      have hvb : -2147483648 ≤ v ∧ v ≤ 2147483647 := by omega
      have hSn1 : -2147483648 * ((k : Int) + 1) ≤ S + v ∧ S + v ≤ 2147483648 * ((k : Int) + 1) := by omega
      have HStep := Lib.hid (fun L' M' hL hM => Qr.sumI_step hI.out ⟨#[115]⟩ v hvb L' M' hL hM)
      have hcase : (((k : Int) == 0) = true ∧ k = 0) ∨ (((k : Int) == 0) = false ∧ k ≠ 0 ∧ v < L ∧ M < v) ∨ (((k : Int) == 0) = false ∧ k ≠ 0 ∧ v < L ∧ ¬ M < v) ∨ (((k : Int) == 0) = false ∧ k ≠ 0 ∧ ¬ v < L ∧ M < v) ∨ (((k : Int) == 0) = false ∧ k ≠ 0 ∧ ¬ v < L ∧ ¬ M < v) := by
        by_cases h0 : k = 0
        · exact .inl ⟨by simp [h0], h0⟩
        · have hz : ((k : Int) == 0) = false := beq_eq_false_iff_ne.2 (by omega)
          by_cases hL : v < L <;> by_cases hM : M < v
          · exact .inr (.inl ⟨hz, h0, hL, hM⟩)
          · exact .inr (.inr (.inl ⟨hz, h0, hL, hM⟩))
          · exact .inr (.inr (.inr (.inl ⟨hz, h0, hL, hM⟩)))
          · exact .inr (.inr (.inr (.inr ⟨hz, h0, hL, hM⟩)))
      clear hI
      rcases hcase with ⟨hz, h0⟩ | ⟨hz, h0, hL, hM⟩ | ⟨hz, h0, hL, hM⟩ | ⟨hz, h0, hL, hM⟩ | ⟨hz, h0, hL, hM⟩
      case inl =>
        have HN := Lib.hid (HStep.out v v (by rw [if_pos (.inl h0)]) (by rw [if_pos (.inl h0)]))
        clear HStep h0
        go_wp2_with (at_builtin; refine wpList_push _ rfl _ _ 38 rfl w.heap.size 52 i0 _ 3 32 Try.underlying38 hi hz0 hz1 hz2 rfl (by decide) _ ps.length _ (by rfl) hown.out [.string ⟨#[115]⟩, .int .i64 (k : Int), .int .i64 v] (by rfl) rfl (by simp [Value.oneCell']) (by have := hpl.out; unfold maxLen; omega) (by have := hpl.out; omega) w hbw.out hsw ?_; intro v8 w8 hown8 hb8)
        have Hown8 : Hid (w8.ownsRow w.heap.size 52 3 v8 (ps ++ [((⟨#[115]⟩ : ByteArray), (k : Int), v)]).length ((ps ++ [((⟨#[115]⟩ : ByteArray), (k : Int), v)]).flatMap pointCells)) := by
          show World.ownsRow _ _ _ _ _ _ _
          rw [List.length_append, List.flatMap_append]; exact hown8
        have Hb8 := Lib.hid hb8
        clear hown8 hb8
        go_roundw
        case rel => exact ⟨k + 1, _, S + v, _, _, by omega, by omega, by go_num, by go_num, rfl, rfl, HN, by omega, Hown8, Hb8⟩
        case measure => simp [intOf]; omega
      case inr.inl =>
        have HN := Lib.hid (HStep.out v v (by rw [if_pos (.inr hL)]) (by rw [if_pos (.inr hM)]))
        clear HStep h0
        go_wp2_with (at_builtin; refine wpList_push _ rfl _ _ 38 rfl w.heap.size 52 i0 _ 3 32 Try.underlying38 hi hz0 hz1 hz2 rfl (by decide) _ ps.length _ (by rfl) hown.out [.string ⟨#[115]⟩, .int .i64 (k : Int), .int .i64 v] (by rfl) rfl (by simp [Value.oneCell']) (by have := hpl.out; unfold maxLen; omega) (by have := hpl.out; omega) w hbw.out hsw ?_; intro v8 w8 hown8 hb8)
        have Hown8 : Hid (w8.ownsRow w.heap.size 52 3 v8 (ps ++ [((⟨#[115]⟩ : ByteArray), (k : Int), v)]).length ((ps ++ [((⟨#[115]⟩ : ByteArray), (k : Int), v)]).flatMap pointCells)) := by
          show World.ownsRow _ _ _ _ _ _ _
          rw [List.length_append, List.flatMap_append]; exact hown8
        have Hb8 := Lib.hid hb8
        clear hown8 hb8
        go_roundw
        case rel => exact ⟨k + 1, _, S + v, _, _, by omega, by omega, by go_num, by go_num, rfl, rfl, HN, by omega, Hown8, Hb8⟩
        case measure => simp [intOf]; omega
      case inr.inr.inl =>
        have HN := Lib.hid (HStep.out v M (by rw [if_pos (.inr hL)]) (by rw [if_neg (by omega)]))
        clear HStep h0
        go_wp2_with (at_builtin; refine wpList_push _ rfl _ _ 38 rfl w.heap.size 52 i0 _ 3 32 Try.underlying38 hi hz0 hz1 hz2 rfl (by decide) _ ps.length _ (by rfl) hown.out [.string ⟨#[115]⟩, .int .i64 (k : Int), .int .i64 v] (by rfl) rfl (by simp [Value.oneCell']) (by have := hpl.out; unfold maxLen; omega) (by have := hpl.out; omega) w hbw.out hsw ?_; intro v8 w8 hown8 hb8)
        have Hown8 : Hid (w8.ownsRow w.heap.size 52 3 v8 (ps ++ [((⟨#[115]⟩ : ByteArray), (k : Int), v)]).length ((ps ++ [((⟨#[115]⟩ : ByteArray), (k : Int), v)]).flatMap pointCells)) := by
          show World.ownsRow _ _ _ _ _ _ _
          rw [List.length_append, List.flatMap_append]; exact hown8
        have Hb8 := Lib.hid hb8
        clear hown8 hb8
        go_roundw
        case rel => exact ⟨k + 1, _, S + v, _, _, by omega, by omega, by go_num, by go_num, rfl, rfl, HN, by omega, Hown8, Hb8⟩
        case measure => simp [intOf]; omega
      case inr.inr.inr.inl =>
        have HN := Lib.hid (HStep.out L v (by rw [if_neg (by omega)]) (by rw [if_pos (.inr hM)]))
        clear HStep h0
        go_wp2_with (at_builtin; refine wpList_push _ rfl _ _ 38 rfl w.heap.size 52 i0 _ 3 32 Try.underlying38 hi hz0 hz1 hz2 rfl (by decide) _ ps.length _ (by rfl) hown.out [.string ⟨#[115]⟩, .int .i64 (k : Int), .int .i64 v] (by rfl) rfl (by simp [Value.oneCell']) (by have := hpl.out; unfold maxLen; omega) (by have := hpl.out; omega) w hbw.out hsw ?_; intro v8 w8 hown8 hb8)
        have Hown8 : Hid (w8.ownsRow w.heap.size 52 3 v8 (ps ++ [((⟨#[115]⟩ : ByteArray), (k : Int), v)]).length ((ps ++ [((⟨#[115]⟩ : ByteArray), (k : Int), v)]).flatMap pointCells)) := by
          show World.ownsRow _ _ _ _ _ _ _
          rw [List.length_append, List.flatMap_append]; exact hown8
        have Hb8 := Lib.hid hb8
        clear hown8 hb8
        go_roundw
        case rel => exact ⟨k + 1, _, S + v, _, _, by omega, by omega, by go_num, by go_num, rfl, rfl, HN, by omega, Hown8, Hb8⟩
        case measure => simp [intOf]; omega
      case inr.inr.inr.inr =>
        have HN := Lib.hid (HStep.out L M (by rw [if_neg (by omega)]) (by rw [if_neg (by omega)]))
        clear HStep h0
        go_wp2_with (at_builtin; refine wpList_push _ rfl _ _ 38 rfl w.heap.size 52 i0 _ 3 32 Try.underlying38 hi hz0 hz1 hz2 rfl (by decide) _ ps.length _ (by rfl) hown.out [.string ⟨#[115]⟩, .int .i64 (k : Int), .int .i64 v] (by rfl) rfl (by simp [Value.oneCell']) (by have := hpl.out; unfold maxLen; omega) (by have := hpl.out; omega) w hbw.out hsw ?_; intro v8 w8 hown8 hb8)
        have Hown8 : Hid (w8.ownsRow w.heap.size 52 3 v8 (ps ++ [((⟨#[115]⟩ : ByteArray), (k : Int), v)]).length ((ps ++ [((⟨#[115]⟩ : ByteArray), (k : Int), v)]).flatMap pointCells)) := by
          show World.ownsRow _ _ _ _ _ _ _
          rw [List.length_append, List.flatMap_append]; exact hown8
        have Hb8 := Lib.hid hb8
        clear hown8 hb8
        go_roundw
        case rel => exact ⟨k + 1, _, S + v, _, _, by omega, by omega, by go_num, by go_num, rfl, rfl, HN, by omega, Hown8, Hb8⟩
        case measure => simp [intOf]; omega
    · have hneg : (k : Int) < (z0.length : Int) ∧ (k : Int) < 200 → False := by omega
      have hstop : (¬ (k : Int) < (z0.length : Int)) ∨ ((k : Int) < (z0.length : Int) ∧ decide ((k : Int) < 200) = false) := by
        by_cases h : k < z0.length
        · exact .inr ⟨by omega, decide_eq_false (by omega)⟩
        · exact .inl (by omega)
      obtain ⟨A, c, rfl, hnc, hrd⟩ := own_slice hown.out
      have Hrd := Lib.hid hrd
      have HA := fun (agg : Int) W (hb : Below wr.heap.size wr W) => Lib.hid (aggregate_any A c ps agg W wr.heap.size (hrd.below hb) hb.size (by have := hpl.out; omega) (sumI_wf hI.out hk2))
      have HC := Qr.sums_count hI.out hk2
      have HA1 := HA 1
      have HA2 := HA 2
      have HA3 := HA 3
      have HA4 := HA 4
      have HA0 := HA 0
      unfold AggPost at HA0 HA1 HA2 HA3 HA4
      rw [HC] at HA1
      by_cases h0 : k = 0
      · have e2 := Qr.sums_none hI.out h0 2 (by omega) (by omega)
        have e3 := Qr.sums_none hI.out h0 3 (by omega) (by omega)
        have e4 := Qr.sums_none hI.out h0 4 (by omega) (by omega)
        have e0 := Qr.sums_none hI.out h0 0 (by omega) (by omega)
        rw [e2] at HA2
        rw [e3] at HA3
        rw [e4] at HA4
        rw [e0] at HA0
        have hps : ps.length = 0 := by rw [hpl.out, h0]
        have hgt : decide ((0 : Int) < (ps.length : Int)) = false := decide_eq_false (by omega)
        have hgt2 : decide (0 < ps.length) = false := decide_eq_false (by omega)
        have hnn : ((ps.length : Int) != (ps.length : Int)) = false := by simp
        clear e0 e2 e3 e4 HC HA hpl hneg hlt h0 hI hps
        simp only at HA0 HA1 HA2 HA3 HA4
        rcases hstop with hst | ⟨hst, hst2⟩
        all_goals
          go_wp2_with fail
          refine (HA1 wr (Below.refl _ _)).out.mono ?_
          rintro e w2 ⟨rfl, hb2⟩
          have Hb2 := Lib.hid hb2
          clear hb2
          go_wp2_with fail
          refine (HA2 w2 Hb2.out).out.mono ?_
          rintro e w3 ⟨rfl, hb3⟩
          have Hb3 : Hid (Below wr.heap.size wr w3) := Hb2.out.trans (hb3.mono Hb2.out.size)
          clear hb3
          go_wp2_with fail
          refine (HA3 w3 Hb3.out).out.mono ?_
          rintro e w4 ⟨rfl, hb4⟩
          have Hb4 : Hid (Below wr.heap.size wr w4) := Hb3.out.trans (hb4.mono Hb3.out.size)
          clear hb4
          go_wp2_with fail
          refine (HA4 w4 Hb4.out).out.mono ?_
          rintro e w5 ⟨rfl, hb5⟩
          have Hb5 : Hid (Below wr.heap.size wr w5) := Hb4.out.trans (hb5.mono Hb4.out.size)
          clear hb5
          go_wp2_with fail
          refine (HA0 w5 Hb5.out).out.mono ?_
          rintro e w6 ⟨rfl, hb6⟩
          have Hb6 : Hid (Below w.heap.size w w6) := hbw.out.trans ((Hb5.out.trans (hb6.mono Hb5.out.size)).mono hsw)
          clear hb6
          go_wp2_with fail
          iterate 5 (refine (errno_any _ _).mono ?_; rintro e w' ⟨rfl, rfl⟩; go_wp2_with fail)
          go_ret
          exact ⟨rfl, Hb6.out⟩
      · have e2 := Qr.sums_sum hI.out hk2 (by omega)
        have e3 := Qr.sums_least hI.out hk2 (by omega)
        have e4 := Qr.sums_most hI.out hk2 (by omega)
        have e0 := Qr.sums_last hI.out hk2 (by omega)
        have hpk := hpl.out
        obtain ⟨m, rfl⟩ : ∃ m, k = m + 1 := ⟨k - 1, by omega⟩
        rw [Nat.add_sub_cancel, Qr.getD_lt (by omega)] at e0
        rw [e2] at HA2
        rw [e3] at HA3
        rw [e4] at HA4
        rw [e0] at HA0
        obtain ⟨bb, off, rfl, hbl, hc⟩ := Hrd.out.2 (by omega)
        have Hcs := Lib.hid (fun (W : World) (hb : Below wr.heap.size wr W) => (pt_cells (wr := W) (show m < ps.length by omega) hc (fun p hp => hb.cell (p := p) hp) hbl).2.2)
        generalize (ps[m]'(by omega)).2.2 = VL at *
        simp only [hpk] at HA0 HA1 HA2 HA3 HA4 ⊢
        have hgt : decide ((0 : Int) < (m : Int) + 1) = true := decide_eq_true (by omega)
        have hgt3 : decide ((0 : Int) < ((m + 1 : Nat) : Int)) = true := decide_eq_true (by omega)
        have hnn : ((m : Int) + 1 != (m : Int) + 1) = false := by simp
        have hnn2 : (((m + 1 : Nat) : Int) != ((m + 1 : Nat) : Int)) = false := by simp
        have hSS : (S == S) = true := by simp
        have hLL : (L == L) = true := by simp
        have hMM : (M == M) = true := by simp
        have hVV : (VL == VL) = true := by simp
        have hstop2 : (¬ ((m : Int) + 1) < (z0.length : Int)) ∨ (((m : Int) + 1) < (z0.length : Int) ∧ decide (((m : Int) + 1) < 200) = false) := by
          by_cases h : m + 1 < z0.length
          · exact .inr ⟨by omega, decide_eq_false (by omega)⟩
          · exact .inl (by omega)
        clear e0 e2 e3 e4 HC HA hpl hneg hlt h0 hI hpk hc Hrd hown hstop
        rcases hstop2 with hst | ⟨hst, hst2⟩
        all_goals
          go_wp2_with fail
          refine (HA1 wr (Below.refl _ _)).out.mono ?_
          rintro e w2 ⟨rfl, hb2⟩
          have Hb2 := Lib.hid hb2
          clear hb2
          go_wp2_with fail
          refine (HA2 w2 Hb2.out).out.mono ?_
          rintro e w3 ⟨rfl, hb3⟩
          have Hb3 : Hid (Below wr.heap.size wr w3) := Hb2.out.trans (hb3.mono Hb2.out.size)
          clear hb3
          go_wp2_with fail
          refine (HA3 w3 Hb3.out).out.mono ?_
          rintro e w4 ⟨rfl, hb4⟩
          have Hb4 : Hid (Below wr.heap.size wr w4) := Hb3.out.trans (hb4.mono Hb3.out.size)
          clear hb4
          go_wp2_with fail
          refine (HA4 w4 Hb4.out).out.mono ?_
          rintro e w5 ⟨rfl, hb5⟩
          have Hb5 : Hid (Below wr.heap.size wr w5) := Hb4.out.trans (hb5.mono Hb4.out.size)
          clear hb5
          go_wp2_with fail
          refine (HA0 w5 Hb5.out).out.mono ?_
          rintro e w6 ⟨rfl, hb6⟩
          have Hb16 := Hb5.out.trans (hb6.mono Hb5.out.size)
          have hcl := Hcs.out w6 Hb16
          have Hb6 : Hid (Below w.heap.size w w6) := hbw.out.trans (Hb16.mono hsw)
          clear hb6 Hb16
          go_wp2_with fail
          iterate 5 (refine (errno_any _ _).mono ?_; rintro e w' ⟨rfl, rfl⟩; go_wp2_with fail)
          go_ret
          exact ⟨rfl, Hb6.out⟩
end Go.Proofs.Ythdbmgjlegpbaaa
