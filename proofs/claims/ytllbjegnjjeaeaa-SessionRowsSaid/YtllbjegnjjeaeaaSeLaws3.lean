/- The walk through SessionRows. -/
import Derived.Test.YtllbjegnjjeaeaaSeLaws
namespace Go.Proofs.Ytllbjegnjjeaeaa
open Go.RowKit
set_option linter.unusedVariables false

def Se.bdB (r : Se.Row) : Bool := decide (0 ≤ r.1 ∧ r.1 ≤ 64 ∧ 0 ≤ r.2.1 ∧ r.2.1 ≤ 64 ∧ 0 ≤ r.2.2.1 ∧ r.2.2.1 ≤ 64 ∧ 0 ≤ r.2.2.2 ∧ r.2.2.2 ≤ 64)
theorem bd_fits {r : Se.Row} (h : Se.bdB r = true) : Se.fitsB r = true := by
  have h' := of_decide_eq_true h
  unfold Se.fitsB
  rw [(Wr.isNum_iff r.1).2 (by omega), (Wr.isNum_iff r.2.1).2 (by omega), (Wr.isNum_iff r.2.2.1).2 (by omega), (Wr.isNum_iff r.2.2.2).2 (by omega)]; rfl
theorem bd_all {rows : List Se.Row} (h : ∀ r ∈ rows, Se.bdB r = true) : rows.all Se.fitsB = true := List.all_eq_true.2 fun r hr => bd_fits (h r hr)
theorem bd_apply {rows : List Se.Row} {t : Int} (ht : 1 ≤ t ∧ t ≤ 64) (h : ∀ r ∈ rows, Se.bdB r = true) : ∀ r ∈ (Se.applyR rows 0 0 t).1, Se.bdB r = true := by
  intro r hr
  unfold Se.applyR at hr
  split at hr
  · exact h r hr
  · rw [if_pos rfl] at hr
    rcases Se.open_mem hr with hr | rfl
    · exact h r hr
    · unfold Se.bdB Se.new; exact decide_eq_true (by simp only; omega)
set_option maxRecDepth 100000 in
set_option maxHeartbeats 2000000 in
theorem sessionRows_walk {w : World} (A0 : Option Addr) (c0 : Nat) (z0 : List Int) (rd0 : Reads w w.heap.size 1 A0 z0.length (z0.map (Value.int .i64))) (wf0 : ∀ n ∈ z0, (Lit.int .i64 n).wf = true) (nb0 : z0.length * 8 ≤ 140737488351232) :
    Calls Try.prog 9 #[.slice A0 z0.length c0] w fun e w' => e = .returned (.bool true) ∧ Below w.heap.size w w' := by
  have Hr0 := Lib.hid rd0
  clear wf0 rd0
  go_enter Try.func9, Try.ntmps9
  go_wp2_with fail
  refine (awake10 _).mono ?_
  rintro e w1 ⟨rfl, hb1⟩
  have Hb1 := Lib.hid hb1
  have hs1 := hb1.size
  clear hb1
  go_wp2_with fail
  go_loopw [3, 4, 5, 6, 7, 8, 9, 10, 11, 12] (fun v i _ _ _ _ _ _ _ _ wr => ∃ (k : Nat) (rows : List Se.Row), k ≤ z0.length ∧ k ≤ 12 ∧ i = .int .i64 (k : Int) ∧ Hid (wr.ownsRow w1.heap.size 49 4 v rows.length (rows.flatMap rowCells)) ∧ Hid (Se.mayB rows = true) ∧ Hid (∀ r ∈ rows, Se.bdB r = true) ∧ Hid (Below w1.heap.size w1 wr)) (fun _ i _ _ _ _ _ _ _ _ _ => 12 - (intOf i).toNat)
  case atStart => exact ⟨0, [], Nat.zero_le _, by omega, rfl, Lib.hid (own_nil _ _ _ _), Lib.hid (by decide +kernel), Lib.hid (by simp), Lib.hid (Below.refl _ _)⟩
  case round =>
    obtain ⟨k, rows, hk, hk1, rfl, hown, hmay, hbd, hbw⟩ := hrel
    have hsw := hbw.out.size
    have h4 := Se.may_len hmay.out
    obtain ⟨A, c, rfl, hnc, hrd⟩ := own_slice hown.out
    by_cases hlt : k < z0.length ∧ k < 12
    · obtain ⟨hl1, hl2⟩ := hlt
      obtain ⟨bb, off, rfl, hbb, hc⟩ := Hr0.out.2 (by omega)
      have hcell : wr.cell? ⟨bb, off + k, none⟩ = some (.int .i64 z0[k]) := ((hbw.out.cell (p := ⟨bb, off + k, none⟩) (show bb < _ by omega)).trans (Hb1.out.cell (p := ⟨bb, off + k, none⟩) hbb)).trans (hc k _ (by simp [hl1]))
      obtain ⟨m, hm, hpm⟩ := and_low z0[k] 63 (by omega)
      rw [show ((63 : Nat) : Int) = 63 from rfl] at hpm
      have hd : decide ((k : Int) < 12) = true := decide_eq_true (by omega)
      have HA := apply_any A c rows 0 0 0 0 (1 + (m : Int)) none 0 0 wr wr.heap.size hrd (Nat.le_refl _) (by omega)
      have hmay2 := Se.apply_may (es := 0) (en := 0) (t := 1 + (m : Int)) hmay.out
      have hbd2 := bd_apply (t := 1 + (m : Int)) (by omega) hbd.out
      generalize Se.applyR rows 0 0 (1 + (m : Int)) = q at *
      obtain ⟨q1, q2, q3⟩ := q
      simp only at hmay2 hbd2
      have h42 := Se.may_len hmay2
      have hfit := bd_all hbd2
      have hbs := rowsB_size q1
      have HS := Lib.hid (fun i j hij hj => Se.may_lt hmay2 i j hij hj)
      have HP := fun A c W B (hr : Reads W B 4 A q1.length (q1.flatMap rowCells)) (hB : B ≤ W.heap.size) => seput_any A c q1 W B hr hB
      have HG := fun W => seget_any (⟨(Se.rowsL q1).toArray⟩ : ByteArray) W (by omega)
      rw [Se.put_ok hmay2 hfit] at HP
      rw [Se.get_put hmay2 hfit] at HG
      have HP' := fun A c W B hr hB => Lib.hid (HP A c W B hr hB)
      have HG' := fun W => Lib.hid (HG W)
      have HA' := Lib.hid HA
      have Hmay2 := Lib.hid hmay2
      have Hbd2 := Lib.hid hbd2
      clear HP HG HA hmay2 hbd2 hfit hrd hc hmay hbd hown
      generalize (⟨(Se.rowsL q1).toArray⟩ : ByteArray) = SB at *
      generalize z0[k] = zk at *
      unfold entryCells at *
      go_wp2_with fail
      refine HA'.out.mono ?_
      rintro e w2 ⟨v2, rfl, hown2, hb2⟩
      simp only at hown2
      obtain ⟨A2, c2, rfl, hnc2, hrd2⟩ := own_slice hown2
      have Hown2 := Lib.hid (own_down hown2 hsw)
      have Hrd2 := Lib.hid hrd2
      have Hb2 : Hid (Below w1.heap.size w1 w2) := hbw.out.trans (hb2.mono hsw)
      have hs2 := Hb2.out.size
      clear hown2 hrd2 hb2
      simp only
      go_wp2_with fail
      go_loopw [8] (fun i wx => ∃ j n : Nat, 1 ≤ j ∧ (j ≤ q1.length ∨ j = 1) ∧ i = .int .i64 (j : Int) ∧ wx = w2.drewN n) (fun i _ => q1.length - (intOf i).toNat)
      case atStart => exact ⟨1, 0, Nat.le_refl _, .inr rfl, rfl, rfl⟩
      case round =>
        obtain ⟨j, n, hj1, hj2, rfl, rfl⟩ := hrel
        by_cases hjl : j < q1.length
        · obtain ⟨i, rfl⟩ : ∃ i, j = i + 1 := ⟨j - 1, by omega⟩
          obtain ⟨g, rfl, hg1, hg2⟩ := own_some Hown2.out (by omega)
          have hc0 := (row_own_cells Hown2.out (i + 1) hjl).1
          have hp0 := (row_own_cells Hown2.out i (by omega)).1
          have hxy := HS.out i (i + 1) (by omega) hjl
          have hi0 : (0 : Int) ≤ (i : Int) := by omega
          have hi1 : (i : Int) < (q1.length : Int) := by omega
          generalize (q1[i + 1]'hjl).1 = x at *
          generalize (q1[i]'(by omega)).1 = y at *
          have hdx : decide (x ≤ y) = false := decide_eq_false (by omega)
          go_wp2_with fail
          go_quiet (fail)
          go_wp2_with fail
          go_roundw
          case rel => exact ⟨i + 1 + 1, n + nq, by omega, by omega, by go_num, by first | rfl | rw [World.drewN_drewN]⟩
          case measure => simp [intOf]; omega
        · have Hb3 : Hid (Below w2.heap.size w2 (w2.drewN n)) := below_drewN (Below.refl _ _) n
          have hs3 : w2.heap.size ≤ (w2.drewN n).heap.size := Nat.le_refl _
          have hlz : ((q1.length : Int) ≤ 4) := by omega
          generalize w2.drewN n = w3 at *
          go_wp2_with fail
          refine (HP' A2 c2 w3 w2.heap.size (Hrd2.out.below Hb3.out) hs3).out.mono ?_
          rintro e w4 ⟨rfl, hb4⟩
          have Hb4 : Hid (Below w2.heap.size w2 w4) := Hb3.out.trans (hb4.mono hs3)
          have hs4 := Hb4.out.size
          clear hb4
          simp only
          go_wp2_with fail
          refine (HG' w4).out.mono ?_
          rintro e w5 ⟨v5, rfl, hown5, hb5⟩
          simp only at hown5
          obtain ⟨A5, c5, rfl, hnc5, hrd5⟩ := own_slice hown5
          have Hrd5 := Lib.hid hrd5
          have Hb5 : Hid (Below w2.heap.size w2 w5) := Hb4.out.trans (hb5.mono hs4)
          clear hown5 hrd5 hb5
          simp only
          go_wp2_with fail
          refine (errno_any _ _).mono ?_
          rintro e w' ⟨rfl, rfl⟩
          go_wp2_with fail
          refine (errno_any _ _).mono ?_
          rintro e w' ⟨rfl, rfl⟩
          go_wp2_with fail
          refine (sameRows_true A5 A2 c5 c2 q1 w5 w5.heap.size w2.heap.size Hrd5.out (Hrd2.out.below Hb5.out) (by omega)).mono ?_
          rintro e w7 ⟨rfl, n7, rfl⟩
          have Hown7 := Lib.hid (own_only Hown2.out (Only.new (fun _ => False) (below_drewN Hb5.out n7)) (fun _ _ h => h))
          have Hb7 : Hid (Below w1.heap.size w1 (w5.drewN n7)) := Hb2.out.trans ((below_drewN Hb5.out n7).mono hs2)
          go_wp2_with fail
          go_roundw
          case rel => exact ⟨k + 1, q1, by omega, by omega, by go_num, Hown7, Hmay2, Hbd2, Hb7⟩
          case measure => simp [intOf]; omega
    · have hws : k < z0.length → decide ((k : Int) < 12) = false := fun h => decide_eq_false (by omega)
      clear hrd
      by_cases hl1 : k < z0.length
      all_goals
        (try have hl1' := hws hl1)
        clear hws hlt
        go_wp2_with fail
        go_ret
        exact ⟨rfl, Hb1.out.trans (hbw.out.mono hs1)⟩
end Go.Proofs.Ytllbjegnjjeaeaa
