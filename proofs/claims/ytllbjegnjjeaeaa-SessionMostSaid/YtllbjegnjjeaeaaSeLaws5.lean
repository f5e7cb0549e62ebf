/- The walk through SessionMost. -/
import Derived.Test.YtllbjegnjjeaeaaSeLaws2
namespace Go.Proofs.Ytllbjegnjjeaeaa
open Go.RowKit
set_option linter.unusedVariables false

def Se.mostR (m u : Nat) : Nat → List Se.Row
  | 0 => (Se.applyR (Se.openedR m) (1 + (u : Int)) 1 50).1
  | i + 1 => (Se.applyR (Se.mostR m u i) 0 0 (60 + (i : Int))).1
theorem most_may (m u i : Nat) : Se.mayB (Se.mostR m u i) = true := by
  induction i with
  | zero => exact Se.apply_may (opened_may m)
  | succ i ih => exact Se.apply_may ih
def Se.hasB (rows : List Se.Row) (u : Int) : Bool := rows.any fun r => decide (r.1 = u)
theorem most_first : ∀ k : Fin 8, ∀ u : Fin 4, u.1 < min (1 + k.1) 4 → (Se.applyR (Se.openedR (min (1 + k.1) 4)) (1 + (u.1 : Int)) 1 50).2 = (50, true) := by decide +kernel
theorem most_len : ∀ k : Fin 8, ∀ u : Fin 4, u.1 < min (1 + k.1) 4 → (Se.mostR (min (1 + k.1) 4) u.1 (1 + k.1)).length = min (min (1 + k.1) 4 + (1 + k.1)) 4 := by decide +kernel
theorem most_has : ∀ k : Fin 8, ∀ u : Fin 4, u.1 < min (1 + k.1) 4 → Se.hasB (Se.mostR (min (1 + k.1) 4) u.1 (1 + k.1)) (1 + (u.1 : Int)) = decide (1 + k.1 < 4) := by decide +kernel
theorem has_step {rows : List Se.Row} {u : Int} {j : Nat} (hj : j < rows.length) : Se.hasB (rows.take (j + 1)) u = (Se.hasB (rows.take j) u || decide (rows[j].1 = u)) := by
  unfold Se.hasB; rw [List.take_succ_eq_append_getElem hj, List.any_append]; simp
set_option maxRecDepth 100000 in
set_option maxHeartbeats 4000000 in
theorem sessionMost_walk (a0 a1 : Int) (w0 : (Lit.int .i64 a0).wf = true) (w1 : (Lit.int .i64 a1).wf = true) (w : World) :
    Calls Try.prog 6 #[.int .i64 a0, .int .i64 a1] w fun e w' => e = .returned (.bool true) ∧ Below w.heap.size w w' := by
  obtain ⟨ka, hka, hpa⟩ := and_low a0 7 (by omega)
  rw [show ((7 : Nat) : Int) = 7 from rfl] at hpa
  obtain ⟨m, hm⟩ : ∃ m, m = min (1 + ka) 4 := ⟨_, rfl⟩
  have hmb : 1 ≤ m ∧ m ≤ 4 ∧ m ≤ 1 + ka := by omega
  have hmi : min ((1 : Int) + (ka : Int)) 4 = (m : Int) := by omega
  obtain ⟨u, hu, hpu⟩ := pick_of a1 m (by omega) (by omega)
  have hF : (Se.applyR (Se.openedR m) (1 + (u : Int)) 1 50).2 = (50, true) := by rw [hm]; exact most_first ⟨ka, by omega⟩ ⟨u, by omega⟩ (by rw [← hm]; exact hu)
  have hL : (Se.mostR m u (1 + ka)).length = min (m + (1 + ka)) 4 := by rw [hm]; exact most_len ⟨ka, by omega⟩ ⟨u, by omega⟩ (by rw [← hm]; exact hu)
  have hH : Se.hasB (Se.mostR m u (1 + ka)) (1 + (u : Int)) = decide (1 + ka < 4) := by rw [hm]; exact most_has ⟨ka, by omega⟩ ⟨u, by omega⟩ (by rw [← hm]; exact hu)
  have Hm := Lib.hid hm
  have HM := Lib.hid (fun i => Se.may_len (most_may m u i))
  have HO := fun W => Lib.hid (opened_any m W (by omega))
  have ho4 := Se.may_len (opened_may m)
  have HA := fun A c W (hr : Reads W W.heap.size 4 A (Se.openedR m).length ((Se.openedR m).flatMap rowCells)) => apply_any A c (Se.openedR m) 0 0 (1 + (u : Int)) 1 50 none 0 0 W W.heap.size hr (Nat.le_refl _) (by omega)
  have HB := Lib.hid (fun i A c W (hr : Reads W W.heap.size 4 A (Se.mostR m u i).length ((Se.mostR m u i).flatMap rowCells)) => apply_any A c (Se.mostR m u i) 0 0 0 0 (60 + (i : Int)) none 0 0 W W.heap.size hr (Nat.le_refl _) (by have := HM.out i; omega))
  have H0 : Hid (Se.mostR m u 0 = (Se.applyR (Se.openedR m) (1 + (u : Int)) 1 50).1) := rfl
  have HS : Hid (∀ i, Se.mostR m u (i + 1) = (Se.applyR (Se.mostR m u i) 0 0 (60 + (i : Int))).1) := fun i => rfl
  generalize Se.openedR m = ro at *
  generalize hq : Se.applyR ro (1 + (u : Int)) 1 50 = q at *
  obtain ⟨q1, q2, q3⟩ := q
  simp only at hF H0
  obtain ⟨rfl, rfl⟩ : q2 = 50 ∧ q3 = true := by simpa using hF
  have HA' := fun A c W hr => Lib.hid (HA A c W hr)
  have HL := Lib.hid hL
  have HH := Lib.hid hH
  have hmu : (m : Int) ≠ 0 := by omega
  clear w0 w1 hm HA hF hL hH hq
  unfold entryCells at *
  go_enter Try.func6, Try.ntmps6
  go_wp2_with fail
  refine (awake10 _).mono ?_
  rintro e w1 ⟨rfl, hb1⟩
  have Hb1 := Lib.hid hb1
  have hs1 := hb1.size
  clear hb1
  go_wp2_with fail
  refine (HO _).out.mono ?_
  rintro e w2 ⟨v2, rfl, hown2, hb2⟩
  obtain ⟨A2, c2, rfl, hnc2, hrd2⟩ := own_slice hown2
  have Hrd2 := Lib.hid hrd2
  have Hb2 : Hid (Below w.heap.size w w2) := Hb1.out.trans (hb2.mono hs1)
  have hs2 := Hb2.out.size
  clear hown2 hrd2 hb2
  go_wp2_with fail
  refine (HA' A2 c2 w2 Hrd2.out).out.mono ?_
  rintro e w3 ⟨v3, rfl, hown3, hb3⟩
  simp only at hown3
  rw [← H0.out] at hown3
  have Hown3 := Lib.hid (own_down hown3 hs2)
  have Hb3 : Hid (Below w.heap.size w w3) := Hb2.out.trans (hb3.mono hs2)
  clear hown3 hb3
  simp only
  go_wp2_with fail
  go_loopw [6, 10] (fun v i wr => ∃ j : Nat, j ≤ 1 + ka ∧ i = .int .i64 (j : Int) ∧ Hid (wr.ownsRow w.heap.size 49 4 v (Se.mostR m u j).length ((Se.mostR m u j).flatMap rowCells)) ∧ Hid (Below w.heap.size w wr)) (fun _ i _ => 1 + ka - (intOf i).toNat)
  case atStart => exact ⟨0, Nat.zero_le _, rfl, Hown3, Hb3⟩
  case round =>
    obtain ⟨j, hj, rfl, hown, hbw⟩ := hrel
    have hsw := hbw.out.size
    obtain ⟨A, c, rfl, hnc, hrd⟩ := own_slice hown.out
    by_cases hlt : j < 1 + ka
    · have HBj := HB.out j A c wr hrd
      have hS := HS.out j
      generalize Se.applyR (Se.mostR m u j) 0 0 (60 + (j : Int)) = q at *
      obtain ⟨p1, p2, p3⟩ := q
      simp only at hS
      have HS' := Lib.hid hS
      have HBj' := Lib.hid HBj
      clear hS HBj hrd
      go_wp2_with fail
      refine HBj'.out.mono ?_
      rintro e w4 ⟨v4, rfl, hown4, hb4⟩
      simp only at hown4
      rw [← HS'.out] at hown4
      have Hown4 := Lib.hid (own_down hown4 hsw)
      have Hb4 : Hid (Below w.heap.size w w4) := hbw.out.trans (hb4.mono hsw)
      clear hown4 hb4
      simp only
      go_wp2_with fail
      go_roundw
      case rel => exact ⟨j + 1, by omega, by go_num, Hown4, Hb4⟩
      case measure => simp [intOf]; omega
    · obtain rfl : j = 1 + ka := by omega
      have HLn := HL.out
      have HHs := HH.out
      have h4 := HM.out (1 + ka)
      generalize Se.mostR m u (1 + ka) = rows at *
      have HH' := Lib.hid HHs
      have HL' := Lib.hid HLn
      clear hrd HLn HHs
      go_wp2_with fail
      go_loopw [11, 12] (fun b i wx => ∃ t : Nat, t ≤ rows.length ∧ i = .int .i64 (t : Int) ∧ b = .bool (Se.hasB (rows.take t) (1 + (u : Int))) ∧ wx = wr) (fun _ i _ => rows.length - (intOf i).toNat)
      case atStart => exact ⟨0, Nat.zero_le _, rfl, by simp [Se.hasB], rfl⟩
      case round =>
        obtain ⟨t, ht, rfl, rfl, rfl⟩ := hrel
        by_cases htl : t < rows.length
        · obtain ⟨g, rfl, hg1, hg2⟩ := own_some hown.out (by omega)
          have hc0 := (row_own_cells hown.out t htl).1
          have hst := has_step (u := 1 + (u : Int)) htl
          generalize Se.hasB (rows.take t) (1 + (u : Int)) = bt at *
          generalize hx : rows[t].1 = x at *
          have Hst := Lib.hid hst
          clear hst hx
          cases bt
          · by_cases hxu : x = 1 + (u : Int)
            · have hdx : (x == 1 + (u : Int)) = true := by simp [hxu]
              have hF : Hid (Se.hasB (rows.take (t + 1)) (1 + (u : Int)) = true) := by show _ = _; rw [Hst.out, decide_eq_true hxu]; rfl
              clear Hst hxu
              go_wp2_with fail
              go_roundw
              case rel => exact ⟨t + 1, by omega, by go_num, by rw [hF.out], by first | rfl | trivial⟩
              case measure => simp [intOf]; omega
            · have hdx : (x == 1 + (u : Int)) = false := by simp [hxu]
              have hF : Hid (Se.hasB (rows.take (t + 1)) (1 + (u : Int)) = false) := by show _ = _; rw [Hst.out, decide_eq_false hxu]; rfl
              clear Hst hxu
              go_wp2_with fail
              go_roundw
              case rel => exact ⟨t + 1, by omega, by go_num, by rw [hF.out], by first | rfl | trivial⟩
              case measure => simp [intOf]; omega
          · have hF : Hid (Se.hasB (rows.take (t + 1)) (1 + (u : Int)) = true) := by show _ = _; rw [Hst.out]; rfl
            clear Hst
            go_wp2_with fail
            go_roundw
            case rel => exact ⟨t + 1, by omega, by go_num, by rw [hF.out], by first | rfl | trivial⟩
            case measure => simp [intOf]; omega
        · have htk : rows.take t = rows := List.take_of_length_le (by omega)
          rw [htk, HH'.out]
          obtain ⟨L, hL⟩ : ∃ L, L = rows.length := ⟨_, rfl⟩
          have hLm : min ((m : Int) + (1 + (ka : Int))) 4 = (rows.length : Int) := by rw [HL'.out]; omega
          have hbb : decide ((1 : Int) + (ka : Int) < 4) = decide (1 + ka < 4) := by rw [decide_eq_decide]; omega
          have hll : ((rows.length : Int) == (rows.length : Int)) = true := by simp
          clear hL
          cases hdk : decide (1 + ka < 4)
          all_goals
            rw [hdk] at hbb
            go_wp2_with fail
            go_ret
            exact ⟨rfl, hbw.out⟩
end Go.Proofs.Ytllbjegnjjeaeaa
