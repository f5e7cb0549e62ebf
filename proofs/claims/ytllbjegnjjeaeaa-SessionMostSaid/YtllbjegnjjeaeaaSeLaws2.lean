/- The walks through opened, SessionCodes and SessionRows. -/
import Derived.Test.YtllbjegnjjeaeaaSeLaws
namespace Go.Proofs.Ytllbjegnjjeaeaa
open Go.RowKit
set_option linter.unusedVariables false

def Se.openedR : Nat → List Se.Row
  | 0 => []
  | k + 1 => (Se.applyR (Se.openedR k) 0 0 ((k : Int) + 1)).1
theorem opened_may (k : Nat) : Se.mayB (Se.openedR k) = true := by
  induction k with
  | zero => decide +kernel
  | succ k ih => rw [Se.openedR]; exact Se.apply_may ih
set_option maxRecDepth 100000 in
set_option maxHeartbeats 800000 in
theorem opened_any (m : Nat) (w : World) (hm : m ≤ 1000) :
    Calls Try.prog 22 #[.int .i64 (m : Int)] w (OwnPost w (Se.openedR m)) := by
  have HM := Lib.hid (fun k => Se.may_len (opened_may k))
  have HS : Hid (∀ k, (Se.applyR (Se.openedR k) 0 0 ((k : Int) + 1)).1 = Se.openedR (k + 1)) := fun k => rfl
  have HZ : Hid (Se.openedR 0 = []) := rfl
  go_enter Try.func22, Try.ntmps22
  go_wp2_with fail
  go_loopw [3, 4, 5, 6, 7] (fun v i _ _ _ wr => ∃ k : Nat, k ≤ m ∧ i = .int .i64 ((k : Int) + 1) ∧ Hid (wr.ownsRow w.heap.size 49 4 v (Se.openedR k).length ((Se.openedR k).flatMap rowCells)) ∧ Hid (Below w.heap.size w wr)) (fun _ i _ _ _ _ => m + 1 - (intOf i).toNat)
  case atStart => exact ⟨0, Nat.zero_le _, rfl, Lib.hid (by show World.ownsRow _ _ _ _ _ _ _; rw [HZ.out]; exact own_nil _ _ _ _), Lib.hid (Below.refl _ _)⟩
  case round =>
    obtain ⟨k, hk, rfl, hown, hbw⟩ := hrel
    obtain ⟨A, c, rfl, hnc, hrd⟩ := own_slice hown.out
    have hsw := hbw.out.size
    by_cases hlt : k < m
    · have h4 := HM.out k
      have H1 := apply_any A c (Se.openedR k) 0 0 0 0 ((k : Int) + 1) none 0 0 wr wr.heap.size hrd (Nat.le_refl _) (by omega)
      have hq := HS.out k
      generalize Se.applyR (Se.openedR k) 0 0 ((k : Int) + 1) = q at *
      obtain ⟨q1, q2, q3⟩ := q
      simp only at hq
      have Hq := Lib.hid hq
      have H1' := Lib.hid H1
      clear hrd H1 hq
      unfold entryCells at *
      go_wp2_with fail
      refine H1'.out.mono ?_
      rintro e w1 ⟨v1, rfl, hown1, hb1⟩
      simp only at hown1
      have Hown1 : Hid (w1.ownsRow w.heap.size 49 4 v1 (Se.openedR (k + 1)).length ((Se.openedR (k + 1)).flatMap rowCells)) := by
        show World.ownsRow _ _ _ _ _ _ _; rw [← Hq.out]; exact own_down hown1 hsw
      have Hb1 : Hid (Below w.heap.size w w1) := hbw.out.trans (hb1.mono hsw)
      clear hown1 hb1
      simp only
      go_wp2_with fail
      go_roundw
      case rel => exact ⟨k + 1, by omega, by go_num, Hown1, Hb1⟩
      case measure => simp [intOf]; omega
    · obtain rfl : k = m := by omega
      clear hrd
      go_wp2_with fail
      go_ret
      exact ⟨_, rfl, hown.out, hbw.out⟩

def Se.o1 : List Se.Row := [(1, 0, 1, 1)]
def Se.o2 (a : Int) : List Se.Row := [(1, a, 9, 9)]
theorem opened_one : Se.openedR 1 = Se.o1 := by decide +kernel
theorem codes_apply : ∀ k : Fin 8, Se.applyR Se.o1 1 (1 + (k.1 : Int)) 9 = (Se.o2 (1 + (k.1 : Int)), 9, true) := by decide +kernel
theorem codes_lt : ∀ k j : Fin 8, j.1 < k.1 → Se.askR (Se.o2 (1 + (k.1 : Int))) 1 (1 + (j.1 : Int)) 20 = (3, -1) := by decide +kernel
theorem codes_eq : ∀ k j : Fin 8, j.1 = k.1 → Se.askR (Se.o2 (1 + (k.1 : Int))) 1 (1 + (j.1 : Int)) 20 = (0, 9) := by decide +kernel
theorem codes_gt : ∀ k j : Fin 8, k.1 < j.1 → Se.askR (Se.o2 (1 + (k.1 : Int))) 1 (1 + (j.1 : Int)) 20 = (0, -1) := by decide +kernel
theorem codes_none {a s : Int} (h1 : s ≠ 1) : ¬ Se.idx (Se.o2 a) s < (Se.o2 a).length := by
  unfold Se.idx Se.o2
  rw [List.findIdx_lt_length]
  rintro ⟨r, hr, h⟩
  simp at hr
  subst hr
  simp at h
  exact h1 h.symm
theorem codes_exp {a s : Int} (h0 : s ≠ 0) (h1 : s ≠ 1) (h : 1 ≤ s ∧ s ≤ 20) : Se.askR (Se.o2 a) s 1 20 = (4, -1) := ask_exp h0 (codes_none h1) h
theorem codes_no {a s : Int} (h0 : s ≠ 0) (h1 : s ≠ 1) (h : ¬ (1 ≤ s ∧ s ≤ 20)) : Se.askR (Se.o2 a) s 1 20 = (5, -1) := ask_none h0 (codes_none h1) h
set_option maxRecDepth 100000 in
set_option maxHeartbeats 4000000 in
theorem sessionCodes_walk (a0 a1 a2 : Int) (w0 : (Lit.int .i64 a0).wf = true) (w1 : (Lit.int .i64 a1).wf = true) (w2 : (Lit.int .i64 a2).wf = true) (w : World) :
    Calls Try.prog 7 #[.int .i64 a0, .int .i64 a1, .int .i64 a2] w fun e w' => e = .returned (.bool true) ∧ Below w.heap.size w w' := by
  obtain ⟨ka, hka, hpa⟩ := and_low a0 7 (by omega)
  obtain ⟨kb, hkb, hpb⟩ := and_low a1 7 (by omega)
  rw [show ((7 : Nat) : Int) = 7 from rfl] at hpa hpb
  have ha2 := wf_int w2
  obtain ⟨s, hs⟩ : ∃ s, s = a2.tmod 40 := ⟨_, rfl⟩
  have hsb : -40 < s ∧ s < 40 := by
    rw [hs]
    have h1 := Int.tmod_lt_of_pos a2 (show (0 : Int) < 40 by omega)
    have h2 := Int.lt_tmod_of_pos a2 (show (0 : Int) < 40 by omega)
    omega
  have hs' : a2.tmod 40 = s := hs.symm
  clear w0 w1 w2 hs ha2
  have HO := fun W => Lib.hid (opened_any 1 W (by omega))
  rw [opened_one] at HO
  have HA := fun A c W (hr : Reads W W.heap.size 4 A 1 (Se.o1.flatMap rowCells)) => Lib.hid (apply_any A c Se.o1 0 0 1 (1 + (ka : Int)) 9 none 0 0 W W.heap.size hr (Nat.le_refl _) (by simp [Se.o1]))
  have hap := codes_apply ⟨ka, by omega⟩
  simp only at hap
  rw [hap] at HA
  clear hap
  have HK := fun A c W B s n (hr : Reads W B 4 A 1 ((Se.o2 (1 + (ka : Int))).flatMap rowCells)) (hB : B ≤ W.heap.size) => ask_any A c (Se.o2 (1 + (ka : Int))) s n 20 W B hr hB (by simp [Se.o2])
  have la1 : Se.o1.length = 1 := rfl
  have la2 : (Se.o2 (1 + (ka : Int))).length = 1 := rfl
  have L1 := Lib.hid la1
  have L2 := Lib.hid la2
  rw [la1] at HA
  rw [la2] at HK
  clear la1 la2
  have HK1 := fun A c W B hr hB => Lib.hid (HK A c W B 1 (1 + (kb : Int)) hr hB)
  have HK2 := fun A c W B hr hB => Lib.hid (HK A c W B s 1 hr hB)
  clear HK
  obtain ⟨C, V, wa, re, hd1, hd2, hCV, hwa, hre⟩ : ∃ C V wa re : Int, True ∧ True ∧ Se.askR (Se.o2 (1 + (ka : Int))) 1 (1 + (kb : Int)) 20 = (C, V) ∧ C = (if (kb : Int) < ka then 3 else 0) ∧ V = (if (kb : Int) = ka then 9 else -1) := by
    rcases Nat.lt_trichotomy kb ka with h | h | h
    · exact ⟨_, _, 0, 0, trivial, trivial, codes_lt ⟨ka, by omega⟩ ⟨kb, by omega⟩ h, by rw [if_pos (by omega)], by rw [if_neg (by omega)]⟩
    · exact ⟨_, _, 0, 0, trivial, trivial, codes_eq ⟨ka, by omega⟩ ⟨kb, by omega⟩ h, by rw [if_neg (by omega)], by rw [if_pos (by omega)]⟩
    · exact ⟨_, _, 0, 0, trivial, trivial, codes_gt ⟨ka, by omega⟩ ⟨kb, by omega⟩ h, by rw [if_neg (by omega)], by rw [if_neg (by omega)]⟩
  rw [hCV] at HK1
  have Hwa := Lib.hid hwa
  have Hre := Lib.hid hre
  clear hd1 hd2 hCV hwa hre wa re
  have HX : Hid (s ≠ 0 → s ≠ 1 → Se.askR (Se.o2 (1 + (ka : Int))) s 1 20 = ((if 1 ≤ s ∧ s ≤ 20 then 4 else 5), -1)) := fun h0 h1 => by
    by_cases h : 1 ≤ s ∧ s ≤ 20
    · rw [codes_exp h0 h1 h, if_pos h]
    · rw [codes_no h0 h1 h, if_neg h]
  generalize Se.askR (Se.o2 (1 + (ka : Int))) s 1 20 = Q at *
  obtain ⟨D, X⟩ := Q
  unfold entryCells at *
  by_cases hab : (kb : Int) < ka
  all_goals by_cases hae : (kb : Int) = ka
  · omega
  all_goals
    have Hwa' := Hwa.out
    have Hre' := Hre.out
    first | rw [if_pos hab] at Hwa' | rw [if_neg hab] at Hwa'
    first | rw [if_pos hae] at Hre' | rw [if_neg hae] at Hre'
    subst Hwa'
    subst Hre'
    clear Hwa Hre
    have hg : ∃ x y : Bool, decide ((kb : Int) < ka) = x ∧ decide ((1 : Int) + kb < 1 + ka) = x ∧ decide (kb < ka) = x ∧ (((1 : Int) + kb) == 1 + ka) = y ∧ ((kb : Int) == (ka : Int)) = y ∧ (kb == ka) = y ∧ decide ((kb : Int) = ka) = y ∧ decide (kb = ka) = y ∧ (x = decide ((kb : Int) < ka)) ∧ (y = decide ((kb : Int) = ka)) := by
      refine ⟨_, _, rfl, ?_, ?_, rfl, ?_, ?_, ?_, ?_, rfl, ?_⟩
      · rw [decide_eq_decide]; omega
      · rw [decide_eq_decide]; omega
      · rw [Bool.eq_iff_iff]; simp <;> omega
      · rw [Bool.eq_iff_iff]; simp <;> omega
      · rw [Bool.eq_iff_iff]; simp <;> omega
      · rw [Bool.eq_iff_iff]; simp <;> omega
      · rw [Bool.eq_iff_iff]; simp <;> omega
    obtain ⟨xb, yb, g1, g2, g3, g4, g5, g6, g7, g8, hxb, hyb⟩ := hg
    first | rw [decide_eq_true hab] at hxb | rw [decide_eq_false hab] at hxb
    first | rw [decide_eq_true hae] at hyb | rw [decide_eq_false hae] at hyb
    subst hxb
    subst hyb
    clear hab hae
    by_cases h0 : s = 0 ∨ s = 1
    · have hz : (s == 0) = true ∨ ((s == 0) = false ∧ (s == 1) = true) := by
        rcases h0 with h | h
        · exact .inl (by simp [h])
        · exact .inr ⟨by simp [h], by simp [h]⟩
      clear HX h0
      rcases hz with hz | ⟨hz, hz1⟩
      all_goals
        go_enter Try.func7, Try.ntmps7
        go_wp2_with fail
        refine (awake10 _).mono ?_
        rintro e w1 ⟨rfl, hb1⟩
        have Hb1 := Lib.hid hb1
        have hs1 := hb1.size
        clear hb1
        go_wp2_with fail
        refine (HO _).out.mono ?_
        rintro e w2 ⟨v2, rfl, hown2, hb2⟩
        rw [L1.out] at hown2
        obtain ⟨A2, c2, rfl, hnc2, hrd2⟩ := own_slice hown2
        have Hrd2 := Lib.hid hrd2
        have Hb2 : Hid (Below w.heap.size w w2) := Hb1.out.trans (hb2.mono hs1)
        have hs2 := Hb2.out.size
        clear hown2 hrd2 hb2
        go_wp2_with fail
        refine (HA A2 c2 w2 Hrd2.out).out.mono ?_
        rintro e w3 ⟨v3, rfl, hown3, hb3⟩
        simp only at hown3
        rw [L2.out] at hown3
        obtain ⟨A3, c3, rfl, hnc3, hrd3⟩ := own_slice hown3
        have Hrd3 := Lib.hid hrd3
        have Hb3 : Hid (Below w.heap.size w w3) := Hb2.out.trans (hb3.mono hs2)
        have hs3 := Hb3.out.size
        clear hown3 hrd3 hb3
        simp only
        go_wp2_with fail
        refine (HK1 A3 c3 w3 w3.heap.size Hrd3.out (Nat.le_refl _)).out.mono ?_
        rintro e w4 ⟨rfl, hb4⟩
        have Hb4 := Lib.hid hb4
        have hs4 := hb4.size
        clear hb4
        simp only
        go_wp2_with fail
        refine (HK2 A3 c3 w4 w3.heap.size (Hrd3.out.below Hb4.out) hs4).out.mono ?_
        rintro e w5 ⟨rfl, hb5⟩
        have Hb5 : Hid (Below w.heap.size w w5) := Hb3.out.trans ((Hb4.out.trans (hb5.mono hs4)).mono hs3)
        clear hb5
        simp only
        go_wp2_with fail
        go_ret
        exact ⟨rfl, Hb5.out⟩
    · have hn0 : s ≠ 0 := fun h => h0 (.inl h)
      have hn1 : s ≠ 1 := fun h => h0 (.inr h)
      have hz : (s == 0) = false := by simp [hn0]
      have hz1 : (s == 1) = false := by simp [hn1]
      have hQ := HX.out hn0 hn1
      clear HX h0
      have hc : (∃ D0 : Int, D = D0 ∧ X = -1 ∧ ((D0 = 4 ∧ decide (0 < s) = true ∧ decide (s ≤ 20) = true) ∨ (D0 = 5 ∧ decide (0 < s) = true ∧ decide (s ≤ 20) = false) ∨ (D0 = 5 ∧ decide (0 < s) = false))) := by
        rw [Prod.mk.injEq] at hQ
        by_cases p1 : 0 < s
        · by_cases p2 : s ≤ 20
          · exact ⟨4, by rw [hQ.1, if_pos ⟨by omega, p2⟩], hQ.2, .inl ⟨rfl, decide_eq_true p1, decide_eq_true p2⟩⟩
          · exact ⟨5, by rw [hQ.1, if_neg (fun h => p2 h.2)], hQ.2, .inr (.inl ⟨rfl, decide_eq_true p1, decide_eq_false p2⟩)⟩
        · exact ⟨5, by rw [hQ.1, if_neg (fun h => p1 (by omega))], hQ.2, .inr (.inr ⟨rfl, decide_eq_false p1⟩)⟩
      obtain ⟨D0, hD, hX, hc⟩ := hc
      subst hD
      subst hX
      clear hQ hn0 hn1
      rcases hc with ⟨hD, p1, p2⟩ | ⟨hD, p1, p2⟩ | ⟨hD, p1⟩
      all_goals
        subst hD
        go_enter Try.func7, Try.ntmps7
        go_wp2_with fail
        refine (awake10 _).mono ?_
        rintro e w1 ⟨rfl, hb1⟩
        have Hb1 := Lib.hid hb1
        have hs1 := hb1.size
        clear hb1
        go_wp2_with fail
        refine (HO _).out.mono ?_
        rintro e w2 ⟨v2, rfl, hown2, hb2⟩
        rw [L1.out] at hown2
        obtain ⟨A2, c2, rfl, hnc2, hrd2⟩ := own_slice hown2
        have Hrd2 := Lib.hid hrd2
        have Hb2 : Hid (Below w.heap.size w w2) := Hb1.out.trans (hb2.mono hs1)
        have hs2 := Hb2.out.size
        clear hown2 hrd2 hb2
        go_wp2_with fail
        refine (HA A2 c2 w2 Hrd2.out).out.mono ?_
        rintro e w3 ⟨v3, rfl, hown3, hb3⟩
        simp only at hown3
        rw [L2.out] at hown3
        obtain ⟨A3, c3, rfl, hnc3, hrd3⟩ := own_slice hown3
        have Hrd3 := Lib.hid hrd3
        have Hb3 : Hid (Below w.heap.size w w3) := Hb2.out.trans (hb3.mono hs2)
        have hs3 := Hb3.out.size
        clear hown3 hrd3 hb3
        simp only
        go_wp2_with fail
        refine (HK1 A3 c3 w3 w3.heap.size Hrd3.out (Nat.le_refl _)).out.mono ?_
        rintro e w4 ⟨rfl, hb4⟩
        have Hb4 := Lib.hid hb4
        have hs4 := hb4.size
        clear hb4
        simp only
        go_wp2_with fail
        refine (HK2 A3 c3 w4 w3.heap.size (Hrd3.out.below Hb4.out) hs4).out.mono ?_
        rintro e w5 ⟨rfl, hb5⟩
        have Hb5 : Hid (Below w.heap.size w w5) := Hb3.out.trans ((Hb4.out.trans (hb5.mono hs4)).mono hs3)
        clear hb5
        simp only
        go_wp2_with fail
        go_ret
        exact ⟨rfl, Hb5.out⟩
end Go.Proofs.Ytllbjegnjjeaeaa
