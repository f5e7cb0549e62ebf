/- The walk through ColumnSteady. -/
import Derived.Test.YthpnhodpfhagaaaClLaws
namespace Go.Proofs.Ythpnhodpfhagaaa
open Go.RowKit
set_option linter.unusedVariables false

def Cl.stp (a d : Int) : Nat → List Int
  | 0 => []
  | k + 1 => a :: Cl.stp (a + d) d k
theorem stp_len (a d : Int) (k : Nat) : (Cl.stp a d k).length = k := by
  induction k generalizing a with
  | zero => rfl
  | succ k ih => simp [Cl.stp, ih]
theorem stp_snoc (a d : Int) (k : Nat) : Cl.stp a d (k + 1) = Cl.stp a d k ++ [a + (k : Int) * d] := by
  induction k generalizing a with
  | zero => simp [Cl.stp]
  | succ k ih =>
    rw [Cl.stp, ih (a + d), Cl.stp]
    have e : a + d + (k : Int) * d = a + ((k + 1 : Nat) : Int) * d := by
      rw [Int.natCast_add, Int.add_mul, Int.add_assoc]; congr 1; simp; omega
    rw [e]; rfl
theorem stp_small (a d : Int) (k : Nat) (h1 : -2147483648 + 64 * (k : Int) ≤ a) (h2 : a ≤ 2147483647 - 64 * (k : Int)) (hd : -64 ≤ d ∧ d ≤ 64) : ∀ x ∈ Cl.stp a d k, Pt.smallB x = true := by
  induction k generalizing a with
  | zero => simp [Cl.stp]
  | succ k ih =>
    intro x hx
    rw [Cl.stp] at hx
    rcases List.mem_cons.1 hx with rfl | hx
    · rw [Pt.smallB_iff]; omega
    · exact ih (a + d) (by omega) (by omega) x hx
theorem stp_bytes (last d : Int) (k : Nat) (hd : -64 ≤ d ∧ d ≤ 63) : (Cl.intsD last (Cl.stp (last + d) d k)).length = k := by
  induction k generalizing last with
  | zero => rfl
  | succ k ih =>
    rw [Cl.stp, Cl.intsD, List.length_append, ih (last + d), show last + d - last = d from by omega, Cl.putL_one d hd.1 hd.2]; omega
theorem goInts_over (l : List UInt8) (xs : List Int) (pre : List UInt8) (last : Int) (hl : l = pre ++ Cl.intsD last xs) (hs : Pt.smallB last = true) (h : xs.all Pt.smallB = true) : Cl.goInts l (xs.length + 1) last (pre.length : Int) = none := by
  induction xs generalizing pre last with
  | nil =>
    rw [Cl.intsD, List.append_nil] at hl
    refine Cl.goInts_stop l 0 last _ (.inl ?_)
    have : Wr.getN l (pre.length : Int) = (0, 0, 200) := by
      have := Wr.getN_at pre []
      rw [List.append_nil] at this
      rw [hl, this]; rfl
    rw [this]; decide
  | cons x xs ih =>
    rw [List.all_cons, Bool.and_eq_true] at h
    have hx := (Pt.smallB_iff _).1 h.1
    have hl' := (Pt.smallB_iff _).1 hs
    rw [Cl.intsD] at hl
    have hg : Wr.getN l (pre.length : Int) = (x - last, (pre.length : Int) + ((Wr.putL (x - last)).length : Int), 0) := by
      rw [hl]; exact Wr.getN_put _ _ _ ((Wr.isNum_iff _).2 (by omega))
    have e : last + (x - last) = x := by omega
    have h2 := ih (pre ++ Wr.putL (x - last)) x (by rw [hl]; simp) h.1 h.2
    rw [List.length_append, Int.natCast_add] at h2
    rw [List.length_cons, Cl.goInts_more l _ last _ _ _ hg (by rw [e]; exact h.1), e, h2]; rfl
theorem all_of' {xs : List Int} (h : ∀ x ∈ xs, Pt.smallB x = true) : xs.all Pt.smallB = true := List.all_eq_true.2 h

set_option maxRecDepth 100000 in
set_option maxHeartbeats 2000000 in
theorem columnSteady_walk (a0 a1 a2 : Int) (w0 : (Lit.int .i64 a0).wf = true) (w1 : (Lit.int .i64 a1).wf = true) (w2 : (Lit.int .i64 a2).wf = true) (w : World) :
    Calls Try.prog 6 #[.int .i64 a0, .int .i64 a1, .int .i64 a2] w fun e w' => e = .returned (.bool true) ∧ Below w.heap.size w w' := by
  obtain ⟨i0, hi, hz0, hz1, hz2⟩ := info_parts info_int
  clear w0 w1 w2
  obtain ⟨a, ha⟩ : ∃ a : Int, a0.tmod 1000000 = a := ⟨_, rfl⟩
  obtain ⟨d, hd⟩ : ∃ d : Int, a2.tmod 64 = d := ⟨_, rfl⟩
  obtain ⟨m, hm, hand⟩ := and_low a1 63 (by omega)
  rw [show ((63 : Nat) : Int) = 63 from rfl] at hand
  have hab : -1000000 < a ∧ a < 1000000 := by
    have h1 := Int.tmod_lt_of_pos a0 (show (0 : Int) < 1000000 by omega)
    have h2 := Int.lt_tmod_of_pos a0 (show (0 : Int) < 1000000 by omega)
    omega
  have hdb : -64 < d ∧ d < 64 := by
    have h1 := Int.tmod_lt_of_pos a2 (show (0 : Int) < 64 by omega)
    have h2 := Int.lt_tmod_of_pos a2 (show (0 : Int) < 64 by omega)
    omega
  go_enter Try.func6, Try.ntmps6
  go_wp2_with fail
  refine (awake12 _).mono ?_
  rintro e w1 ⟨rfl, hb1⟩
  have Hb1 := Lib.hid hb1
  have hs1 := hb1.size
  clear hb1
  go_wp2_with fail
  have Ha := Lib.hid ha
  have Hd := Lib.hid hd
  have Hand := Lib.hid hand
  clear ha hd hand
  go_loopw [10, 11] (fun v i wr => ∃ j : Nat, j ≤ m + 1 ∧ i = .int .i64 (j : Int) ∧ Hid (wr.ownsRow w1.heap.size 3 1 v (Cl.stp a d j).length ((Cl.stp a d j).map (Value.int .i64))) ∧ Hid (Below w1.heap.size w1 wr)) (fun _ i _ => m + 1 - (intOf i).toNat)
  case atStart => exact ⟨0, Nat.zero_le _, rfl, Lib.hid (own_nil _ _ _ _), Lib.hid (Below.refl _ _)⟩
  case round =>
    obtain ⟨j, hj, rfl, hown, hbw⟩ := hrel
    have hsw := hbw.out.size
    have hlj : (Cl.stp a d j).length ≤ 64 := by rw [stp_len]; omega
    by_cases hlt : j < m + 1
    · obtain ⟨p, hp⟩ : ∃ p : Int, (j : Int) * d = p := ⟨_, rfl⟩
      have hpb : -4096 ≤ p ∧ p ≤ 4096 := by
        have h1 : (j : Int) * d ≤ (j : Int) * 64 := Int.mul_le_mul_of_nonneg_left (by omega) (by omega)
        have h2 : (j : Int) * (-64) ≤ (j : Int) * d := Int.mul_le_mul_of_nonneg_left (by omega) (by omega)
        omega
      have Hsn := Lib.hid (stp_snoc a d j)
      rw [hp] at Hsn
      go_wp2_with (at_builtin; refine wpList_push _ rfl _ _ 22 rfl w1.heap.size 3 i0 _ 1 8 Try.underlying22 hi hz0 hz1 hz2 rfl (by decide) _ (Cl.stp a d j).length _ (by rfl) hown.out [.int .i64 (a + p)] (by rfl) rfl (by simp [Value.oneCell']) (by unfold maxLen; omega) (by omega) w1 hbw.out hsw ?_; intro v8 w8 hown8 hb8)
      have Hown8 : Hid (w8.ownsRow w1.heap.size 3 1 v8 (Cl.stp a d (j + 1)).length ((Cl.stp a d (j + 1)).map (Value.int .i64))) := by
        show World.ownsRow _ _ _ _ _ _ _
        rw [Hsn.out, List.length_append, List.map_append]; exact hown8
      have Hb8 := Lib.hid hb8
      clear hown8 hb8 hp
      go_wp2_with fail
      go_roundw
      case rel => exact ⟨j + 1, by omega, by go_num, Hown8, Hb8⟩
      case measure => simp [intOf]; omega
    · obtain rfl : j = m + 1 := by omega
      have hsm := stp_small a d (m + 1) (by omega) (by omega) (by omega)
      have hall := all_of' hsm
      have hwf : ∀ x ∈ Cl.stp a d (m + 1), -9223372036854775808 ≤ x ∧ x ≤ 9223372036854775807 := fun x hx => by
        have := (Pt.smallB_iff x).1 (hsm x hx); omega
      have hl1 : (Cl.stp a d (m + 1)).length = m + 1 := stp_len _ _ _
      have hIB : (Cl.intsB (Cl.stp a d (m + 1))).size = (Wr.putL a).length + m := by
        rw [← Wr.len_list, intsB_list hall, Cl.stp, Cl.intsD, List.length_append, stp_bytes a d m (by omega)]; simp
      have hsa : Pt.smallB a = true := (Pt.smallB_iff a).2 (by omega)
      have h1B : (Cl.intsB [a]).size = (Wr.putL a).length := by
        rw [← Wr.len_list, intsB_list (by simp [hsa])]; simp [Cl.intsD]
      have hlist := intsB_list hall
      have hg1 := Cl.getInts_put (Cl.intsB (Cl.stp a d (m + 1))) (Cl.stp a d (m + 1)) [] [] (by rw [hlist]; simp) hall (by omega)
      have hg2 := getInts_none (s := Cl.intsB (Cl.stp a d (m + 1))) (a := 0) (n := m + 1 + 1) (by
        have := goInts_over (Cl.intsB (Cl.stp a d (m + 1))).data.toList (Cl.stp a d (m + 1)) [] 0 (by rw [hlist]; simp) (by decide) hall
        rw [hl1] at this
        simpa using this)
      have hsz : (Cl.intsD 0 (Cl.stp a d (m + 1))).length = (Cl.intsB (Cl.stp a d (m + 1))).size := by rw [← Wr.len_list, hlist]
      rw [hl1, hsz] at hg1
      simp only [List.length_nil, Int.natCast_zero, Int.zero_add] at hg1
      have hp8 := Wr.putL_len a
      have HG1 := fun W => Lib.hid (getInts_any (Cl.intsB (Cl.stp a d (m + 1))) 0 ((m + 1 : Nat) : Int) W (by omega) (by omega))
      have HG2 := fun W => Lib.hid (getInts_any (Cl.intsB (Cl.stp a d (m + 1))) 0 ((m + 1 + 1 : Nat) : Int) W (by omega) (by omega))
      rw [hg1] at HG1
      rw [hg2] at HG2
      rw [show ((m + 1 : Nat) : Int) = 1 + (m : Int) from by omega] at HG1
      rw [show ((m + 1 + 1 : Nat) : Int) = 1 + (m : Int) + 1 from by omega] at HG2
      obtain ⟨A, c, rfl, hnc, hrd⟩ := own_slice hown.out
      have Hrd := Lib.hid hrd
      have HP1 := Lib.hid (ints_any A c (Cl.stp a d (m + 1)) wr wr.heap.size hrd (Nat.le_refl _) (by omega) hwf)
      have hrd1 : Reads wr wr.heap.size 1 A [a].length ([a].map (Value.int .i64)) := by
        rw [Cl.stp, List.length_cons, List.map_cons, show (Cl.stp (a + d) d m).length + 1 = 1 + (Cl.stp (a + d) d m).length from by omega] at hrd
        exact Reads.head (xs := [Value.int .i64 a]) hrd rfl
      have HP2 := fun W (hb : Below wr.heap.size wr W) => Lib.hid (ints_any A c [a] W wr.heap.size (hrd1.below hb) hb.size (by simp) (by simp; omega))
      have hzz : (((Cl.intsB (Cl.stp a d (m + 1))).size : Int) == ((Cl.intsB [a]).size : Int) + ((m : Int) + 1) - 1) = true := by rw [beq_iff_eq]; omega
      have hzz2 : (((Cl.intsB (Cl.stp a d (m + 1))).size : Int) == ((Cl.intsB [a]).size : Int) + (1 + (m : Int)) - 1) = true := by rw [beq_iff_eq]; omega
      have hq1 : (Cl.intsB (Cl.stp a d (m + 1))).size ≤ 1000 := by omega
      have hq2 : (Cl.intsB [a]).size ≤ 1000 := by omega
      have Hl1 := Lib.hid hl1
      have hc1 : 1 ≤ c := by omega
      clear hsm hall hwf hIB h1B hlist hg1 hg2 hsz hown hrd hrd1 hl1 hsa
      generalize Cl.intsB (Cl.stp a d (m + 1)) = S at *
      generalize Cl.intsB [a] = S1 at *
      generalize Cl.stp a d (m + 1) = X at *
      go_wp2_with fail
      refine HP1.out.mono ?_
      rintro e w3 ⟨rfl, hb3⟩
      have Hb3 := Lib.hid hb3
      clear hb3
      go_wp2_with fail
      refine (HP2 w3 Hb3.out).out.mono ?_
      rintro e w4 ⟨rfl, hb4⟩
      have Hb4 : Hid (Below wr.heap.size wr w4) := Hb3.out.trans (hb4.mono Hb3.out.size)
      clear hb4
      go_wp2_with fail
      refine (HG1 _).out.mono ?_
      rintro e w5 ⟨v5, rfl, hown5, hb5⟩
      obtain ⟨A5, c5, rfl, hnc5, hrd5⟩ := own_slice hown5
      have Hrd5 := Lib.hid hrd5
      have Hb5 : Hid (Below wr.heap.size wr w5) := Hb4.out.trans (hb5.mono Hb4.out.size)
      clear hown5 hrd5 hb5
      go_wp2_with fail
      refine (HG2 _).out.mono ?_
      rintro e w6 ⟨v6, rfl, hown6, hb6⟩
      obtain ⟨A6, c6, rfl, hnc6, hrd6⟩ := own_slice hown6
      have Hb56 := Lib.hid hb6
      have Hb6 : Hid (Below wr.heap.size wr w6) := Hb5.out.trans (hb6.mono Hb5.out.size)
      clear hown6 hrd6 hb6
      go_wp2_with fail
      refine (errno_any _ _).mono ?_
      rintro e w' ⟨rfl, rfl⟩
      go_wp2_with fail
      refine (sameInts_true A5 A c5 c X w6 w5.heap.size wr.heap.size (Hrd5.out.below Hb56.out) (Hrd.out.below Hb6.out) (by omega)).mono ?_
      rintro e w7 ⟨rfl, n7, rfl⟩
      go_wp2_with fail
      refine (errno_any _ _).mono ?_
      rintro e w' ⟨rfl, rfl⟩
      go_wp2_with fail
      go_ret
      exact ⟨rfl, below_drewN (Hb1.out.trans ((hbw.out.mono hs1).trans (Hb6.out.mono (Nat.le_trans hs1 hsw)))) _⟩
end Go.Proofs.Ythpnhodpfhagaaa
