/- The walk through the law IngestLast (chapter 11). -/
import Derived.Test.YtfopbkgbegeffaaK12
import Derived.Deep.DeepCutAuto
namespace Go.Proofs.Ytfopbkgbegeffaa
open Go.RowKit
set_option linter.unusedVariables false

namespace Ig
/-- the buffer that holds V t at each time t < 4 with I t -/
def lst (V : Nat → Int) (I : Nat → Bool) (n : Nat) : List Pt.Point := (List.range n).filterMap fun (t : Nat) => if I t = true then some (pt (t : Int) (V t)) else none
def cnt (I : Nat → Bool) (n : Nat) : Nat := ((List.range n).filter I).length
theorem mem_lst {V : Nat → Int} {I : Nat → Bool} {n : Nat} {p : Pt.Point} : p ∈ lst V I n ↔ ∃ t, t < n ∧ I t = true ∧ p = pt (t : Int) (V t) := by
  unfold lst
  rw [List.mem_filterMap]
  constructor
  · rintro ⟨t, ht, h⟩
    rw [List.mem_range] at ht
    by_cases hi : I t = true
    · rw [if_pos hi] at h; exact ⟨t, ht, hi, by injection h with h; exact h.symm⟩
    · rw [if_neg hi] at h; cases h
  · rintro ⟨t, ht, hi, rfl⟩
    exact ⟨t, List.mem_range.2 ht, by rw [if_pos hi]⟩
theorem cmp_lt {a b : Int} {x y : Int} (h : a < b) : Pt.cmpP (pt a x) (pt b y) < 0 := by
  rw [cmp_pt]; unfold Lib.compareInt; rw [if_pos h]; omega
theorem cmp_eq {a b : Int} {x y : Int} (h : a ≠ b) : Pt.cmpP (pt a x) (pt b y) ≠ 0 := by
  rw [cmp_pt]; unfold Lib.compareInt
  by_cases h1 : a < b
  · rw [if_pos h1]; omega
  · rw [if_neg h1, if_pos (by omega)]; omega
theorem lst_sorted (V : Nat → Int) (I : Nat → Bool) (n : Nat) : Sorted (lst V I n) := by
  rw [sorted_pair]
  unfold lst
  rw [List.pairwise_filterMap]
  refine List.Pairwise.imp ?_ (List.pairwise_lt_range (n := n))
  intro a b hab x hx y hy
  by_cases ha : I a = true
  · by_cases hb : I b = true
    · rw [if_pos ha] at hx; rw [if_pos hb] at hy
      injection hx with hx; injection hy with hy
      subst hx; subst hy
      exact cmp_lt (by omega)
    · rw [if_neg hb] at hy; cases hy
  · rw [if_neg ha] at hx; cases hx
def updV (V : Nat → Int) (t : Nat) (x : Int) : Nat → Int := fun j => if j = t then x else V j
def updI (I : Nat → Bool) (t : Nat) : Nat → Bool := fun j => if j = t then true else I j
theorem lst_set (V : Nat → Int) (I : Nat → Bool) (n t : Nat) (x : Int) (ht : t < n) : setP (lst V I n) (pt (t : Int) x) = lst (updV V t x) (updI I t) n := by
  refine sorted_ext (setP_sorted (lst_sorted V I n)) (lst_sorted _ _ n) fun p => ?_
  rw [mem_setP_iff (lst_sorted V I n), mem_lst, mem_lst]
  constructor
  · rintro (rfl | ⟨⟨u, hu, hi, rfl⟩, hne⟩)
    · exact ⟨t, ht, by simp [updI], by simp [updV]⟩
    · have hut : u ≠ t := fun e => hne (by subst e; rw [cmp_pt]; unfold Lib.compareInt; simp)
      exact ⟨u, hu, by simp [updI, hut, hi], by simp [updV, hut]⟩
  · rintro ⟨u, hu, hi, rfl⟩
    by_cases hut : u = t
    · subst hut; left; simp [updV]
    · right
      refine ⟨⟨u, hu, by simpa [updI, hut] using hi, by simp [updV, hut]⟩, cmp_eq (by omega)⟩
theorem lst_len (V : Nat → Int) (I : Nat → Bool) (n : Nat) : (lst V I n).length = cnt I n := by
  unfold lst cnt
  induction n with
  | zero => rfl
  | succ n ih =>
    rw [List.range_succ, List.filterMap_append, List.filter_append, List.length_append, List.length_append, ih]
    congr 1
    by_cases h : I n = true
    · simp [h]
    · simp [h]
theorem lst_split (V : Nat → Int) (I : Nat → Bool) (n m : Nat) (h : n ≤ m) : ∃ r, lst V I m = lst V I n ++ r := by
  induction m with
  | zero => obtain rfl : n = 0 := by omega
            exact ⟨[], by rw [List.append_nil]⟩
  | succ m ih =>
    by_cases e : n = m + 1
    · subst e; exact ⟨[], by rw [List.append_nil]⟩
    · obtain ⟨r, hr⟩ := ih (by omega)
      refine ⟨r ++ (if I m = true then [pt (m : Int) (V m)] else []), ?_⟩
      have : lst V I (m + 1) = lst V I m ++ (if I m = true then [pt (m : Int) (V m)] else []) := by
        unfold lst
        rw [List.range_succ, List.filterMap_append]
        congr 1
        by_cases hi : I m = true
        · simp [hi]
        · simp [hi]
      rw [this, hr, List.append_assoc]
theorem cnt_yes {I : Nat → Bool} {n : Nat} (h : I n = true) : cnt I (n + 1) = cnt I n + 1 := by unfold cnt; rw [List.range_succ, List.filter_append]; simp [h]
theorem cnt_no {I : Nat → Bool} {n : Nat} (h : I n = false) : cnt I (n + 1) = cnt I n := by unfold cnt; rw [List.range_succ, List.filter_append]; simp [h]
theorem cnt_le (I : Nat → Bool) (n : Nat) : cnt I n ≤ n := by unfold cnt; have := List.length_filter_le I (List.range n); simpa using this
theorem cnt_mono {I : Nat → Bool} {n m : Nat} (h : n ≤ m) : cnt I n ≤ cnt I m := by
  obtain ⟨r, hr⟩ := lst_split (fun _ => 0) I n m h
  have := congrArg List.length hr
  rw [lst_len, List.length_append, lst_len] at this
  omega
theorem lst_at (V : Nat → Int) (I : Nat → Bool) (n m : Nat) (h : n < m) (hi : I n = true) : ∃ hl : cnt I n < (lst V I m).length, (lst V I m)[cnt I n] = pt (n : Int) (V n) := by
  obtain ⟨r, hr⟩ := lst_split V I (n + 1) m h
  have e : lst V I (n + 1) = lst V I n ++ [pt (n : Int) (V n)] := by
    unfold lst
    rw [List.range_succ, List.filterMap_append]
    simp [hi]
  rw [e] at hr
  have hl : (lst V I n).length = cnt I n := lst_len V I n
  have hlt : cnt I n < (lst V I m).length := by rw [hr]; simp [hl]
  refine ⟨hlt, ?_⟩
  have h2 : (lst V I m)[cnt I n]? = some (pt (n : Int) (V n)) := by rw [hr, ← hl]; simp
  rw [List.getElem?_eq_getElem hlt] at h2
  injection h2
def lm (j : Nat) (r u : Int) (V : Nat → Int) (I : Nat → Bool) : M := ⟨1 + (j : Int), [(1, (j : Int), r, u)], lst V I 4, [], []⟩
theorem lm_step {j : Nat} {r u : Int} {V : Nat → Int} {I : Nat → Bool} {t : Nat} (hj : j < 6) (ht : t < 4) : applyM (lm j r u V I) 0 0 1 ((j : Int) + 1) [pt (t : Int) (10 + (j : Int))] = (lm (j + 1) (2 + (j : Int)) (2 + (j : Int)) (updV V t (10 + (j : Int))) (updI I t), (j : Int) + 2, 0) := by
  rw [apply_open _ _ _ _ _ (by simp only [lm]; omega) (by simp only [lm]; omega), take_write (m := up (lm j r u V I)) (q := (j : Int)) rfl (by omega) (by omega) (by omega) (pt_batch (by omega) (by omega)) (by simp only [up, lm]; omega)]
  have e1 : (up (lm j r u V I)).at_ = 2 + (j : Int) := by simp only [up, lm]; omega
  rw [e1]
  have e2 : setAll (up (lm j r u V I)).opn [pt (t : Int) (10 + (j : Int))] = setP (lst V I 4) (pt (t : Int) (10 + (j : Int))) := rfl
  rw [e2, lst_set V I 4 t _ ht]
  unfold lm
  simp only [up]
  rw [show 1 + ((j + 1 : Nat) : Int) = 2 + (j : Int) from by omega, show ((j + 1 : Nat) : Int) = (j : Int) + 1 from by omega, show (j : Int) + 2 = 2 + (j : Int) from by omega]
end Ig
def cellsV (V : Nat → Int) : Array Value := #[.int .i64 (V 0), .int .i64 (V 1), .int .i64 (V 2), .int .i64 (V 3)]
def cellsI (I : Nat → Bool) : Array Value := #[.bool (I 0), .bool (I 1), .bool (I 2), .bool (I 3)]
theorem makeV : ∀ w : World, (Instr.makeSlice 49 (.int .i64 4) (.int .i64 4)).run Try.prog w = .ok (.slice (some ⟨w.heap.size, 0, none⟩) 4 4) (w.alloc (.cells (cellsV fun _ => 0) 3)) := by
  intro w; kernel_rfl
theorem makeI : ∀ w : World, (Instr.makeSlice 52 (.int .i64 4) (.int .i64 4)).run Try.prog w = .ok (.slice (some ⟨w.heap.size, 0, none⟩) 4 4) (w.alloc (.cells (cellsI fun _ => false) 4)) := by
  intro w; kernel_rfl
theorem cellsV_set (V : Nat → Int) (t : Nat) (x : Int) : (cellsV V).setIfInBounds t (.int .i64 x) = cellsV (Ig.updV V t x) := by
  unfold cellsV Ig.updV
  rcases t with _ | _ | _ | _ | t <;> simp
theorem cellsI_set (I : Nat → Bool) (t : Nat) : (cellsI I).setIfInBounds t (.bool true) = cellsI (Ig.updI I t) := by
  unfold cellsI Ig.updI
  rcases t with _ | _ | _ | _ | t <;> simp
theorem cellsV_at (V : Nat → Int) (t : Nat) (h : t < 4) : (cellsV V)[t]? = some (.int .i64 (V t)) := by
  unfold cellsV
  rcases t with _ | _ | _ | _ | t <;> first | rfl | omega
theorem cellsI_at (I : Nat → Bool) (t : Nat) (h : t < 4) : (cellsI I)[t]? = some (.bool (I t)) := by
  unfold cellsI
  rcases t with _ | _ | _ | _ | t <;> first | rfl | omega
set_option maxRecDepth 100000 in
set_option maxHeartbeats 4000000 in
theorem ingestLast_walk {w : World} (A0 : Option Addr) (c0 : Nat) (z0 : List Int) (rd0 : Reads w w.heap.size 1 A0 z0.length (z0.map (Value.int .i64))) (wf0 : ∀ n ∈ z0, (Lit.int .i64 n).wf = true) (nb0 : z0.length * 8 ≤ 140737488351232) :
    Calls Try.prog 6 #[.slice A0 z0.length c0] w fun e w' => e = .returned (.bool true) ∧ Below w.heap.size w w' := by
  have HC0 := Lib.hid (fun (j : Nat) (hj : j < z0.length) => show ∃ b off, A0 = some ⟨b, off, none⟩ ∧ b < w.heap.size ∧ w.cell? ⟨b, off + j, none⟩ = some (.int .i64 z0[j]) from by
    obtain ⟨b, off, e, hb, hc⟩ := rd0.2 (by omega)
    exact ⟨b, off, e, hb, hc j _ (by simp [hj])⟩)
  clear rd0 wf0
  go_enter Try.func6, Try.ntmps6
  go_wp2_with fail
  refine (awake11 _).mono ?_
  rintro e w1 ⟨rfl, hb1⟩
  have Hb1 := Lib.hid hb1
  have hs1 := hb1.size
  clear hb1
  go_wp2_with fail
  refine (begun_any w1).mono ?_
  rintro e w2 ⟨rfl, hm2, hb2⟩
  have HM2 := Lib.hid hm2
  have Hb2 : Hid (Below w1.heap.size w1 w2) := hb2
  have hs2 := hb2.size
  clear hm2 hb2
  go_upto_region 4 with fail
  go_cut [4, 5] (fun v i wx => ∃ bv bi : Nat, v = .slice (some ⟨bv, 0, none⟩) 4 4 ∧ i = .slice (some ⟨bi, 0, none⟩) 4 4 ∧ Hid (Blk wx bv 3 (cellsV fun _ => 0)) ∧ Hid (Blk wx bi 4 (cellsI fun _ => false)) ∧ bv ≠ bi ∧ w2.heap.size ≤ bv ∧ w2.heap.size ≤ bi ∧ Hid (Below w2.heap.size w2 wx))
  case first =>
    have mk1 := makeV
    have mk2 := makeI
    go_region
    all_goals
      go_wp2_with fail
      go_meet
    · refine ⟨w2.heap.size, w2.heap.size + 1, rfl, rfl, ?_, ?_, by omega, by omega, by omega, ?_⟩
      · exact ((Blk.new w2 _ _).alloc _).drew
      · have := Blk.new (w2.alloc (.cells (cellsV fun _ => 0) 3)) 4 (cellsI fun _ => false)
        rw [World.size_alloc] at this
        exact this.drew
      · exact (((Below.refl _ w2).alloc (Nat.le_refl _) _).alloc (by simp) _).drew
    · refine ⟨w2.heap.size + 1, w2.heap.size, rfl, rfl, ?_, ?_, by omega, by omega, by omega, ?_⟩
      · have := Blk.new (w2.alloc (.cells (cellsI fun _ => false) 4)) 3 (cellsV fun _ => 0)
        rw [World.size_alloc] at this
        exact this.drew
      · exact ((Blk.new w2 _ _).alloc _).drew
      · exact (((Below.refl _ w2).alloc (Nat.le_refl _) _).alloc (by simp) _).drew
  case rest =>
    obtain ⟨bv, bi, rfl, rfl, hbv, hbi, hne, hv2, hi2, hbc⟩ := hcut
    generalize wc = w3 at *
    have hsc := hbc.out.size
    have hltv := hbv.out.lt
    have hlti := hbi.out.lt
    have HM3 := Lib.hid (HM2.out.more (Y := fun k => k = bv ∨ k = bi) hbc.out (fun k q => .inr (by omega)))
    have Hb3 : Hid (Below w1.heap.size w1 w3) := Hb2.out.trans (hbc.out.mono hs2)
    clear HM2 Hb2 hbc
    have HST := Lib.hid (fun j r u V I t hj ht => @Ig.lm_step j r u V I t hj ht)
    have HIN : Hid (∀ (m : Ig.M) v c s n bs, Ig.Inv m → Ig.Inv (Ig.applyM m v c s n bs).1) := fun m v c s n bs h => Ig.inv_apply h v c s n bs
    go_wp2_with fail
    go_loopw [6, 7, 8, 9] (fun i _ _ _ wr => ∃ (j : Nat) (V : Nat → Int) (I : Nat → Bool) (r u : Int), j ≤ 6 ∧ i = .int .i64 (j : Int) ∧ Hid (MachX wr w1.heap.size w1.heap.size (Ig.lm j r u V I) (fun k => k = bv ∨ k = bi)) ∧ Hid (Ig.Inv (Ig.lm j r u V I)) ∧ Hid (Blk wr bv 3 (cellsV V)) ∧ Hid (Blk wr bi 4 (cellsI I)) ∧ Hid (Below w1.heap.size w1 wr)) (fun i _ _ _ _ => 6 - (intOf i).toNat)
    case atStart => exact ⟨0, fun _ => 0, fun _ => false, 1, 1, by omega, rfl, HM3, Ig.inv1, hbv, hbi, Hb3⟩
    case round =>
      obtain ⟨j, V, I, r, u, hj, rfl, hm, hI, hbV, hbI, hbw⟩ := hrel
      have hsw := hbw.out.size
      have hlv := hbV.out.lt
      have hli := hbI.out.lt
      by_cases hlt : j < z0.length ∧ j < 6
      · obtain ⟨hl1, hl2⟩ := hlt
        have hd1 : decide (j < z0.length) = true := decide_eq_true hl1
        have hd2 : decide ((j : Int) < 6) = true := decide_eq_true (by omega)
        have hd3 : decide ((j : Int) < (z0.length : Int)) = true := decide_eq_true (by omega)
        obtain ⟨bd, off, rfl, hbd, hcd⟩ := HC0.out j hl1
        have hcr := (hbw.out.cell (p := ⟨bd, off + j, none⟩) (by show bd < _; omega)).trans ((Hb1.out.cell (p := ⟨bd, off + j, none⟩) hbd).trans hcd)
        obtain ⟨t, ht, hand⟩ := and_low z0[j] 3 (by omega)
        rw [show ((3 : Nat) : Int) = 3 from rfl] at hand
        clear hcd
        generalize z0[j] = zj at *
        have hnn : ((j : Int) + 2 != (j : Int) + 2) = false := by simp
        have t0 : (0 : Int) ≤ (t : Int) := by omega
        have t4 : (t : Int) < 4 := by omega
        go_wp2_with fail
        refine (writeE_any ((j : Int) + 1) (t : Int) (10 + (j : Int)) wr).mono ?_
        rintro e w5 ⟨b5, rfl, hr, h1, h2, hb5⟩
        have HA := Lib.hid (applyW hm.out hI.out (fun k h => by rcases h with h | h <;> omega) hsw hb5 h1 h2 hr (by omega) (by omega) ((j : Int) + 1))
        have HI := Lib.hid (HIN.out _ 0 0 1 ((j : Int) + 1) [Ig.pt (t : Int) (10 + (j : Int))] hI.out)
        rw [HST.out j r u V I t hl2 (by omega)] at HA HI
        have Hb5 : Hid (Below w1.heap.size w1 w5) := hbw.out.trans (hb5.mono hsw)
        have hs5 := Hb5.out.size
        have HV5 := Lib.hid (hbV.out.below hb5 hlv)
        have HI5 := Lib.hid (hbI.out.below hb5 hli)
        clear hr h1 h2 hb5 hm hbw hI hbV hbI
        go_wp2_with fail
        refine HA.out.mono ?_
        rintro e w6 ⟨rfl, hm6, ho6⟩
        have HV6 := Lib.hid (HV5.out.only ho6 (fun q => q.2 (.inl rfl)))
        have HI6 := Lib.hid (HI5.out.only ho6 (fun q => q.2 (.inr rfl)))
        have Hb6 : Hid (Below w1.heap.size w1 w6) := Hb5.out.trans (ho6.below (fun k hk q => by omega) hs5)
        have HV7 : Hid (Blk (w6.setCell ⟨bv, t, none⟩ (.int .i64 (10 + (j : Int)))) bv 3 (cellsV (Ig.updV V t (10 + (j : Int))))) := by
          have := HV6.out.set_ t (.int .i64 (10 + (j : Int)))
          rwa [cellsV_set] at this
        have HI7 := Lib.hid (HI6.out.far (p := ⟨bv, t, none⟩) (fun e => hne e.symm) (.int .i64 (10 + (j : Int))))
        have HV8 := Lib.hid (HV7.out.far (p := ⟨bi, t, none⟩) hne (.bool true))
        have HI8 : Hid (Blk ((w6.setCell ⟨bv, t, none⟩ (.int .i64 (10 + (j : Int)))).setCell ⟨bi, t, none⟩ (.bool true)) bi 4 (cellsI (Ig.updI I t))) := by
          have := HI7.out.set_ t (.bool true)
          rwa [cellsI_set] at this
        have Hb8 : Hid (Below w1.heap.size w1 ((w6.setCell ⟨bv, t, none⟩ (.int .i64 (10 + (j : Int)))).setCell ⟨bi, t, none⟩ (.bool true))) := (Hb6.out.setCell (p := ⟨bv, t, none⟩) (by show w1.heap.size ≤ bv; omega) _).setCell (p := ⟨bi, t, none⟩) (by show w1.heap.size ≤ bi; omega) _
        have HM8 : Hid (MachX ((w6.setCell ⟨bv, t, none⟩ (.int .i64 (10 + (j : Int)))).setCell ⟨bi, t, none⟩ (.bool true)) w1.heap.size w1.heap.size (Ig.lm (j + 1) (2 + (j : Int)) (2 + (j : Int)) (Ig.updV V t (10 + (j : Int))) (Ig.updI I t)) (fun k => k = bv ∨ k = bi)) :=
          hm6.only (S := fun k => k = bv ∨ k = bi) (((Only.refl _ w6).setCell (p := ⟨bv, t, none⟩) (fun _ => .inl rfl) _).setCell (p := ⟨bi, t, none⟩) (fun _ => .inr rfl) _) (fun k _ h => h)
        have v0 := (HV6.out.cell t).trans (cellsV_at V t (by omega))
        have v1 := HV6.out.frozen t
        have i0 := (HI6.out.cell t).trans (cellsI_at I t (by omega))
        have i1 := HI6.out.frozen t
        have i2 := (HI7.out.cell t).trans (cellsI_at I t (by omega))
        have i3 := HI7.out.frozen t
        clear hm6 ho6 HA Hb5 hs5 HV5 HI5 HV6 HI6 HV7 HI7 Hb6
        try simp only
        go_wp2_with fail
        go_roundw
        case rel => exact ⟨j + 1, _, _, _, _, by omega, by go_num, HM8, HI, HV8, HI8, Hb8⟩
        case measure => simp [intOf]; omega
      · have hend : (decide (j < z0.length) = false ∧ decide ((j : Int) < (z0.length : Int)) = false) ∨ (decide (j < z0.length) = true ∧ decide ((j : Int) < (z0.length : Int)) = true ∧ decide ((j : Int) < 6) = false) := by
          by_cases h : j < z0.length
          · exact .inr ⟨decide_eq_true h, decide_eq_true (by omega), decide_eq_false (by omega)⟩
          · exact .inl ⟨decide_eq_false h, decide_eq_false (by omega)⟩
        have HOp := Lib.hid (openX hm.out (by have := Ig.inv_len hI.out; omega))
        have hlo : (Ig.lm j r u V I).opn.length = Ig.cnt I 4 := Ig.lst_len V I 4
        have hc4 := Ig.cnt_le I 4
        clear hlt hI hm HIN HST HC0
        rcases hend with ⟨hd1, hd3⟩ | ⟨hd1, hd3, hd2⟩
        all_goals
          go_wp2_with fail
          refine HOp.out.mono ?_
          rintro e w8 ⟨v8, rfl, hown8, hb8⟩
          obtain ⟨A8, c8, rfl, _, hr8⟩ := own_slice hown8
          rw [hlo] at hr8
          rw [hlo]
          have Hr8 : Hid (Reads w8 w8.heap.size 3 A8 (Ig.cnt I 4) ((Ig.lst V I 4).flatMap pointCells)) := hr8
          have HV8 := Lib.hid (hbV.out.below hb8 hlv)
          have HI8 := Lib.hid (hbI.out.below hb8 hli)
          have Hb8 : Hid (Below w.heap.size w w8) := Hb1.out.trans ((hbw.out.trans (hb8.mono hsw)).mono hs1)
          have Hlo := Lib.hid (Ig.lst_len V I 4)
          clear hown8 hb8 hr8 hlo HOp
          go_wp2_with fail
          go_loopw [11, 12] (fun kk tt wr => ∃ t n : Nat, t ≤ 4 ∧ tt = .int .i64 (t : Int) ∧ kk = .int .i64 (Ig.cnt I t : Int) ∧ wr = w8.drewN n) (fun _ tt _ => 4 - (intOf tt).toNat)
          case atStart => exact ⟨0, 0, by omega, rfl, rfl, rfl⟩
          case round =>
            obtain ⟨t, n, ht, rfl, rfl, rfl⟩ := hrel
            by_cases hlt : t < 4
            · have t0 : (0 : Int) ≤ (t : Int) := by omega
              have t4 : (t : Int) < 4 := by omega
              have x1 := (HI8.out.cell t).trans (cellsI_at I t hlt)
              have x2 := (HV8.out.cell t).trans (cellsV_at V t hlt)
              cases hit : I t
              · have hcn := Lib.hid (Ig.cnt_no hit)
                rw [hit] at x1
                clear hit
                generalize V t = vt at *
                generalize Ig.cnt I t = kk at *
                go_wp2_with fail
                go_roundw
                case rel => exact ⟨t + 1, n, by omega, by go_num, by rw [hcn.out], rfl⟩
                case measure => simp [intOf]; omega
              · have hcn := Lib.hid (Ig.cnt_yes hit)
                obtain ⟨hl, hat⟩ := Ig.lst_at V I t 4 hlt hit
                obtain ⟨b8, o8, rfl, hb8', hc8⟩ := Hr8.out.2 (by have := Ig.cnt_mono (I := I) (show t + 1 ≤ 4 by omega); have := hcn.out; omega)
                have hkk : Ig.cnt I t < Ig.cnt I 4 := by rw [Hlo.out] at hl; exact hl
                have hps := pt_cells (wr := w8) hl hc8 (fun p hp => rfl) hb8'
                rw [hat] at hps
                obtain ⟨y0, y1, y2⟩ := hps
                simp only [Ig.pt] at y0 y1 y2
                rw [hit] at x1
                clear hit hat hl hc8 hbv hbi HV8 HI8 Hlo
                have hd5 : decide (Ig.cnt I 4 ≤ Ig.cnt I t) = false := decide_eq_false (by omega)
                have hd6 : decide ((Ig.cnt I 4 : Int) ≤ (Ig.cnt I t : Int)) = false := decide_eq_false (by omega)
                have k0 : (0 : Int) ≤ (Ig.cnt I t : Int) := by omega
                have k1 : (Ig.cnt I t : Int) < (Ig.cnt I 4 : Int) := by omega
                generalize V t = vt at *
                generalize Ig.cnt I t = kk at *
                generalize Ig.cnt I 4 = k4 at *
                go_wp2_with fail
                go_quiet (fail)
                go_wp2_with fail
                go_roundw
                case rel => exact ⟨t + 1, n + nq, by omega, by go_num, by rw [hcn.out]; go_num, rfl⟩
                case measure => simp [intOf]; omega
            · obtain rfl : t = 4 := by omega
              have hee : ((Ig.cnt I 4 : Int) == (Ig.cnt I 4 : Int)) = true := by simp
              clear HV8 HI8 hbv hbi Hlo
              generalize Ig.cnt I 4 = k4 at *
              go_wp2_with fail
              go_ret
              exact ⟨rfl, below_drewN Hb8.out _⟩
end Go.Proofs.Ytfopbkgbegeffaa
