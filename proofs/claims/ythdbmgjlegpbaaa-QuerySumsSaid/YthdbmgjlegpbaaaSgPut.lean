/- Segments in plain words; the walk through the reference's Put. -/
import Derived.Test.YthdbmgjlegpbaaaSgRise
import Derived.Test.YthdbmgjlegpbaaaSgTail
namespace Go.Proofs.Ythdbmgjlegpbaaa
open Go.RowKit
set_option linter.unusedVariables false

def Sg.mark : ByteArray := ⟨#[83, 69, 71, 49]⟩
def Sg.names (ps : List Pt.Point) : List ByteArray := ps.map fun p => p.1
def Sg.times (ps : List Pt.Point) : List Int := ps.map fun p => p.2.1
def Sg.vals (ps : List Pt.Point) : List Int := ps.map fun p => p.2.2
def Sg.bodyB (r : Int) (ps : List Pt.Point) : ByteArray := Sg.mark ++ Wr.putB r ++ Wr.putB (ps.length : Int) ++ Cl.textsB (Sg.names ps) ++ Cl.intsB (Sg.times ps) ++ Cl.intsB (Sg.vals ps)
def Sg.fileB (b : ByteArray) : ByteArray := b ++ Sg.tailB (Sm.hashL b.data.toList)
def Sg.putR (r : Int) (ps : List Pt.Point) : ByteArray × Int := if r < 1 ∨ 512 < r then (⟨#[]⟩, 1302) else if Sg.riseB ps then (Sg.fileB (Sg.bodyB r ps), 0) else (⟨#[]⟩, 1300)
theorem putR_range {r : Int} {ps : List Pt.Point} (h : r < 1 ∨ 512 < r) : Sg.putR r ps = (⟨#[]⟩, 1302) := by unfold Sg.putR; rw [if_pos h]
theorem putR_form {r : Int} {ps : List Pt.Point} (h : ¬ (r < 1 ∨ 512 < r)) (hp : Sg.riseB ps = false) : Sg.putR r ps = (⟨#[]⟩, 1300) := by unfold Sg.putR; rw [if_neg h, hp]; rfl
theorem putR_good {r : Int} {ps : List Pt.Point} (h : ¬ (r < 1 ∨ 512 < r)) (hp : Sg.riseB ps = true) : Sg.putR r ps = (Sg.fileB (Sg.bodyB r ps), 0) := by unfold Sg.putR; rw [if_neg h, hp]; rfl
theorem rise_len {ps : List Pt.Point} (h : Sg.riseB ps = true) : ps.length ≤ 64 := by unfold Sg.riseB at h; simp at h; exact h.1
theorem rise_may {ps : List Pt.Point} (h : Sg.riseB ps = true) : ∀ p ∈ ps, Pt.mayB p = true := by
  unfold Sg.riseB at h
  rw [Bool.and_eq_true, List.all_eq_true] at h
  intro p hp
  obtain ⟨i, hi, rfl⟩ := List.getElem_of_mem hp
  have := h.2 i (by simp [hi])
  rw [okAt_eq hi, Bool.and_eq_true] at this
  exact this.1
theorem may_parts {p : Pt.Point} (h : Pt.mayB p = true) : p.1.size ≤ 12 ∧ (-2147483648 ≤ p.2.1 ∧ p.2.1 ≤ 2147483647) ∧ (-2147483648 ≤ p.2.2 ∧ p.2.2 ≤ 2147483647) :=
  ⟨Pt.may_name h, (Pt.smallB_iff _).1 (Pt.may_time h), (Pt.smallB_iff _).1 (Pt.may_value h)⟩
theorem names_short {ps : List Pt.Point} (h : ∀ p ∈ ps, Pt.mayB p = true) : ∀ x ∈ Sg.names ps, x.size ≤ 12 := fun x hx => by
  unfold Sg.names at hx; rw [List.mem_map] at hx; obtain ⟨p, hp, rfl⟩ := hx; exact Pt.may_name (h p hp)
theorem times_small {ps : List Pt.Point} (h : ∀ p ∈ ps, Pt.mayB p = true) : ∀ x ∈ Sg.times ps, Pt.smallB x = true := fun x hx => by
  unfold Sg.times at hx; rw [List.mem_map] at hx; obtain ⟨p, hp, rfl⟩ := hx; exact Pt.may_time (h p hp)
theorem vals_small {ps : List Pt.Point} (h : ∀ p ∈ ps, Pt.mayB p = true) : ∀ x ∈ Sg.vals ps, Pt.smallB x = true := fun x hx => by
  unfold Sg.vals at hx; rw [List.mem_map] at hx; obtain ⟨p, hp, rfl⟩ := hx; exact Pt.may_value (h p hp)
theorem wordsL_le' {ws : List ByteArray} (h : ∀ w ∈ ws, w.size ≤ 12) : (Cl.wordsL ws).length ≤ 13 * ws.length := by
  induction ws with
  | nil => simp [Cl.wordsL]
  | cons w ws ih =>
    have h1 := textB_13 (h w (by simp))
    have h2 := ih (fun x hx => h x (by simp [hx]))
    have : Cl.wordsL (w :: ws) = (Wr.textB w).data.toList ++ Cl.wordsL ws := by simp [Cl.wordsL]
    rw [this, List.length_append, Wr.len_list, List.length_cons]; omega
theorem textsB_le {xs : List ByteArray} (h : ∀ x ∈ xs, x.size ≤ 12) (hn : xs.length ≤ 65536) : (Cl.textsB xs).size ≤ 8 + 20 * xs.length := by
  have hs : Cl.shortB xs = true := by unfold Cl.shortB; rw [List.all_eq_true]; exact fun x hx => decide_eq_true (h x hx)
  have h1 := wordsL_le' (Cl.tx_short [] xs (by simp) h)
  have h2 := placesL_le (Cl.txGo [] xs).2 0 (fun k hk => by have := Cl.tx_places [] xs k hk; have := (Cl.tx_len [] xs).1; simp at this; omega)
  have h3 := Cl.tx_len [] xs
  have h4 := Wr.putL_len ((Cl.txGo [] xs).1.length : Int)
  simp only [List.length_nil, Nat.zero_add] at h3
  have e : (Cl.textsB xs).data.toList = Cl.textsL xs := by unfold Cl.textsB; rw [if_pos hs]
  rw [← Wr.len_list, e]
  unfold Cl.textsL
  rw [List.length_append, List.length_append]; omega
theorem intsB_le {xs : List Int} (h : ∀ x ∈ xs, Pt.smallB x = true) : (Cl.intsB xs).size ≤ 5 * xs.length := by
  have ha := List.all_eq_true.2 h
  have e : (Cl.intsB xs).data.toList = Cl.intsD 0 xs := by unfold Cl.intsB; rw [if_pos ha]
  rw [← Wr.len_list, e]
  exact Cl.intsD_len 0 xs (by decide) ha

/-- three rows of the call's own, beside one another -/
structure Rows3 (base : Nat) (vn vt vv : Value) (N : List ByteArray) (T V : List Int) (w : World) : Prop where
  n : w.ownsRow base 9 1 vn N.length (N.map Value.string)
  t : w.ownsRow base 3 1 vt T.length (T.map (Value.int .i64))
  v : w.ownsRow base 3 1 vv V.length (V.map (Value.int .i64))
  ne : ∀ g, vt.ownBlock = some g → vv.ownBlock ≠ some g
section
variable {base : Nat} {vn vt vv v' : Value} {N : List ByteArray} {T V : List Int} {w w' : World}
theorem Rows3.nil (base : Nat) (w : World) : Rows3 base (.slice none 0 0) (.slice none 0 0) (.slice none 0 0) [] [] [] w := ⟨own_nil _ _ _ _, own_nil _ _ _ _, own_nil _ _ _ _, fun g h => by simp [Value.ownBlock] at h⟩
theorem Rows3.pushN (h : Rows3 base vn vt vv N T V w) (x : ByteArray) (hown : w'.ownsRow base 9 1 v' (N.length + 1) (N.map Value.string ++ [.string x])) (ho : Only (fun k => vn.ownBlock = some k) w w') : Rows3 base v' vt vv (N ++ [x]) T V w' :=
  ⟨by rw [List.length_append, List.map_append]; exact hown, own_push h.t h.n ho (by decide), own_push h.v h.n ho (by decide), h.ne⟩
theorem Rows3.pushT (h : Rows3 base vn vt vv N T V w) (x : Int) (hown : w'.ownsRow base 3 1 v' (T.length + 1) (T.map (Value.int .i64) ++ [.int .i64 x])) (ho : Only (fun k => vt.ownBlock = some k) w w') (hb : ∀ g, v'.ownBlock = some g → vt.ownBlock = some g ∨ w.heap.size ≤ g) : Rows3 base vn v' vv N (T ++ [x]) V w' :=
  ⟨own_push h.n h.t ho (by decide), by rw [List.length_append, List.map_append]; exact hown, own_only h.v ho (fun g hg e => h.ne g e hg), fun g hg e => by
    rcases hb g hg with k | k
    · exact h.ne g k e
    · have := (own_lt h.v e).2; omega⟩
theorem Rows3.pushV (h : Rows3 base vn vt vv N T V w) (x : Int) (hown : w'.ownsRow base 3 1 v' (V.length + 1) (V.map (Value.int .i64) ++ [.int .i64 x])) (ho : Only (fun k => vv.ownBlock = some k) w w') (hb : ∀ g, v'.ownBlock = some g → vv.ownBlock = some g ∨ w.heap.size ≤ g) : Rows3 base vn vt v' N T (V ++ [x]) w' :=
  ⟨own_push h.n h.v ho (by decide), own_only h.t ho (fun g hg e => h.ne g hg e), by rw [List.length_append, List.map_append]; exact hown, fun g hg e => by
    rcases hb g e with k | k
    · exact h.ne g hg k
    · have := (own_lt h.t hg).2; omega⟩
end
theorem take_map_snoc {α β : Type} (f : α → β) (l : List α) (k : Nat) (h : k < l.length) : (l.take (k + 1)).map f = (l.take k).map f ++ [f l[k]] := map_take_snoc f l k h
theorem puts_join (M a b c d e : ByteArray) : M ++ a ++ b ++ c ++ d ++ e = M ++ a ++ b ++ c ++ d ++ e := rfl

set_option maxRecDepth 100000 in
set_option maxHeartbeats 2000000 in
theorem rsgput_any (r : Int) (A : Option Addr) (c : Nat) (ps : List Pt.Point) (w : World) (B : Nat) (hr : Reads w B 3 A ps.length (ps.flatMap pointCells)) (hB : B ≤ w.heap.size) (hn : ps.length ≤ 140737488355328) (hwf : ∀ p ∈ ps, Pt.wf p) (hsz : ∀ p ∈ ps, p.1.size ≤ 9223372036854775807) :
    Calls Try.prog 37 #[.int .i64 r, .slice A ps.length c] w fun e w' => e = .returned (.tuple #[.string (Sg.putR r ps).1, .int .i64 (Sg.putR r ps).2]) ∧ Below w.heap.size w w' := by
  obtain ⟨i0, hi, hz0, hz1, hz2⟩ := info_parts info_string
  obtain ⟨i1, hi', hy0, hy1, hy2⟩ := info_parts info_int
  have HRs := Lib.hid (rrises_any A c ps w B hr hB hn hwf hsz)
  have HRd := Lib.hid hr
  by_cases hrg : r < 1 ∨ 512 < r
  · have HR := Lib.hid (putR_range (ps := ps) hrg)
    generalize Sg.putR r ps = res at *
    clear HRs hr hwf hsz
    by_cases h1 : r < 1
    · clear hrg
      go_enter Try.func37, Try.ntmps37
      go_wp2_with fail
      go_ret2
      exact ⟨by rw [HR.out]; rfl, Below.refl _ _⟩
    · have h2 : 512 < r := by omega
      clear hrg
      go_enter Try.func37, Try.ntmps37
      go_wp2_with fail
      go_ret2
      exact ⟨by rw [HR.out]; rfl, Below.refl _ _⟩
  · have hr1 : ¬ r < 1 := by omega
    have hr2 : ¬ 512 < r := by omega
    have d1 : decide (r < 1) = false := decide_eq_false hr1
    have d2 : decide (512 < r) = false := decide_eq_false hr2
    cases hrise : Sg.riseB ps
    · have HR := Lib.hid (putR_form hrg hrise)
      rw [hrise] at HRs
      generalize Sg.putR r ps = res at *
      clear hr hwf hsz hrise hrg
      go_enter Try.func37, Try.ntmps37
      go_wp2_with fail
      refine HRs.out.mono ?_
      rintro e w1 ⟨rfl, hb1⟩
      go_wp2_with fail
      go_ret2
      exact ⟨by rw [HR.out]; rfl, hb1⟩
    · have HR := Lib.hid (putR_good hrg hrise)
      rw [hrise] at HRs
      have h64 := rise_len hrise
      have hmay := rise_may hrise
      have HM := Lib.hid hmay
      have hTl := textsB_le (names_short hmay) (by simp [Sg.names]; omega)
      have hI1 := intsB_le (times_small hmay)
      have hI2 := intsB_le (vals_small hmay)
      have hln : (Sg.names ps).length = ps.length := by simp [Sg.names]
      have hlt' : (Sg.times ps).length = ps.length := by simp [Sg.times]
      have hlv : (Sg.vals ps).length = ps.length := by simp [Sg.vals]
      have hpr := Wr.putL_len r
      have hpr' : (Wr.putB r).size ≤ 8 := by rw [Wr.putB_size]; exact hpr
      have hpn : (Wr.putB (ps.length : Int)).size ≤ 8 := by rw [Wr.putB_size]; exact Wr.putL_len _
      have HN1 := fun W => Lib.hid (rnum_any r W (by omega))
      have HN2 := fun W => Lib.hid (rnum_any (ps.length : Int) W (by omega))
      have htw : ∀ x ∈ Sg.times ps, -9223372036854775808 ≤ x ∧ x ≤ 9223372036854775807 := fun x hx => by have := (Pt.smallB_iff x).1 (times_small hmay x hx); omega
      have hvw : ∀ x ∈ Sg.vals ps, -9223372036854775808 ≤ x ∧ x ≤ 9223372036854775807 := fun x hx => by have := (Pt.smallB_iff x).1 (vals_small hmay x hx); omega
      have Htw := Lib.hid htw
      have Hvw := Lib.hid hvw
      have Hln := Lib.hid hln
      have Hlt := Lib.hid hlt'
      have Hlv := Lib.hid hlv
      have hqT : (Cl.textsB (Sg.names ps)).size ≤ 2000 := by omega
      have hqI : (Cl.intsB (Sg.times ps)).size ≤ 2000 := by omega
      have hqV : (Cl.intsB (Sg.vals ps)).size ≤ 2000 := by omega
      generalize Sg.putR r ps = res at *
      clear hr hwf hsz hrise hrg hmay htw hvw hln hlt' hlv hTl hI1 hI2 hpr
      go_enter Try.func37, Try.ntmps37
      go_wp2_with fail
      refine HRs.out.mono ?_
      rintro e w1 ⟨rfl, hb1⟩
      have Hb1 := Lib.hid hb1
      have hs1 := hb1.size
      clear hb1 HRs
      go_wp2_with fail
      go_loopw [6, 7, 8, 9] (fun vn vt vv i wr => ∃ k : Nat, k ≤ ps.length ∧ i = .int .i64 (k : Int) ∧ Hid (Rows3 w1.heap.size vn vt vv (Sg.names (ps.take k)) (Sg.times (ps.take k)) (Sg.vals (ps.take k)) wr) ∧ Hid (Below w1.heap.size w1 wr)) (fun _ _ _ i _ => ps.length - (intOf i).toNat)
      case atStart => exact ⟨0, Nat.zero_le _, rfl, Lib.hid (Rows3.nil _ _), Lib.hid (Below.refl _ _)⟩
      case round =>
        obtain ⟨k, hk, rfl, h3, hbw⟩ := hrel
        have hsw := hbw.out.size
        by_cases hlt : k < ps.length
        · obtain ⟨bb, off, rfl, hbb, hc⟩ := HRd.out.2 (by omega)
          have hcx := fun (W : World) (hb : Below w1.heap.size w1 W) => pt_cells (wr := W) hlt hc (fun p hp => (hb.cell (p := p) (by omega)).trans (Hb1.out.cell (p := p) (by omega))) hbb
          have Hcx := Lib.hid hcx
          obtain ⟨hc0, hc1, hc2⟩ := hcx wr hbw.out
          have Hn : Hid (Sg.names (ps.take (k + 1)) = Sg.names (ps.take k) ++ [ps[k].1]) := map_take_snoc _ ps k hlt
          have Ht : Hid (Sg.times (ps.take (k + 1)) = Sg.times (ps.take k) ++ [ps[k].2.1]) := map_take_snoc _ ps k hlt
          have Hv : Hid (Sg.vals (ps.take (k + 1)) = Sg.vals (ps.take k) ++ [ps[k].2.2]) := map_take_snoc _ ps k hlt
          have hl1 : (Sg.names (ps.take k)).length ≤ 64 := by simp [Sg.names]; omega
          have hl2 : (Sg.times (ps.take k)).length ≤ 64 := by simp [Sg.times]; omega
          have hl3 : (Sg.vals (ps.take k)).length ≤ 64 := by simp [Sg.vals]; omega
          clear hc hcx
          generalize Sg.names (ps.take k) = N at *
          generalize Sg.times (ps.take k) = T at *
          generalize Sg.vals (ps.take k) = V at *
          generalize ps[k].1 = nm at *
          generalize ps[k].2.1 = t at *
          generalize ps[k].2.2 = v at *
          go_wp2_with (first
            | (at_builtin; refine wpList_push_only wr (o := ⟨some 33, _, _, _, _, _⟩) rfl _ _ 24 rfl w1.heap.size 9 i0 _ 1 16 Try.underlying24 hi hz0 hz1 hz2 rfl (by decide) _ N.length _ (by rfl) h3.out.n [.string nm] (by rfl) rfl (by simp [Value.oneCell']) (by unfold maxLen; omega) (by omega) hsw ?_; intro v7 w7 hown7 ho7 hn7; have H7 := Lib.hid (h3.out.pushN nm hown7 ho7); have Hb7 : Hid (Below w1.heap.size w1 w7) := hbw.out.trans (ho7.below (fun j hj e => own_ne_lt h3.out.n hj e) hsw); have hs7 := Hb7.out.size; have hd1 := (Hcx.out w7 Hb7.out).2.1; clear hown7 ho7 hn7)
            | (at_builtin; refine wpList_push_only w7 (o := ⟨some 41, _, _, _, _, _⟩) rfl _ _ 22 rfl w1.heap.size 3 i1 _ 1 8 Try.underlying22 hi' hy0 hy1 hy2 rfl (by decide) _ T.length _ (by rfl) H7.out.t [.int .i64 t] (by rfl) rfl (by simp [Value.oneCell']) (by unfold maxLen; omega) (by omega) hs7 ?_; intro v8 w8 hown8 ho8 hn8; have H8 := Lib.hid (H7.out.pushT t hown8 ho8 hn8); have Hb8 : Hid (Below w1.heap.size w1 w8) := Hb7.out.trans (ho8.below (fun j hj e => own_ne_lt H7.out.t hj e) hs7); have hs8 := Hb8.out.size; have he2 := (Hcx.out w8 Hb8.out).2.2; clear hown8 ho8 hn8)
            | (at_builtin; refine wpList_push_only w8 (o := ⟨some 49, _, _, _, _, _⟩) rfl _ _ 22 rfl w1.heap.size 3 i1 _ 1 8 Try.underlying22 hi' hy0 hy1 hy2 rfl (by decide) _ V.length _ (by rfl) H8.out.v [.int .i64 v] (by rfl) rfl (by simp [Value.oneCell']) (by unfold maxLen; omega) (by omega) hs8 ?_; intro v9 w9 hown9 ho9 hn9; have H9 := Lib.hid (H8.out.pushV v hown9 ho9 hn9); have Hb9 : Hid (Below w1.heap.size w1 w9) := Hb8.out.trans (ho9.below (fun j hj e => own_ne_lt H8.out.v hj e) hs8); clear hown9 ho9 hn9))
          rw [← Hn.out, ← Ht.out, ← Hv.out] at H9
          go_wp2_with fail
          go_roundw
          case rel => exact ⟨k + 1, by omega, by go_num, H9, Hb9⟩
          case measure => simp [intOf]; omega
        · have htk : ps.take k = ps := List.take_of_length_le (by omega)
          rw [htk] at h3
          obtain ⟨An, cn, rfl, hnn, hrn⟩ := own_slice h3.out.n
          obtain ⟨At, ct, rfl, hnt, hrt⟩ := own_slice h3.out.t
          obtain ⟨Av, cv, rfl, hnv, hrv⟩ := own_slice h3.out.v
          have HT := fun W (hb : Below wr.heap.size wr W) => Lib.hid (rtexts_any An cn (Sg.names ps) W wr.heap.size (hrn.below hb) hb.size (by rw [Hln.out]; omega))
          have HI := fun W (hb : Below wr.heap.size wr W) => Lib.hid (rints_any At ct (Sg.times ps) W wr.heap.size (hrt.below hb) hb.size (by rw [Hlt.out]; omega) Htw.out)
          have HV := fun W (hb : Below wr.heap.size wr W) => Lib.hid (rints_any Av cv (Sg.vals ps) W wr.heap.size (hrv.below hb) hb.size (by rw [Hlv.out]; omega) Hvw.out)
          have HRb : Hid (res = (Sg.fileB (Sg.mark ++ Wr.putB r ++ Wr.putB (ps.length : Int) ++ Cl.textsB (Sg.names ps) ++ Cl.intsB (Sg.times ps) ++ Cl.intsB (Sg.vals ps)), 0)) := HR.out
          clear htk h3 hrn hrt hrv HR HM
          generalize Cl.textsB (Sg.names ps) = TB at *
          generalize Cl.intsB (Sg.times ps) = IB at *
          generalize Cl.intsB (Sg.vals ps) = VB at *
          generalize Wr.putB r = RB at *
          generalize Wr.putB (ps.length : Int) = NB at *
          generalize Sg.names ps = NN at *
          generalize Sg.times ps = TT at *
          generalize Sg.vals ps = VV at *
          go_wp2_with fail
          refine (HN1 _).out.mono ?_
          rintro e w2 ⟨rfl, hb2⟩
          have Hb2 := Lib.hid hb2
          clear hb2
          go_wp2_with fail
          refine (HN2 _).out.mono ?_
          rintro e w3 ⟨rfl, hb3⟩
          have Hb3 : Hid (Below wr.heap.size wr w3) := Hb2.out.trans (hb3.mono Hb2.out.size)
          clear hb3
          go_wp2_with fail
          refine (HT _ Hb3.out).out.mono ?_
          rintro e w4 ⟨rfl, hb4⟩
          have Hb4 : Hid (Below wr.heap.size wr w4) := Hb3.out.trans (hb4.mono Hb3.out.size)
          clear hb4
          go_wp2_with fail
          refine (HI _ Hb4.out).out.mono ?_
          rintro e w5 ⟨rfl, hb5⟩
          have Hb5 : Hid (Below wr.heap.size wr w5) := Hb4.out.trans (hb5.mono Hb4.out.size)
          clear hb5
          go_wp2_with fail
          refine (HV _ Hb5.out).out.mono ?_
          rintro e w6 ⟨rfl, hb6⟩
          have Hb6 : Hid (Below wr.heap.size wr w6) := Hb5.out.trans (hb6.mono Hb5.out.size)
          clear hb6
          go_wp2_with fail
          have HRc : Hid (res = (Sg.fileB (⟨#[83, 69, 71, 49]⟩ ++ RB ++ NB ++ TB ++ IB ++ VB), 0)) := HRb.out
          have hbs : ((⟨#[83, 69, 71, 49]⟩ : ByteArray) ++ RB ++ NB ++ TB ++ IB ++ VB).size ≤ 10000 := by
            simp only [ByteArray.size_append]
            have : (⟨#[83, 69, 71, 49]⟩ : ByteArray).size = 4 := rfl
            omega
          clear HRb
          generalize (⟨#[83, 69, 71, 49]⟩ : ByteArray) ++ RB ++ NB ++ TB ++ IB ++ VB = BD at *
          refine (rhash_any BD _ (by unfold maxLen; omega)).mono ?_
          rintro e w' ⟨rfl, rfl⟩
          have hhl := Sm.hashL_lt BD.data.toList
          have hts := Sg.tailB_size (Sm.hashL BD.data.toList)
          have hts' : (Sg.tailB (Sm.hashL BD.data.toList)).size ≤ 8 := by omega
          have HR8 := fun W => Lib.hid (reight_any (Sm.hashL BD.data.toList) W hhl)
          have HRd2 : Hid (res = (BD ++ Sg.tailB (Sm.hashL BD.data.toList), 0)) := HRc.out
          clear hts HRc hhl
          generalize Sm.hashL BD.data.toList = hh at *
          go_wp2_with fail
          refine (HR8 _).out.mono ?_
          rintro e w7 ⟨rfl, hb7⟩
          have Hb7 : Hid (Below wr.heap.size wr w7) := Hb6.out.trans (hb7.mono Hb6.out.size)
          clear hb7
          generalize Sg.tailB hh = TL at *
          go_wp2_with fail
          go_ret2
          exact ⟨by rw [HRd2.out]; rfl, Hb1.out.trans ((hbw.out.mono hs1).trans (Hb7.out.mono (Nat.le_trans hs1 hsw)))⟩
end Go.Proofs.Ythdbmgjlegpbaaa
