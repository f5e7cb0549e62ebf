/- Joined texts: IgSnapP, RmPlain, RmAsk, Open, Open3, Ent, SvMay, PtRbatch, SvRmay, RfInsP. -/
import Derived.Test.YtmnigoibbcigdaaGreatK1
import Derived.Test.YtmnigoibbcigdaaGreatK10
import Derived.Test.YtmnigoibbcigdaaGreatK2
import Derived.Test.YtmnigoibbcigdaaGreatK4
import Derived.Test.YtmnigoibbcigdaaGreatK7
import Derived.ProofKit
import Derived.OpenShut
import Derived.ShutString
import Derived.SliceStrings
import Derived.Deep.Slices
import Derived.Deep.Fields
import Derived.ChangeSame
import Derived.SizedLaws
import Derived.Lib.SmallJoins
import Derived.BigQuiet
/- A machine's text, there and back: plain (chapter 11). No walk in sight. -/
namespace Go.Proofs.YtmnigoibbcigdaaGreat
open Go.RowKit
set_option linter.unusedVariables false
namespace Ig

theorem num8_tail (x : Nat) (h : x < 18446744073709551616) : num8 (Sg.tailL x) = x := by
  have e : Sg.tailL x = [Sg.tailAt x 0, Sg.tailAt x 1, Sg.tailAt x 2, Sg.tailAt x 3, Sg.tailAt x 4, Sg.tailAt x 5, Sg.tailAt x 6, Sg.tailAt x 7] := rfl
  have t : ∀ j, (Sg.tailAt x j).toNat = x / 256 ^ (7 - j) % 256 := fun j => by
    unfold Sg.tailAt
    rw [UInt8.toNat_ofNat']
    exact Nat.mod_mod _ _
  rw [e]
  unfold num8
  simp only [List.foldl_cons, List.foldl_nil, t]
  simp only [Nat.reduceSub, Nat.reducePow]
  omega
def Fit (m : M) : Prop := m.rows.all Se.fitsB = true
theorem tails_list (s : ByteArray) (pre post : List UInt8) (d : Int) (hl : s.data.toList = pre ++ ((Sg.tailB d.toNat).data.toList ++ post)) : rdBytes s ((pre.length : Int), false) = (Sg.tailB d.toNat, (((pre ++ (Sg.tailB d.toNat).data.toList).length : Int), false)) := by
  have h8 : (Sg.tailB d.toNat).data.toList.length = 8 := by have := Sg.tailB_size d.toNat; simpa using this
  have hs : s.size = pre.length + (8 + post.length) := by
    have := congrArg List.length hl
    rw [List.length_append, List.length_append, h8] at this
    rw [← this]; simp
  rw [bytes_yes (by omega)]
  congr 1
  · apply Wr.ext_list
    rw [Lib.extract_data, hl, List.drop_left, Nat.add_sub_cancel_left, List.take_append_of_le_length (by omega), List.take_of_length_le (by omega)]
  · congr 1
    rw [List.length_append, h8]; simp
theorem digs_back (s : ByteArray) (pre : List UInt8) (ds : List Int) (post : List UInt8) (hr : ∀ d ∈ ds, 0 ≤ d ∧ d < 18446744073709551616) (hl : s.data.toList = pre ++ (ds.flatMap (fun x => (Sg.tailB x.toNat).data.toList) ++ post)) (k : Nat) (hk : k ≤ ds.length) :
    rdDigs s ((pre.length : Int), false) k = (ds.take k, (((pre ++ (ds.take k).flatMap (fun x => (Sg.tailB x.toNat).data.toList)).length : Int), false)) := by
  induction k with
  | zero => simp [rdDigs]
  | succ k ih =>
    have hk' : k < ds.length := by omega
    rw [rdDigs, ih (by omega)]
    simp only
    have hd := hr ds[k] (List.getElem_mem hk')
    rw [tails_list s (pre ++ (ds.take k).flatMap (fun x => (Sg.tailB x.toNat).data.toList)) ((ds.drop (k + 1)).flatMap (fun x => (Sg.tailB x.toNat).data.toList) ++ post) ds[k] ?_]
    · simp only
      rw [List.take_succ_eq_append_getElem hk', List.flatMap_append]
      congr 1
      · congr 2
        show (num8 (Sg.tailL ds[k].toNat) : Int) = _
        rw [num8_tail _ (by omega)]
        omega
      · congr 2
        simp
    · rw [hl]
      have : ds.flatMap (fun x => (Sg.tailB x.toNat).data.toList) = (ds.take k ++ ds[k] :: ds.drop (k + 1)).flatMap (fun x => (Sg.tailB x.toNat).data.toList) := by rw [← List.drop_eq_getElem_cons hk', List.take_append_drop]
      rw [this, List.flatMap_append, List.flatMap_cons]
      simp only [List.append_assoc]
theorem load_parts {m : M} (hI : Inv m) (hf : Fit m) (h8 : m.at_ % 8 = 0) (s : ByteArray) (post : List UInt8) (hl : s.data.toList = snapL m ++ post) :
    loadR s = if post = [] then some ⟨m.at_, m.rows, [], m.digs, []⟩ else none := by
  have hp := Se.put_ok hI.rows hf
  have hg := Se.get_put hI.rows hf
  have h0 := hI.at0
  have h1 := hI.at1
  have hdl := hI.dl
  have hsz := putR_size m.rows
  rw [hp] at hsz
  simp only at hsz
  unfold snapL at hl
  rw [hp] at hl
  simp only at hl
  generalize (⟨(Se.rowsL m.rows).toArray⟩ : ByteArray) = T at *
  have n1 : Wr.isNum m.at_ = true := Pt.small_num ((Pt.smallB_iff _).2 (by omega))
  have n2 : Wr.isNum (m.digs.length : Int) = true := Pt.small_num ((Pt.smallB_iff _).2 (by omega))
  have r1 := Pt.rdNum_put s [] ((Wr.textB T).data.toList ++ (Wr.putL (m.digs.length : Int) ++ m.digs.flatMap (fun x => (Sg.tailB x.toNat).data.toList)) ++ post) m.at_ 0 4096 (by rw [hl]; simp) n1 h0 h1
  have r2 := Pt.getT_at_text s (Wr.putL m.at_) (Wr.putL (m.digs.length : Int) ++ m.digs.flatMap (fun x => (Sg.tailB x.toNat).data.toList) ++ post) T 65536 (by rw [hl]; simp) (by omega) (by omega)
  have r4 := Pt.rdNum_put s (Wr.putL m.at_ ++ (Wr.textB T).data.toList) (m.digs.flatMap (fun x => (Sg.tailB x.toNat).data.toList) ++ post) (m.digs.length : Int) 0 512 (by rw [hl]; simp) n2 (by omega) (by omega)
  have r5 := digs_back s (Wr.putL m.at_ ++ (Wr.textB T).data.toList ++ Wr.putL (m.digs.length : Int)) m.digs post hI.dr (by rw [hl]; simp) m.digs.length (Nat.le_refl _)
  rw [List.take_length] at r5
  have hsz2 : s.size = (Wr.putL m.at_ ++ (Wr.textB T).data.toList ++ Wr.putL (m.digs.length : Int) ++ m.digs.flatMap (fun x => (Sg.tailB x.toNat).data.toList)).length + post.length := by
    rw [← Wr.len_list s, hl]; simp only [List.length_append]; omega
  rw [List.length_nil] at r1
  have e1 : ((0 : Nat) : Int) + ((Wr.putL m.at_).length : Int) = ((Wr.putL m.at_).length : Int) := by omega
  rw [e1] at r1
  have r3 : Pt.rdText s 65536 (((Wr.putL m.at_).length : Int), false) = (T, (((Wr.putL m.at_ ++ (Wr.textB T).data.toList).length : Int), false)) := by
    unfold Pt.rdText
    rw [r2]
    simp only
    rw [if_neg (by simp), List.length_append]
    congr 2
  have e4 : ((Wr.putL m.at_ ++ (Wr.textB T).data.toList).length : Int) + ((Wr.putL (m.digs.length : Int)).length : Int) = ((Wr.putL m.at_ ++ (Wr.textB T).data.toList ++ Wr.putL (m.digs.length : Int)).length : Int) := by
    simp only [List.length_append]; omega
  rw [e4] at r4
  have hn : (m.at_ / 8).toNat = m.digs.length := by omega
  have hcond : ¬ ((m.digs.length : Int) ≠ m.at_ / 8 ∨ m.at_ % 8 ≠ 0 ∨ false = true ∨ (0 : Int) ≠ 0) := by
    rintro (h | h | h | h)
    · exact h hdl
    · exact h h8
    · cases h
    · exact h rfl
  by_cases hpost : post = []
  · subst hpost
    rw [if_pos rfl]
    have h5 : (rdDigs s (((Wr.putL m.at_ ++ (Wr.textB T).data.toList ++ Wr.putL (m.digs.length : Int)).length : Int), false) (m.at_ / 8).toNat).2 = ((s.size : Int), false) := by
      rw [hn, r5, hsz2]; simp
    rw [load_yes (by exact r1) r3 hg r4 hcond h5, hn, r5]
  · rw [if_neg hpost]
    refine load_over (by exact r1) r3 hg r4 ?_
    rw [hn, r5, hsz2]
    intro e
    have := (Prod.mk.inj e).1
    have hp : 0 < post.length := List.length_pos_iff.2 hpost
    omega
theorem load_snap {m : M} (hI : Inv m) (hf : Fit m) (h8 : m.at_ % 8 = 0) : loadR ⟨(snapL m).toArray⟩ = some ⟨m.at_, m.rows, [], m.digs, []⟩ := by
  rw [load_parts hI hf h8 _ [] (by simp), if_pos rfl]
theorem load_more {m : M} (hI : Inv m) (hf : Fit m) (h8 : m.at_ % 8 = 0) (t : ByteArray) (ht : t.data.toList ≠ []) : loadR (⟨(snapL m).toArray⟩ ++ t) = none := by
  rw [load_parts hI hf h8 _ t.data.toList (by rw [Wr.append_list]), if_neg ht]
/-- the numbers of a table stay numbers that are written -/
theorem fit_row {a b c d : Int} (h1 : Wr.isNum a = true) (h2 : Wr.isNum b = true) (h3 : Wr.isNum c = true) (h4 : Wr.isNum d = true) : Se.fitsB (a, b, c, d) = true := by
  unfold Se.fitsB; simp only [h1, h2, h3, h4]; rfl
theorem small_num' {x : Int} (h : 0 ≤ x ∧ x ≤ 2147483647) : Wr.isNum x = true := Pt.small_num ((Pt.smallB_iff _).2 (by omega))
theorem fit_take {m : M} (h : Fit m) (h0 : 0 ≤ m.at_ ∧ m.at_ ≤ 4096) (v c s n : Int) (bs : List Pt.Point) : Fit (takeM m v c s n bs).1 := by
  unfold takeM
  split
  · rename_i hmay
    have hn : numB s = true ∧ numB n = true := by
      unfold mayB at hmay
      rw [Bool.and_eq_true, List.all_eq_true] at hmay
      exact ⟨hmay.1 s (by simp), hmay.1 n (by simp)⟩
    have hb : ∀ x : Int, numB x = true → 0 ≤ x ∧ x ≤ 2147483647 := fun x hx => by unfold numB at hx; simpa using hx
    have n1 := small_num' (hb s hn.1)
    have n2 := small_num' (hb n hn.2)
    have n3 : Wr.isNum m.at_ = true := small_num' (by omega)
    have n0 : Wr.isNum 0 = true := small_num' (by omega)
    show (Se.applyR m.rows s n m.at_).1.all Se.fitsB = true
    unfold Fit at h
    rw [List.all_eq_true] at h ⊢
    intro r hr
    unfold Se.applyR at hr
    split at hr
    · exact h r hr
    · split at hr
      · rcases Se.open_mem hr with q | q
        · exact h r q
        · subst q; exact fit_row n3 n0 n3 n3
      · split at hr
        · exact h r hr
        · split at hr
          · exact h r hr
          · rcases List.mem_or_eq_of_mem_set hr with q | q
            · exact h r q
            · subst q; exact fit_row n1 n2 n3 n3
  · exact h
theorem fit_apply {m : M} (hI : Inv m) (h : Fit m) (v c s n : Int) (bs : List Pt.Point) : Fit (applyM m v c s n bs).1 := by
  have h0 := hI.at0
  unfold applyM
  split
  · exact h
  · have := fit_take (m := up m) h (by show 0 ≤ m.at_ + 1 ∧ m.at_ + 1 ≤ 4096; omega) v c s n bs
    simp only
    split
    · exact this
    · exact this
theorem at_apply {m : M} (v c s n : Int) (bs : List Pt.Point) (h : m.at_ < 4096) : (applyM m v c s n bs).1.at_ = m.at_ + 1 := by
  unfold applyM
  rw [if_neg (by omega)]
  simp only
  split
  · exact take_at (up m) v c s n bs
  · exact take_at (up m) v c s n bs
theorem fit1 : Fit m1 := by show m1.rows.all Se.fitsB = true; decide +kernel
end Ig
end Go.Proofs.YtmnigoibbcigdaaGreat
/- The reference's machine, plain: how its answers meet the machine's own (chapter 11). No walk in sight. -/
namespace Go.Proofs.YtmnigoibbcigdaaGreat
open Go.RowKit
set_option linter.unusedVariables false

namespace Ig
theorem putR_tight (r : Int) (ps : List Pt.Point) : (Sg.putR r ps).1.size ≤ 1000000 := by
  unfold Sg.putR
  split
  · show 0 ≤ 1000000; exact Nat.zero_le _
  · split
    · rename_i hr
      have hl := rise_len hr
      have hm := rise_may hr
      have h1 := textsB_le (xs := Sg.names ps) (names_short hm) (by unfold Sg.names; simp; omega)
      have h2 := intsB_le (xs := Sg.times ps) (times_small hm)
      have h3 := intsB_le (xs := Sg.vals ps) (vals_small hm)
      have h4 := Wr.putL_len r
      have h5 := Wr.putL_len (ps.length : Int)
      have e1 : (Sg.names ps).length = ps.length := by unfold Sg.names; simp
      have e2 : (Sg.times ps).length = ps.length := by unfold Sg.times; simp
      have e3 : (Sg.vals ps).length = ps.length := by unfold Sg.vals; simp
      unfold Sg.fileB Sg.bodyB
      have h7 : ∀ x, (Sg.tailB x).size = 8 := Sg.tailB_size
      have h6 : Sg.mark.size = 4 := rfl
      simp only [ByteArray.size_append, h7, h6, Wr.putB_size]
      omega
    · show 0 ≤ 1000000; exact Nat.zero_le _
/-- the texts of the seals are no longer than this -/
def Sz (m : M) : Prop := ∀ f ∈ m.seals, f.2.size ≤ 1000000
theorem sz0 : Sz m0 := fun f h => by simp [m0] at h
theorem sz_apply {m : M} (h : Sz m) (v c s n : Int) (bs : List Pt.Point) : Sz (applyM m v c s n bs).1 := by
  unfold applyM
  split
  · exact h
  · have ht : (takeM (up m) v c s n bs).1.seals = m.seals := by unfold takeM; split <;> rfl
    split
    · intro f hf
      have hf' : f ∈ (takeM (up m) v c s n bs).1.seals ++ [((takeM (up m) v c s n bs).1.at_ / 8, segB (takeM (up m) v c s n bs).1)] := hf
      rw [ht] at hf'
      rcases List.mem_append.1 hf' with q | q
      · exact h f q
      · rw [List.mem_singleton] at q; subst q; exact putR_tight _ _
    · intro f hf
      have hf' : f ∈ (takeM (up m) v c s n bs).1.seals := hf
      rw [ht] at hf'
      exact h f hf'
/-- the reference asks with the machine's own place; what it makes of the answer -/
def rcode (ask res : Int) : Int := if res < 0 then (if ask = 3 then 3 else 4) else 0
theorem ask_three (rows : List Se.Row) (s n a b : Int) : (Se.askR rows s n a).1 = 3 ↔ (Se.askR rows s n b).1 = 3 := by
  unfold Se.askR
  split
  · exact Iff.rfl
  · split
    · constructor <;> intro h <;> split at h <;> simp at h
    · exact Iff.rfl
theorem ask_yes (rows : List Se.Row) (s n t a : Int) (h : ¬ (Se.applyR rows s n t).2.1 < 0) : (Se.askR rows s n a).1 = 0 := by
  unfold Se.applyR at h
  unfold Se.askR
  by_cases hs : s = 0
  · rw [if_pos hs]
  · rw [if_neg hs]
    by_cases h1 : Se.mayB rows = false ∨ t < 1 ∨ (s = 0 ∧ Se.idx rows t < rows.length)
    · rw [if_pos h1] at h; exact absurd (show (-1 : Int) < 0 by decide) h
    · rw [if_neg h1, if_neg hs] at h
      by_cases h2 : ¬ Se.idx rows s < rows.length ∨ n < (Se.at_ rows s).2.1
      · rw [if_pos h2] at h; exact absurd (show (-1 : Int) < 0 by decide) h
      · rw [not_or] at h2
        rw [if_neg h2.1, if_neg h2.2]
        split <;> rfl
theorem code_same (rows : List Se.Row) (s n t : Int) : codeOf (Se.askR rows s n 4096).1 (Se.applyR rows s n t).2.1 = rcode (Se.askR rows s n t).1 (Se.applyR rows s n t).2.1 := by
  unfold codeOf rcode
  by_cases h : (Se.applyR rows s n t).2.1 < 0
  · rw [if_pos h]
    by_cases h3 : (Se.askR rows s n t).1 = 3
    · have h4 := (ask_three rows s n t 4096).1 h3
      rw [if_pos h3, if_neg (fun q => q.2 h4)]
      exact h4
    · rw [if_neg h3, if_pos ⟨h, fun q => h3 ((ask_three rows s n 4096 t).1 q)⟩]
  · rw [if_neg h, if_neg (fun q => h q.1)]
    exact ask_yes rows s n t 4096 h
end Ig
end Go.Proofs.YtmnigoibbcigdaaGreat
/- The walk through the reference's Ask (chapter 10). Printed by gen_rask.py. -/
namespace Go.Proofs.YtmnigoibbcigdaaGreat
open Go.RowKit
set_option linter.unusedVariables false

set_option maxRecDepth 100000 in
set_option maxHeartbeats 1000000 in
theorem rask_any (A : Option Addr) (c : Nat) (ps : List Se.Row) (s num last : Int) (w : World) (B : Nat) (hr : Reads w B 4 A ps.length (ps.flatMap rowCells)) (hB : B ≤ w.heap.size) (hn : ps.length ≤ 140737488355328) :
    Calls Tryz.prog 24 #[.slice A ps.length c, .int .i64 s, .int .i64 num, .int .i64 last] w (AskPost w (Se.askR ps s num last)) := by
  have HF := Lib.hid ((rat_any A c ps s w B hr hn).mono fun e w' h => And.intro h.1 (show Below w.heap.size w w' from h.2 ▸ Below.refl _ _))
  have H0 := Lib.hid (@ask_zero ps s num last)
  have H1 := Lib.hid (@ask_exp ps s num last)
  have H2 := Lib.hid (@ask_none ps s num last)
  have H3 := Lib.hid (@ask_old ps s num last)
  have H4 := Lib.hid (@ask_same ps s num last)
  have H5 := Lib.hid (@ask_new ps s num last)
  have HR := Lib.hid hr
  clear hr
  generalize Se.askR ps s num last = res at *
  by_cases h0 : s = 0
  · have Hres := Lib.hid (H0.out h0)
    have hz : (s == 0) = true := by simp [h0]
    clear H0 H1 H2 H3 H4 H5
    go_enter Tryz.func24, Tryz.ntmps24
    go_wp2_with fail
    go_ret2
    exact ⟨by rw [Hres.out]; rfl, Below.refl _ _⟩
  · have hz : (s == 0) = false := by simp [h0]
    by_cases hx : Se.idx ps s < ps.length
    · rw [findV_lt hx] at HF
      have hnx : ¬ ¬ Se.idx ps s < ps.length := fun h => h hx
      have H3' := Lib.hid (H3.out h0 hnx)
      have H4' := Lib.hid (H4.out h0 hnx)
      have H5' := Lib.hid (H5.out h0 hnx)
      rw [Se.at_lt hx] at H3' H4' H5'
      clear H0 H1 H2 H3 H4 H5 hnx
      generalize Se.idx ps s = ix at *
      obtain ⟨b, off, rfl, hbl, hc⟩ := HR.out.2 (by omega)
      have hcx := fun (W : World) (hb : Below w.heap.size w W) => row_cells (wr := W) hx hc (fun p hp => hb.cell (p := p) (by omega)) hbl
      have Hcx := Lib.hid hcx
      clear hcx hc
      generalize ps[ix].2.1 = N at *
      generalize ps[ix].2.2.1 = R at *
      have hd0 : decide ((ix : Int) < 0) = false := decide_eq_false (by omega)
      have hi1 : (ix : Int) < (ps.length : Int) := by omega
      by_cases h1 : num < N
      · have Hres := Lib.hid (H3'.out h1)
        clear H3' H4' H5'
        go_enter Tryz.func24, Tryz.ntmps24
        go_wp2_with fail
        refine HF.out.mono ?_
        rintro e w1 ⟨rfl, hb1⟩
        obtain ⟨hc0, hc1, hc2, hc3⟩ := Hcx.out w1 hb1
        have Hb1 := Lib.hid hb1
        clear hb1
        go_wp2_with fail
        go_ret2
        exact ⟨by rw [Hres.out]; rfl, Hb1.out⟩
      · by_cases h2 : num = N
        · have Hres := Lib.hid (H4'.out h1 h2)
          have hd2 : (num == N) = true := by simp [h2]
          clear H3' H4' H5' h2
          go_enter Tryz.func24, Tryz.ntmps24
          go_wp2_with fail
          refine HF.out.mono ?_
          rintro e w1 ⟨rfl, hb1⟩
          obtain ⟨hc0, hc1, hc2, hc3⟩ := Hcx.out w1 hb1
          have Hb1 := Lib.hid hb1
          clear hb1
          go_wp2_with fail
          go_quiet (fail)
          go_wp2_with fail
          go_ret2
          exact ⟨by rw [Hres.out]; rfl, below_drewN Hb1.out _⟩
        · have Hres := Lib.hid (H5'.out h1 h2)
          have hd2 : (num == N) = false := by simp [h2]
          clear H3' H4' H5' h2
          go_enter Tryz.func24, Tryz.ntmps24
          go_wp2_with fail
          refine HF.out.mono ?_
          rintro e w1 ⟨rfl, hb1⟩
          obtain ⟨hc0, hc1, hc2, hc3⟩ := Hcx.out w1 hb1
          have Hb1 := Lib.hid hb1
          clear hb1
          go_wp2_with fail
          go_ret2
          exact ⟨by rw [Hres.out]; rfl, Hb1.out⟩
    · rw [findV_no hx] at HF
      have hd0 : decide ((-1 : Int) < 0) = true := by decide
      by_cases h1 : 1 ≤ s
      · by_cases h2 : s ≤ last
        · have Hres := Lib.hid (H1.out h0 hx ⟨h1, h2⟩)
          have hd1 : decide (1 ≤ s) = true := decide_eq_true h1
          have hd2 : decide (s ≤ last) = true := decide_eq_true h2
          clear H0 H1 H2 H3 H4 H5 hx
          go_enter Tryz.func24, Tryz.ntmps24
          go_wp2_with fail
          refine HF.out.mono ?_
          rintro e w1 ⟨rfl, hb1⟩
          have Hb1 := Lib.hid hb1
          clear hb1
          go_wp2_with fail
          go_ret2
          exact ⟨by rw [Hres.out]; rfl, Hb1.out⟩
        · have Hres := Lib.hid (H2.out h0 hx (fun h => h2 h.2))
          have hd1 : decide (1 ≤ s) = true := decide_eq_true h1
          have hd2 : decide (s ≤ last) = false := decide_eq_false h2
          clear H0 H1 H2 H3 H4 H5 hx
          go_enter Tryz.func24, Tryz.ntmps24
          go_wp2_with fail
          refine HF.out.mono ?_
          rintro e w1 ⟨rfl, hb1⟩
          have Hb1 := Lib.hid hb1
          clear hb1
          go_wp2_with fail
          go_ret2
          exact ⟨by rw [Hres.out]; rfl, Hb1.out⟩
      · have Hres := Lib.hid (H2.out h0 hx (fun h => h1 h.1))
        have hd1 : decide (1 ≤ s) = false := decide_eq_false h1
        clear H0 H1 H2 H3 H4 H5 hx
        go_enter Tryz.func24, Tryz.ntmps24
        go_wp2_with fail
        refine HF.out.mono ?_
        rintro e w1 ⟨rfl, hb1⟩
        have Hb1 := Lib.hid hb1
        clear hb1
        go_wp2_with fail
        go_ret2
        exact ⟨by rw [Hres.out]; rfl, Hb1.out⟩
end Go.Proofs.YtmnigoibbcigdaaGreat
/- Arguments of a law opened: slices of integers, of texts, of structs, as lists that are read. No program in sight. -/
namespace Go.Proofs.YtmnigoibbcigdaaGreat
open Go.RowKit Go.ChangeShapes Go.WideShapes Go.Deep
set_option linter.unusedVariables false

theorem list_of {α : Type} (n : Nat) (P : Nat → α → Prop) (h : ∀ i, i < n → ∃ x, P i x) : ∃ xs : List α, xs.length = n ∧ ∀ i (hi : i < xs.length), P i xs[i] := by
  induction n with
  | zero => exact ⟨[], rfl, fun i hi => absurd hi (by simp)⟩
  | succ n ih =>
    obtain ⟨xs, hl, hx⟩ := ih fun i hi => h i (by omega)
    obtain ⟨x, hp⟩ := h n (by omega)
    refine ⟨xs ++ [x], by simp [hl], fun i hi => ?_⟩
    by_cases hi' : i < xs.length
    · rw [List.getElem_append_left hi']; exact hx i hi'
    · have : i = n := by simp at hi; omega
      subst this
      rw [List.getElem_append_right (by omega)]
      simpa [hl] using hp

/-- what a slice's datum is: nil, or its elements, each read by g, and spare places -/
def RowData {H α : Type} (d : DataW H) (g : α → DataW H) (xs : List α) : Prop := (d = .nil ∧ xs = []) ∨ ∃ spare, d = .slice (xs.map g) spare

section
variable {H : Type} {enc : TypeId × Value → H} {P : Program} {w : World}
theorem reach_eq : reachBytes = 140737488351232 := by decide
theorem sized_data {α : Type} {g : α → DataW H} {ts : List TypeId} {ds : List (DataW H)} (h : (DataW.weightsEach P ts ds).all (· ≤ reachBytes) = true) {j : Nat} {t e : TypeId} {d : DataW H} {xs : List α} (ht : ts[j]? = some t) (hd : ds[j]? = some d) (hu : P.underlying t = some (.slice e)) (hs : RowData d g xs) (b : Nat) (hb : P.bytesOf e = b) :
    xs.length * b ≤ 140737488351232 := by
  rcases hs with ⟨_, rfl⟩ | ⟨spare, rfl⟩
  · simp
  · have := sized_slice h ht hd hu
    rw [hb, List.length_map] at this
    have h2 : xs.length * b ≤ (xs.length + spare.length) * b := Nat.mul_le_mul_right _ (by omega)
    have h3 := reach_eq
    omega
theorem weights_all_mem {e : TypeId} {l : List (DataW H)} {d : DataW H} (h : d ∈ l) {n : Nat} (hn : n ∈ d.weights P e) : n ∈ DataW.weightsAll P e l := by
  induction l with
  | nil => cases h
  | cons x l ih =>
    simp only [DataW.weightsAll, List.mem_append]
    rcases List.mem_cons.1 h with rfl | h
    · exact .inl hn
    · exact .inr (ih h)
/-- the reach, of what lies in an element -/
theorem sized_elem {α : Type} {g : α → DataW H} {ts : List TypeId} {ds : List (DataW H)} (h : (DataW.weightsEach P ts ds).all (· ≤ reachBytes) = true) {j : Nat} {t e : TypeId} {d : DataW H} {xs : List α} (ht : ts[j]? = some t) (hd : ds[j]? = some d) (hu : P.underlying t = some (.slice e)) (hs : RowData d g xs)
    (x : α) (hx : x ∈ xs) (n : Nat) (hn : n ∈ (g x).weights P e) : n ≤ 140737488351232 := by
  rcases hs with ⟨_, rfl⟩ | ⟨spare, rfl⟩
  · cases hx
  · have := List.all_eq_true.1 h n (DataW.weights_mem_each ht hd n (by
      simp only [DataW.weights, hu, List.mem_cons, List.mem_append]
      exact .inr (.inl (weights_all_mem (List.mem_map_of_mem hx) hn))))
    rw [← reach_eq]
    simpa using this
def textData (s : ByteArray) : DataW H := .lit (.string s.data.toList)
def intData (k : IntKind) (n : Int) : DataW H := .lit (.int k n)
def fileData (f : Int × ByteArray) : DataW H := .agg [.lit (.int .i64 f.1), .lit (.string f.2.data.toList)]
theorem textData_weights (s : ByteArray) (e : TypeId) : s.size ∈ (textData (H := H) s).weights P e := by simp [textData, DataW.weights]

theorem spot_mk {a : Addr} {v : Value} (h : w.cell? (a.add 0) = some v) : ∃ b off, a = ⟨b, off, .none⟩ ∧ b < w.heap.size := by
  have e0 : a.add 0 = a := by unfold Addr.add; simp
  rw [e0] at h
  have hs := World.cell?_spot h
  obtain ⟨b, off, spot⟩ := a
  subst hs
  refine ⟨b, off, rfl, ?_⟩
  rcases Nat.lt_or_ge b w.heap.size with hlt | hge
  · exact hlt
  · simp [World.cell?, Array.getElem?_eq_none hge] at h

theorem open_int_list {t e : TypeId} {k : IntKind} {r : Reach} {base : Nat} {sp : Nat → Bool} {held : Bool} {v : Value} {d : DataW H} {p : List MemPlace} (ht : P.underlying t = some (.slice e)) (he : P.underlying e = some (.int k)) (hC : P.cellsOf e = 1)
    (hv : Value.okWide P w r base t v) (h : DataW.Trod enc P w 0 sp held t v d p) :
    ∃ (A : Option Addr) (c : Nat) (zs : List Int), v = .slice A zs.length c ∧ Reads w w.heap.size 1 A zs.length (zs.map (.int k)) ∧ (∀ n ∈ zs, (Lit.int k n).wf = true) ∧ RowData d (intData k) zs := by
  obtain ⟨A, len, cap, rfl⟩ := okWide_slice ht hv
  obtain ⟨fuel, hf⟩ := h
  rcases open_ints ht he hC hf with ⟨hcs, hx⟩ | ⟨a, l, c, zs, hcs, _, hl, hm, hz, hx, hcell, hwz⟩
  · simp [Value.cells] at hcs
    obtain ⟨rfl, rfl, rfl⟩ := hcs
    simp only [Prod.mk.injEq] at hx
    exact ⟨.none, 0, [], rfl, Reads.none_, by simp, .inl ⟨hx.1, rfl⟩⟩
  · simp [Value.cells] at hcs
    obtain ⟨rfl, rfl, rfl⟩ := hcs
    simp only [Prod.mk.injEq] at hx
    have hlz : len ≤ zs.length := by rw [hz]; split <;> omega
    have hlen : (zs.take len).length = len := by rw [List.length_take]; omega
    refine ⟨some a, cap, zs.take len, by rw [hlen], ?_, fun n hn => hwz n (List.mem_of_mem_take hn), .inr ⟨_, hx.1⟩⟩
    rw [hlen]
    refine ⟨by simp; omega, fun h0 => ?_⟩
    obtain ⟨b, off, rfl, hb⟩ := spot_mk (hcell 0 (by omega))
    refine ⟨b, off, rfl, hb, fun j u hu => ?_⟩
    have hj : j < len := by have := (List.getElem?_eq_some_iff.1 hu).1; simp at this; omega
    have := hcell j (by omega)
    rw [add_mk] at this
    rw [this, ← hu, List.getElem?_map, List.getElem?_take_of_lt hj, List.getD_eq_getElem?_getD, List.getElem?_eq_getElem (by omega)]
    rfl

theorem open_text_list {t e : TypeId} {r : Reach} {base : Nat} {sp : Nat → Bool} {held : Bool} {v : Value} {d : DataW H} {p : List MemPlace} (ht : P.underlying t = some (.slice e)) (he : P.underlying e = some .string) (hC : P.cellsOf e = 1)
    (hv : Value.okWide P w r base t v) (h : DataW.Trod enc P w 0 sp held t v d p) :
    ∃ (A : Option Addr) (c : Nat) (ss : List ByteArray), v = .slice A ss.length c ∧ Reads w w.heap.size 1 A ss.length (ss.map .string) ∧ (∀ s ∈ ss, s.size ≤ maxLen) ∧ RowData d textData ss := by
  obtain ⟨A, len, cap, rfl⟩ := okWide_slice ht hv
  obtain ⟨fuel, hf⟩ := h
  rcases open_strings ht he hC hf with ⟨hcs, hx⟩ | ⟨a, l, c, zs, hcs, _, hl, hm, hz, hx, hcell, hwz⟩
  · simp [Value.cells] at hcs
    obtain ⟨rfl, rfl, rfl⟩ := hcs
    simp only [Prod.mk.injEq] at hx
    exact ⟨.none, 0, [], rfl, Reads.none_, by simp, .inl ⟨hx.1, rfl⟩⟩
  · simp [Value.cells] at hcs
    obtain ⟨rfl, rfl, rfl⟩ := hcs
    simp only [Prod.mk.injEq] at hx
    have hlz : len ≤ zs.length := by rw [hz]; split <;> omega
    have hlen : (zs.take len).length = len := by rw [List.length_take]; omega
    refine ⟨some a, cap, zs.take len, by rw [hlen], ?_, fun n hn => hwz n (List.mem_of_mem_take hn), .inr ⟨_, hx.1⟩⟩
    rw [hlen]
    refine ⟨by simp; omega, fun h0 => ?_⟩
    obtain ⟨b, off, rfl, hb⟩ := spot_mk (hcell 0 (by omega))
    refine ⟨b, off, rfl, hb, fun j u hu => ?_⟩
    have hj : j < len := by have := (List.getElem?_eq_some_iff.1 hu).1; simp at this; omega
    have := hcell j (by omega)
    rw [add_mk] at this
    rw [this, ← hu, List.getElem?_map, List.getElem?_take_of_lt hj, List.getD_eq_getElem?_getD, List.getElem?_eq_getElem (by omega)]
    rfl

/-- a slice of structs of one-cell fields: of each element the cells, and that each is read by its field's type -/
theorem open_row_form {t e : TypeId} {fs : Array Field} {sp : Nat → Bool} {held : Bool} {v : Value} {d : DataW H} {p : List MemPlace} (ht : P.underlying t = some (.slice e)) (he : P.underlying e = some (.struct fs))
    (hone : oneCellFields P fs = true) (hC : P.cellsOf e = fs.size) (hfs : 0 < fs.size) (hv : ∃ A l c, v = .slice A l c) (h : DataW.Trod enc P w 0 sp held t v d p) :
    ∃ A n c, v = .slice A n c ∧ ((d = .nil ∧ n = 0) ∨ ∃ (D : Nat → DataW H) (spare : List (DataW H)), d = .slice ((List.range n).map D) spare ∧ (0 < n → ∃ b off, A = some ⟨b, off, .none⟩ ∧ b < w.heap.size ∧
      ∀ i, i < n → ∃ (k : Nat) (ys : List (DataW H × List MemPlace)), D i = .agg (ys.map (·.1)) ∧ ys.length = fs.size ∧ ∀ (j : Nat) (f : Field), fs[j]? = some f → ∃ (u : Value) (y : DataW H × List MemPlace), w.cell? ⟨b, off + (i * fs.size + j), .none⟩ = some u ∧ ys[j]? = some y ∧ DataW.trod enc P w 0 sp held k f.type [u] = some y)) := by
  obtain ⟨A, len, cap, rfl⟩ := hv
  obtain ⟨fuel, hf⟩ := h
  rcases open_slice ht hf with ⟨hcs, hx⟩ | ⟨a, l, c, m, n, D, Pl, hcs, _, hl, hm, hmm, hx, hi⟩
  · simp [Value.cells] at hcs
    obtain ⟨rfl, rfl, rfl⟩ := hcs
    simp only [Prod.mk.injEq] at hx
    exact ⟨.none, 0, 0, rfl, .inl ⟨hx.1, rfl⟩⟩
  · simp [Value.cells] at hcs
    obtain ⟨rfl, rfl, rfl⟩ := hcs
    simp only [Prod.mk.injEq] at hx
    have hlm : len ≤ m := by rw [hmm]; split <;> omega
    refine ⟨some a, len, cap, rfl, .inr ⟨D, _, hx.1, fun h0 => ?_⟩⟩
    have hall : ∀ i, i < len → ∃ (k : Nat) (ys : List (DataW H × List MemPlace)), D i = .agg (ys.map (·.1)) ∧ ys.length = fs.size ∧ ∀ (j : Nat) (f : Field), fs[j]? = some f → ∃ (u : Value) (y : DataW H × List MemPlace), w.cell? (a.add (i * fs.size + j)) = some u ∧ ys[j]? = some y ∧ DataW.trod enc P w 0 sp held k f.type [u] = some y := by
      intro i hil
      obtain ⟨cs', hc, ht'⟩ := hi i (by omega)
      rw [hC] at hc
      obtain ⟨ys, n', hn', hy, hlen, hyl, hf⟩ := DataW.trod_struct he ht'
      obtain ⟨_, hcl, hat⟩ := World.cells?_some hc
      simp only [Prod.mk.injEq] at hy
      refine ⟨n', ys, hy.1, hyl, fun j f hj => ?_⟩
      obtain ⟨ho, hk⟩ := hone_of hone j f hj
      have hjl : j < fs.size := (Array.getElem?_eq_some_iff.1 hj).1
      have hcell := hat j hjl
      have hv : cs'[j]? = some (cs'[j]'(by omega)) := List.getElem?_eq_getElem (by omega)
      have h1 := hf j f hj
      rw [ho, hk] at h1
      have hone' : (cs'.drop j).take 1 = [cs'[j]'(by omega)] := by
        rw [List.drop_eq_getElem_cons (by omega)]
        rfl
      rw [hone'] at h1
      have hys : ys[j]? = some (ys[j]'(by omega)) := List.getElem?_eq_getElem (by omega)
      refine ⟨_, _, ?_, hys, h1.trans hys⟩
      rw [← Go.Deep.add_add, hcell, hv]
    obtain ⟨k0, ys0, _, _, hk0⟩ := hall 0 h0
    obtain ⟨u, y, hcell, _⟩ := hk0 0 fs[0] (by simp [hfs])
    obtain ⟨b, off, rfl, hb⟩ := spot_mk (by simpa using hcell)
    refine ⟨b, off, rfl, hb, fun i hil => ?_⟩
    obtain ⟨k, ys, hD, hl, hk⟩ := hall i hil
    refine ⟨k, ys, hD, hl, fun j f hj => ?_⟩
    obtain ⟨u, y, h1, h2⟩ := hk j f hj
    rw [add_mk] at h1
    exact ⟨u, y, h1, h2⟩

theorem open_row_list {t e : TypeId} {fs : Array Field} {r : Reach} {base : Nat} {sp : Nat → Bool} {held : Bool} {v : Value} {d : DataW H} {p : List MemPlace} (ht : P.underlying t = some (.slice e)) (he : P.underlying e = some (.struct fs))
    (hone : oneCellFields P fs = true) (hC : P.cellsOf e = fs.size) (hfs : 0 < fs.size) (hv : Value.okWide P w r base t v) (h : DataW.Trod enc P w 0 sp held t v d p) :
    ∃ A n c, v = .slice A n c ∧ ((d = .nil ∧ n = 0) ∨ ∃ (D : Nat → DataW H) (spare : List (DataW H)), d = .slice ((List.range n).map D) spare ∧ (0 < n → ∃ b off, A = some ⟨b, off, .none⟩ ∧ b < w.heap.size ∧
      ∀ i, i < n → ∃ (k : Nat) (ys : List (DataW H × List MemPlace)), D i = .agg (ys.map (·.1)) ∧ ys.length = fs.size ∧ ∀ (j : Nat) (f : Field), fs[j]? = some f → ∃ (u : Value) (y : DataW H × List MemPlace), w.cell? ⟨b, off + (i * fs.size + j), .none⟩ = some u ∧ ys[j]? = some y ∧ DataW.trod enc P w 0 sp held k f.type [u] = some y)) :=
  open_row_form ht he hone hC hfs (okWide_slice ht hv) h

theorem range_map_list {α β : Type} (n : Nat) (D : Nat → β) (g : α → β) (xs : List α) (hl : xs.length = n) (h : ∀ i (hi : i < xs.length), D i = g xs[i]) : (List.range n).map D = xs.map g := by
  apply List.ext_getElem
  · simp [hl]
  · intro i h1 h2
    simp only [List.getElem_map, List.getElem_range]
    exact h i (by simpa using h2)

/-- a slice of files -/
theorem open_file_list {t e ti ts : TypeId} {f0 f1 : Field} {r : Reach} {base : Nat} {sp : Nat → Bool} {held : Bool} {v : Value} {d : DataW H} {p : List MemPlace} (ht : P.underlying t = some (.slice e)) (he : P.underlying e = some (.struct #[f0, f1]))
    (hone : oneCellFields P #[f0, f1] = true) (hC : P.cellsOf e = 2) (h0 : f0.type = ti) (h1 : f1.type = ts) (hi : P.underlying ti = some (.int .i64)) (hs : P.underlying ts = some .string)
    (hv : Value.okWide P w r base t v) (h : DataW.Trod enc P w 0 sp held t v d p) :
    ∃ (A : Option Addr) (c : Nat) (fs : List (Int × ByteArray)), v = .slice A fs.length c ∧ Reads w w.heap.size 2 A fs.length (fs.flatMap fun f => [.int .i64 f.1, .string f.2]) ∧ (∀ f ∈ fs, (Lit.int .i64 f.1).wf = true ∧ f.2.size ≤ maxLen) ∧ RowData d fileData fs := by
  obtain ⟨A, n, c, rfl, hd⟩ := open_row_list ht he hone hC (Nat.zero_lt_succ 1) hv h
  rcases hd with ⟨rfl, rfl⟩ | ⟨D, spare, hd, hc⟩
  · exact ⟨A, c, [], rfl, Reads.none_, by simp, .inl ⟨rfl, rfl⟩⟩
  by_cases hn : 0 < n
  · obtain ⟨b, off, rfl, hb, hcell⟩ := hc hn
    obtain ⟨fs, hl, hf⟩ := list_of n (fun i (f : Int × ByteArray) => D i = fileData f ∧ w.cell? ⟨b, off + i * 2, .none⟩ = some (.int .i64 f.1) ∧ w.cell? ⟨b, off + (i * 2 + 1), .none⟩ = some (.string f.2) ∧ (Lit.int .i64 f.1).wf = true ∧ f.2.size ≤ maxLen) (fun i hi' => by
      obtain ⟨k, ys, hD, hyl, hk⟩ := hcell i hi'
      obtain ⟨u0, y0, c0, q0, r0⟩ := hk 0 f0 rfl
      obtain ⟨u1, y1, c1, q1, r1⟩ := hk 1 f1 rfl
      rw [h0] at r0
      rw [h1] at r1
      obtain ⟨x, e0, g0, wx⟩ := DataW.trod_int hi r0
      obtain ⟨s, e1, g1, ws⟩ := DataW.trod_string hs r1
      simp at e0 e1
      subst e0; subst e1
      refine ⟨(x, s), ?_, c0, c1, wx, ws⟩
      match ys, hyl, q0, q1 with
      | [z0, z1], _, q0, q1 =>
        simp at q0 q1
        rw [hD, q0, q1, g0, g1]
        rfl)
    subst hl
    refine ⟨_, c, fs, rfl, ⟨flat_length _ 2 (fun _ => rfl) fs, fun _ => ⟨b, off, rfl, hb, fun j u hu => ?_⟩⟩, fun f hf' => ?_, .inr ⟨spare, by rw [hd, range_map_list _ D fileData fs rfl (fun i hi' => (hf i hi').1)]⟩⟩
    · have hj : j < fs.length * 2 := by
        have := (List.getElem?_eq_some_iff.1 hu).1
        rwa [flat_length _ 2 (fun _ => rfl) fs] at this
      have hq : j / 2 < fs.length := by omega
      have hsplit : j = j / 2 * 2 + j % 2 := by omega
      obtain ⟨_, c0, c1, _⟩ := hf (j / 2) hq
      rw [hsplit, flat_at _ 2 (fun _ => rfl) fs (j / 2) (j % 2) hq (by omega)] at hu
      rcases (by omega : j % 2 = 0 ∨ j % 2 = 1) with e | e
      · rw [e] at hu hsplit
        rw [hsplit, ← hu]; simpa using c0
      · rw [e] at hu hsplit
        rw [hsplit, ← hu]; simpa using c1
    · obtain ⟨i, hi', rfl⟩ := List.getElem_of_mem hf'
      exact ⟨(hf i hi').2.2.2.1, (hf i hi').2.2.2.2⟩
  · obtain rfl : n = 0 := by omega
    exact ⟨A, c, [], rfl, Reads.none_, by simp, .inr ⟨spare, by simpa using hd⟩⟩
def pointData (f : ByteArray × Int × Int) : DataW H := .agg [.lit (.string f.1.data.toList), .lit (.int .i64 f.2.1), .lit (.int .i64 f.2.2)]
theorem open_point_form {t e ti ts : TypeId} {f0 f1 f2 : Field} {sp : Nat → Bool} {held : Bool} {v : Value} {d : DataW H} {p : List MemPlace} (ht : P.underlying t = some (.slice e)) (he : P.underlying e = some (.struct #[f0, f1, f2]))
    (hone : oneCellFields P #[f0, f1, f2] = true) (hC : P.cellsOf e = 3) (h0 : f0.type = ts) (h1 : f1.type = ti) (h2 : f2.type = ti) (hi : P.underlying ti = some (.int .i64)) (hs : P.underlying ts = some .string)
    (hv : ∃ A l c, v = .slice A l c) (h : DataW.Trod enc P w 0 sp held t v d p) :
    ∃ (A : Option Addr) (c : Nat) (fs : List (ByteArray × Int × Int)), v = .slice A fs.length c ∧ Reads w w.heap.size 3 A fs.length (fs.flatMap fun f => [.string f.1, .int .i64 f.2.1, .int .i64 f.2.2]) ∧ (∀ f ∈ fs, (Lit.int .i64 f.2.1).wf = true ∧ (Lit.int .i64 f.2.2).wf = true ∧ f.1.size ≤ maxLen) ∧ RowData d pointData fs := by
  obtain ⟨A, n, c, rfl, hd⟩ := open_row_form ht he hone hC (Nat.zero_lt_succ 2) hv h
  rcases hd with ⟨rfl, rfl⟩ | ⟨D, spare, hd, hc⟩
  · exact ⟨A, c, [], rfl, Reads.none_, by simp, .inl ⟨rfl, rfl⟩⟩
  by_cases hn : 0 < n
  · obtain ⟨b, off, rfl, hb, hcell⟩ := hc hn
    obtain ⟨fs, hl, hf⟩ := list_of n (fun i (f : ByteArray × Int × Int) => D i = pointData f ∧ w.cell? ⟨b, off + i * 3, .none⟩ = some (.string f.1) ∧ w.cell? ⟨b, off + (i * 3 + 1), .none⟩ = some (.int .i64 f.2.1) ∧ w.cell? ⟨b, off + (i * 3 + 2), .none⟩ = some (.int .i64 f.2.2) ∧ (Lit.int .i64 f.2.1).wf = true ∧ (Lit.int .i64 f.2.2).wf = true ∧ f.1.size ≤ maxLen) (fun i hi' => by
      obtain ⟨k, ys, hD, hyl, hk⟩ := hcell i hi'
      obtain ⟨u0, y0, c0, q0, r0⟩ := hk 0 f0 rfl
      obtain ⟨u1, y1, c1, q1, r1⟩ := hk 1 f1 rfl
      obtain ⟨u2, y2, c2, q2, r2⟩ := hk 2 f2 rfl
      rw [h0] at r0
      rw [h1] at r1
      rw [h2] at r2
      obtain ⟨s, e0, g0, ws⟩ := DataW.trod_string hs r0
      obtain ⟨x, e1, g1, wx⟩ := DataW.trod_int hi r1
      obtain ⟨y, e2, g2, wy⟩ := DataW.trod_int hi r2
      simp at e0 e1 e2
      subst e0; subst e1; subst e2
      refine ⟨(s, x, y), ?_, c0, c1, c2, wx, wy, ws⟩
      match ys, hyl, q0, q1, q2 with
      | [z0, z1, z2], _, q0, q1, q2 =>
        simp at q0 q1 q2
        rw [hD, q0, q1, q2, g0, g1, g2]
        rfl)
    subst hl
    refine ⟨_, c, fs, rfl, ⟨flat_length _ 3 (fun _ => rfl) fs, fun _ => ⟨b, off, rfl, hb, fun j u hu => ?_⟩⟩, fun f hf' => ?_, .inr ⟨spare, by rw [hd, range_map_list _ D pointData fs rfl (fun i hi' => (hf i hi').1)]⟩⟩
    · have hj : j < fs.length * 3 := by
        have := (List.getElem?_eq_some_iff.1 hu).1
        rwa [flat_length _ 3 (fun _ => rfl) fs] at this
      have hq : j / 3 < fs.length := by omega
      have hsplit : j = j / 3 * 3 + j % 3 := by omega
      obtain ⟨_, c0, c1, c2, _⟩ := hf (j / 3) hq
      rw [hsplit, flat_at _ 3 (fun _ => rfl) fs (j / 3) (j % 3) hq (by omega)] at hu
      rcases (by omega : j % 3 = 0 ∨ j % 3 = 1 ∨ j % 3 = 2) with e | e | e
      · rw [e] at hu hsplit
        rw [hsplit, ← hu]; simpa using c0
      · rw [e] at hu hsplit
        rw [hsplit, ← hu]; simpa using c1
      · rw [e] at hu hsplit
        rw [hsplit, ← hu]; simpa using c2
    · obtain ⟨i, hi', rfl⟩ := List.getElem_of_mem hf'
      exact ⟨(hf i hi').2.2.2.2.1, (hf i hi').2.2.2.2.2.1, (hf i hi').2.2.2.2.2.2⟩
  · obtain rfl : n = 0 := by omega
    exact ⟨A, c, [], rfl, Reads.none_, by simp, .inr ⟨spare, by simpa using hd⟩⟩
theorem open_point_list {t e ti ts : TypeId} {f0 f1 f2 : Field} {r : Reach} {base : Nat} {sp : Nat → Bool} {held : Bool} {v : Value} {d : DataW H} {p : List MemPlace} (ht : P.underlying t = some (.slice e)) (he : P.underlying e = some (.struct #[f0, f1, f2]))
    (hone : oneCellFields P #[f0, f1, f2] = true) (hC : P.cellsOf e = 3) (h0 : f0.type = ts) (h1 : f1.type = ti) (h2 : f2.type = ti) (hi : P.underlying ti = some (.int .i64)) (hs : P.underlying ts = some .string)
    (hv : Value.okWide P w r base t v) (h : DataW.Trod enc P w 0 sp held t v d p) :
    ∃ (A : Option Addr) (c : Nat) (fs : List (ByteArray × Int × Int)), v = .slice A fs.length c ∧ Reads w w.heap.size 3 A fs.length (fs.flatMap fun f => [.string f.1, .int .i64 f.2.1, .int .i64 f.2.2]) ∧ (∀ f ∈ fs, (Lit.int .i64 f.2.1).wf = true ∧ (Lit.int .i64 f.2.2).wf = true ∧ f.1.size ≤ maxLen) ∧ RowData d pointData fs :=
  open_point_form ht he hone hC h0 h1 h2 hi hs (okWide_slice ht hv) h
theorem open_point {t ti ts : TypeId} {f0 f1 f2 : Field} {r : Reach} {base : Nat} {sp : Nat → Bool} {held : Bool} {v : Value} {d : DataW H} {p : List MemPlace} (he : P.underlying t = some (.struct #[f0, f1, f2]))
    (hone : oneCellFields P #[f0, f1, f2] = true) (hC : P.cellsOf t = 3) (h0 : f0.type = ts) (h1 : f1.type = ti) (h2 : f2.type = ti) (hi : P.underlying ti = some (.int .i64)) (hs : P.underlying ts = some .string)
    (hv : Value.okWide P w r base t v) (h : DataW.Trod enc P w 0 sp held t v d p) :
    ∃ q : ByteArray × Int × Int, v = .agg #[.string q.1, .int .i64 q.2.1, .int .i64 q.2.2] ∧ ((Lit.int .i64 q.2.1).wf = true ∧ (Lit.int .i64 q.2.2).wf = true ∧ q.1.size ≤ maxLen) := by
  obtain ⟨v0, v1, v2, y0, y1, y2, n, rfl, _, _, r0, r1, r2⟩ := Joins.open_agg3 he hone hC hv h
  rw [h0] at r0
  rw [h1] at r1
  rw [h2] at r2
  obtain ⟨s, e0, g0, ws⟩ := DataW.trod_string hs r0
  obtain ⟨x, e1, g1, wx⟩ := DataW.trod_int hi r1
  obtain ⟨y, e2, g2, wy⟩ := DataW.trod_int hi r2
  simp at e0 e1 e2
  subst e0; subst e1; subst e2
  exact ⟨(s, x, y), rfl, wx, wy, ws⟩
end
end Go.Proofs.YtmnigoibbcigdaaGreat
/- Arguments of a law opened: slices of entries, each with its batch. No program in sight. -/
namespace Go.Proofs.YtmnigoibbcigdaaGreat
open Go.RowKit Go.ChangeShapes Go.WideShapes Go.Deep
set_option linter.unusedVariables false

/-- an entry: its numbers; where its batch lies, the batch's capacity, the batch -/
abbrev Ent := (Int × Int × Int × Int) × (Option Addr × Nat × List (ByteArray × Int × Int))
def entCells (q : Ent) : List Value := [.int .i64 q.1.1, .int .i64 q.1.2.1, .int .i64 q.1.2.2.1, .int .i64 q.1.2.2.2, .slice q.2.1 q.2.2.2.length q.2.2.1]
def ptCells3 (f : ByteArray × Int × Int) : List Value := [.string f.1, .int .i64 f.2.1, .int .i64 f.2.2]
structure EntOk (w : World) (q : Ent) : Prop where
  reads : Reads w w.heap.size 3 q.2.1 q.2.2.2.length (q.2.2.2.flatMap ptCells3)
  pts : ∀ f ∈ q.2.2.2, (Lit.int .i64 f.2.1).wf = true ∧ (Lit.int .i64 f.2.2).wf = true ∧ f.1.size ≤ maxLen
  nums : (Lit.int .i64 q.1.1).wf = true ∧ (Lit.int .i64 q.1.2.1).wf = true ∧ (Lit.int .i64 q.1.2.2.1).wf = true ∧ (Lit.int .i64 q.1.2.2.2).wf = true
section
variable {H : Type} {enc : TypeId × Value → H} {P : Program} {w : World}
def entData (p : Ent × DataW H) : DataW H := .agg [.lit (.int .i64 p.1.1.1), .lit (.int .i64 p.1.1.2.1), .lit (.int .i64 p.1.1.2.2.1), .lit (.int .i64 p.1.1.2.2.2), p.2]
theorem open_entry_list {t e ti tp te tq : TypeId} {f0 f1 f2 f3 f4 g0 g1 g2 : Field} {r : Reach} {base : Nat} {sp : Nat → Bool} {held : Bool} {v : Value} {d : DataW H} {p : List MemPlace} (ht : P.underlying t = some (.slice e)) (he : P.underlying e = some (.struct #[f0, f1, f2, f3, f4]))
    (hone : oneCellFields P #[f0, f1, f2, f3, f4] = true) (hC : P.cellsOf e = 5) (h0 : f0.type = ti) (h1 : f1.type = ti) (h2 : f2.type = ti) (h3 : f3.type = ti) (h4 : f4.type = tp) (hi : P.underlying ti = some (.int .i64)) (hp : P.underlying tp = some (.slice te))
    (hte : P.underlying te = some (.struct #[g0, g1, g2])) (hone' : oneCellFields P #[g0, g1, g2] = true) (hC' : P.cellsOf te = 3) (k0 : g0.type = tq) (k1 : g1.type = ti) (k2 : g2.type = ti) (hs : P.underlying tq = some .string)
    (hv : Value.okWide P w r base t v) (h : DataW.Trod enc P w 0 sp held t v d p) :
    ∃ (A : Option Addr) (c : Nat) (es : List (Ent × DataW H)), v = .slice A es.length c ∧ Reads w w.heap.size 5 A es.length (es.flatMap fun p => entCells p.1) ∧ (∀ p ∈ es, EntOk w p.1 ∧ RowData p.2 pointData p.1.2.2.2) ∧ RowData d entData es := by
  obtain ⟨A, n, c, rfl, hd⟩ := open_row_list ht he hone hC (Nat.zero_lt_succ 4) hv h
  rcases hd with ⟨rfl, rfl⟩ | ⟨D, spare, hd, hc⟩
  · exact ⟨A, c, [], rfl, Reads.none_, by simp, .inl ⟨rfl, rfl⟩⟩
  by_cases hn : 0 < n
  · obtain ⟨b, off, rfl, hb, hcell⟩ := hc hn
    obtain ⟨es, hl, hf⟩ := list_of n (fun i (f : Ent × DataW H) => D i = entData f ∧ (∀ j, j < 5 → w.cell? ⟨b, off + (i * 5 + j), .none⟩ = (entCells f.1)[j]?) ∧ EntOk w f.1 ∧ RowData f.2 pointData f.1.2.2.2) (fun i hi' => by
      obtain ⟨k, ys, hD, hyl, hk⟩ := hcell i hi'
      obtain ⟨u0, y0, c0, q0, r0⟩ := hk 0 f0 rfl
      obtain ⟨u1, y1, c1, q1, r1⟩ := hk 1 f1 rfl
      obtain ⟨u2, y2, c2, q2, r2⟩ := hk 2 f2 rfl
      obtain ⟨u3, y3, c3, q3, r3⟩ := hk 3 f3 rfl
      obtain ⟨u4, y4, c4, q4, r4⟩ := hk 4 f4 rfl
      rw [h0] at r0
      rw [h1] at r1
      rw [h2] at r2
      rw [h3] at r3
      rw [h4] at r4
      obtain ⟨x0, e0, z0, w0⟩ := DataW.trod_int hi r0
      obtain ⟨x1, e1, z1, w1⟩ := DataW.trod_int hi r1
      obtain ⟨x2, e2, z2, w2⟩ := DataW.trod_int hi r2
      obtain ⟨x3, e3, z3, w3⟩ := DataW.trod_int hi r3
      obtain ⟨a4, l4, c4', e4⟩ := Joins.slice_form hp r4
      simp at e0 e1 e2 e3 e4
      subst e0; subst e1; subst e2; subst e3; subst e4
      obtain ⟨A4, cc, fs, hv4, hr4, hw4, hd4⟩ := open_point_form (enc := enc) (v := .slice a4 l4 c4') (d := y4.1) (p := y4.2) hp hte hone' hC' k0 k1 k2 hi hs ⟨_, _, _, rfl⟩ ⟨k, by simpa [Value.cells] using r4⟩
      injection hv4 with ha hll hcc
      subst ha; subst hll; subst hcc
      refine ⟨(((x0, x1, x2, x3), (a4, c4', fs)), y4.1), ?_, fun j hj => ?_, ⟨hr4, hw4, w0, w1, w2, w3⟩, hd4⟩
      · match ys, hyl, q0, q1, q2, q3, q4 with
        | [y0', y1', y2', y3', y4'], _, q0, q1, q2, q3, q4 =>
          simp at q0 q1 q2 q3 q4
          rw [hD, q0, q1, q2, q3, q4, z0, z1, z2, z3]
          rfl
      · rcases (by omega : j = 0 ∨ j = 1 ∨ j = 2 ∨ j = 3 ∨ j = 4) with rfl | rfl | rfl | rfl | rfl
        · exact c0
        · exact c1
        · exact c2
        · exact c3
        · exact c4)
    subst hl
    refine ⟨_, c, es, rfl, ⟨flat_length _ 5 (fun _ => rfl) es, fun _ => ⟨b, off, rfl, hb, fun j u hu => ?_⟩⟩, fun f hf' => ?_, .inr ⟨spare, by rw [hd, range_map_list _ D entData es rfl (fun i hi' => (hf i hi').1)]⟩⟩
    · have hj : j < es.length * 5 := by
        have := (List.getElem?_eq_some_iff.1 hu).1
        rwa [flat_length _ 5 (fun _ => rfl) es] at this
      have hq : j / 5 < es.length := by omega
      have hsplit : j = j / 5 * 5 + j % 5 := by omega
      obtain ⟨_, hcs, _⟩ := hf (j / 5) hq
      rw [hsplit, flat_at (fun p : Ent × DataW H => entCells p.1) 5 (fun _ => rfl) es (j / 5) (j % 5) hq (by omega)] at hu
      rw [hsplit, hcs (j % 5) (by omega)]
      exact hu
    · obtain ⟨i, hi', rfl⟩ := List.getElem_of_mem hf'
      exact (hf i hi').2.2
  · obtain rfl : n = 0 := by omega
    exact ⟨A, c, [], rfl, Reads.none_, by simp, .inr ⟨spare, by simpa using hd⟩⟩
/-- the same, the data apart -/
theorem open_entries {t e ti tp te tq : TypeId} {f0 f1 f2 f3 f4 g0 g1 g2 : Field} {r : Reach} {base : Nat} {sp : Nat → Bool} {held : Bool} {v : Value} {d : DataW H} {p : List MemPlace} (ht : P.underlying t = some (.slice e)) (he : P.underlying e = some (.struct #[f0, f1, f2, f3, f4]))
    (hone : oneCellFields P #[f0, f1, f2, f3, f4] = true) (hC : P.cellsOf e = 5) (h0 : f0.type = ti) (h1 : f1.type = ti) (h2 : f2.type = ti) (h3 : f3.type = ti) (h4 : f4.type = tp) (hi : P.underlying ti = some (.int .i64)) (hp : P.underlying tp = some (.slice te))
    (hte : P.underlying te = some (.struct #[g0, g1, g2])) (hone' : oneCellFields P #[g0, g1, g2] = true) (hC' : P.cellsOf te = 3) (k0 : g0.type = tq) (k1 : g1.type = ti) (k2 : g2.type = ti) (hs : P.underlying tq = some .string)
    (hv : Value.okWide P w r base t v) (h : DataW.Trod enc P w 0 sp held t v d p) :
    ∃ (A : Option Addr) (c : Nat) (qs : List Ent), v = .slice A qs.length c ∧ Reads w w.heap.size 5 A qs.length (qs.flatMap entCells) ∧ (∀ q ∈ qs, EntOk w q) ∧ ∃ es : List (Ent × DataW H), qs = es.map (·.1) ∧ RowData d entData es ∧ ∀ p ∈ es, RowData p.2 pointData p.1.2.2.2 := by
  obtain ⟨A, c, es, h1', h2', h3', h4'⟩ := open_entry_list ht he hone hC h0 h1 h2 h3 h4 hi hp hte hone' hC' k0 k1 k2 hs hv h
  refine ⟨A, c, es.map (·.1), by rw [List.length_map]; exact h1', by rw [List.length_map, List.flatMap_map]; exact h2', fun q hq => ?_, es, rfl, h4', fun p hp => (h3' p hp).2⟩
  obtain ⟨p, hp', rfl⟩ := List.mem_map.1 hq
  exact (h3' p hp').1
/-- a batch is of the reach's size -/
theorem sized_batch {ts : List TypeId} {ds : List (DataW H)} (h : (DataW.weightsEach P ts ds).all (· ≤ reachBytes) = true) {j : Nat} {t e ti tp te : TypeId} {f0 f1 f2 f3 f4 : Field} {d : DataW H} {es : List (Ent × DataW H)} (ht : ts[j]? = some t) (hd : ds[j]? = some d) (hu : P.underlying t = some (.slice e)) (he : P.underlying e = some (.struct #[f0, f1, f2, f3, f4])) (h4 : f4.type = tp) (hp : P.underlying tp = some (.slice te)) (hb : P.bytesOf te = 32)
    (hs : RowData d entData es) (x : Ent × DataW H) (hx : x ∈ es) (hxd : RowData x.2 pointData x.1.2.2.2) : x.1.2.2.2.length * 32 ≤ 140737488351232 := by
  rcases hxd with ⟨_, h0⟩ | ⟨spare, h1⟩
  · rw [h0]; simp
  · have := sized_elem h ht hd hu hs x hx ((x.1.2.2.2.length + spare.length) * 32) (by
      unfold entData
      simp only [DataW.weights, he]
      simp only [DataW.weightsEach, List.map_cons, List.map_nil, h1, h4, DataW.weights, hp, hb, List.length_map, List.mem_append, List.mem_cons, true_or, or_true])
    have h2 : x.1.2.2.2.length * 32 ≤ (x.1.2.2.2.length + spare.length) * 32 := Nat.mul_le_mul_right _ (by omega)
    omega
end
end Go.Proofs.YtmnigoibbcigdaaGreat
/- Entries where they lie: their cells, their batches. -/
namespace Go.Proofs.YtmnigoibbcigdaaGreat
open Go.RowKit
set_option linter.unusedVariables false

theorem ent_cells {w : World} {B : Nat} {A : Option Addr} {z : List Ent} (h : Reads w B 5 A z.length (z.flatMap entCells)) (j : Nat) (hj : j < z.length) : ∃ b off, A = some ⟨b, off, none⟩ ∧ b < B ∧
    w.cell? ⟨b, off + j * 5, none⟩ = some (.int .i64 z[j].1.1) ∧ w.cell? ⟨b, off + j * 5 + 1, none⟩ = some (.int .i64 z[j].1.2.1) ∧ w.cell? ⟨b, off + j * 5 + 2, none⟩ = some (.int .i64 z[j].1.2.2.1) ∧ w.cell? ⟨b, off + j * 5 + 3, none⟩ = some (.int .i64 z[j].1.2.2.2) ∧ w.cell? ⟨b, off + j * 5 + 4, none⟩ = some (.slice z[j].2.1 z[j].2.2.2.length z[j].2.2.1) := by
  obtain ⟨b, off, e, hb, hc⟩ := h.2 (by omega)
  have g : ∀ i u, (entCells z[j])[i]? = some u → i < 5 → w.cell? ⟨b, off + j * 5 + i, none⟩ = some u := fun i u hu hi => by
    have := hc (j * 5 + i) u (by rw [flat_at entCells 5 (fun _ => rfl) z j i hj hi]; exact hu)
    rwa [← Nat.add_assoc] at this
  exact ⟨b, off, e, hb, g 0 _ rfl (by omega), g 1 _ rfl (by omega), g 2 _ rfl (by omega), g 3 _ rfl (by omega), g 4 _ rfl (by omega)⟩
theorem ent_pts {w : World} {q : Ent} (h : EntOk w q) : Reads w w.heap.size 3 q.2.1 q.2.2.2.length (q.2.2.2.flatMap pointCells) ∧ ∀ p ∈ q.2.2.2, Pt.wf p :=
  ⟨h.reads, fun p hp => by
    obtain ⟨h1, h2, _⟩ := h.pts p hp
    exact ⟨wf_int h1, wf_int h2⟩⟩
end Go.Proofs.YtmnigoibbcigdaaGreat
/- Which logs may be: plain, and the walk through message.MayLog (chapter 14). -/
namespace Go.Proofs.YtmnigoibbcigdaaGreat
open Go.RowKit
set_option linter.unusedVariables false

theorem Sv.nil_list : (⟨#[]⟩ : ByteArray).toList = [] := by decide +kernel
def Sv.entB (q : Ent) : Bool := Ig.mayB q.1.1 q.1.2.1 q.1.2.2.1 q.1.2.2.2 q.2.2.2
def Sv.headB (base : Int) (snap : ByteArray) (n : Nat) : Bool := decide (0 ≤ base) && decide (base ≤ 2147483647) && decide (snap.size ≤ 65536) && !(decide (base = 0) && decide (snap.size ≠ 0)) && decide (n ≤ 4096)
def Sv.logB (base : Int) (snap : ByteArray) (es : List Ent) : Bool := Sv.headB base snap es.length && es.all Sv.entB
theorem Sv.log_no {base : Int} {snap : ByteArray} {es : List Ent} (h : Sv.headB base snap es.length = false) : Sv.logB base snap es = false := by unfold Sv.logB; rw [h]; rfl
theorem Sv.log_stop {base : Int} {snap : ByteArray} {es : List Ent} {k : Nat} (hk : k < es.length) (h : Sv.entB es[k] = false) : Sv.logB base snap es = false := by
  unfold Sv.logB
  have : es.all Sv.entB = false := by rw [List.all_eq_false]; exact ⟨_, List.getElem_mem hk, by rw [h]; simp⟩
  rw [this, Bool.and_false]
theorem Sv.log_yes {base : Int} {snap : ByteArray} {es : List Ent} (h : Sv.headB base snap es.length = true) (ha : es.all Sv.entB = true) : Sv.logB base snap es = true := by unfold Sv.logB; rw [h, ha]; rfl
theorem Sv.all_step {es : List Ent} {k : Nat} (hk : k < es.length) (ha : (es.take k).all Sv.entB = true) (h : Sv.entB es[k] = true) : (es.take (k + 1)).all Sv.entB = true := by
  rw [List.take_succ_eq_append_getElem hk, List.all_append, ha]; simp [h]
/-- a log that is read: its entries lie below block B -/
structure LogOk (w : World) (A : Option Addr) (es : List Ent) : Prop where
  rd : Reads w w.heap.size 5 A es.length (es.flatMap entCells)
  ok : ∀ q ∈ es, EntOk w q
  big : ∀ q ∈ es, q.2.2.2.length * 32 ≤ 140737488351232
theorem EntOk.below {w w' : World} {q : Ent} (h : EntOk w q) (hb : Below w.heap.size w w') : EntOk w' q := ⟨(h.reads.below hb).more hb.size, h.pts, h.nums⟩
theorem LogOk.below {w w' : World} {A : Option Addr} {es : List Ent} (h : LogOk w A es) (hb : Below w.heap.size w w') : LogOk w' A es := ⟨(h.rd.below hb).more hb.size, fun q hq => (h.ok q hq).below hb, h.big⟩
theorem LogOk.take {w : World} {A : Option Addr} {es : List Ent} (h : LogOk w A es) (n : Nat) : LogOk w A (es.take n) := by
  refine ⟨⟨flat_length entCells 5 (fun _ => rfl) _, fun h0 => ?_⟩, fun q hq => h.ok q (List.mem_of_mem_take hq), fun q hq => h.big q (List.mem_of_mem_take hq)⟩
  rw [List.length_take] at h0
  obtain ⟨b, off, e, hb, hc⟩ := h.rd.2 (by omega)
  refine ⟨b, off, e, hb, fun j u hu => hc j u ?_⟩
  have : es.flatMap entCells = (es.take n).flatMap entCells ++ (es.drop n).flatMap entCells := by rw [← List.flatMap_append, List.take_append_drop]
  rw [this, List.getElem?_append_left (List.getElem?_eq_some_iff.1 hu).1]
  exact hu
end Go.Proofs.YtmnigoibbcigdaaGreat
/- The walk through the reference's Batch. -/
namespace Go.Proofs.YtmnigoibbcigdaaGreat
open Go.RowKit
set_option linter.unusedVariables false

set_option maxRecDepth 100000 in
set_option maxHeartbeats 400000 in
theorem rbatch_any (A : Option Addr) (c : Nat) (ps : List Pt.Point) (w : World) (B : Nat) (hr : Reads w B 3 A ps.length (ps.flatMap pointCells)) (hB : B ≤ w.heap.size) (hn : ps.length ≤ 140737488355328) (hwf : ∀ p ∈ ps, Pt.wf p) :
    Calls Tryz.prog 72 #[.slice A ps.length c] w fun e w' => e = .returned (.bool (Pt.batchB ps)) ∧ Below w.heap.size w w' := by
  have HW := Lib.hid hwf
  have HR := Lib.hid hr
  have HE := Lib.hid (batch_eq ps)
  clear hwf hr
  generalize Pt.batchB ps = res at *
  go_enter Tryz.func72, Tryz.ntmps72
  go_wp2
  go_loopw [3] (fun i wr => ∃ k : Nat, k ≤ ps.length ∧ i = .int .i64 (k : Int) ∧ Hid ((ps.take k).any (fun p => !Pt.mayB p) = false) ∧ Hid (Below w.heap.size w wr)) (fun i _ => ps.length - (intOf i).toNat)
  case atStart => exact ⟨0, Nat.zero_le _, rfl, Lib.hid (by simp), Lib.hid (Below.refl _ _)⟩
  case round =>
    obtain ⟨k, hk, rfl, ha, hbw⟩ := hrel
    by_cases hlt : k < ps.length
    · obtain ⟨b, off, rfl, hbl, hc⟩ := HR.out.2 (by omega)
      have hbw1 := hbw.out
      have hcell0 : wr.cell? ⟨b, off + k * 3, none⟩ = some (.string ps[k].1) := by have := hc (k * 3 + 0) (.string ps[k].1) (by rw [flat_at pointCells 3 (fun _ => rfl) ps k 0 hlt (by omega)]; rfl); rw [hbw1.cell (p := ⟨b, _, none⟩) (show b < _ by omega)]; rwa [← Nat.add_assoc] at this
      have hcell1 : wr.cell? ⟨b, off + k * 3 + 1, none⟩ = some (.int .i64 ps[k].2.1) := by have := hc (k * 3 + 1) (.int .i64 ps[k].2.1) (by rw [flat_at pointCells 3 (fun _ => rfl) ps k 1 hlt (by omega)]; rfl); rw [hbw1.cell (p := ⟨b, _, none⟩) (show b < _ by omega)]; rwa [← Nat.add_assoc] at this
      have hcell2 : wr.cell? ⟨b, off + k * 3 + 2, none⟩ = some (.int .i64 ps[k].2.2) := by have := hc (k * 3 + 2) (.int .i64 ps[k].2.2) (by rw [flat_at pointCells 3 (fun _ => rfl) ps k 2 hlt (by omega)]; rfl); rw [hbw1.cell (p := ⟨b, _, none⟩) (show b < _ by omega)]; rwa [← Nat.add_assoc] at this
      have H1 := fun W => Lib.hid (rmay_any ps[k] W (HW.out _ (List.getElem_mem _)))
      have HS := Lib.hid fun h => batch_stop hlt h
      have HG := Lib.hid fun h => batch_step hlt ha.out h
      clear hc ha hbw1
      cases hm : Pt.mayB ps[k]
      · have hF : Hid (res = false) := by show _ = _; rw [HE.out, HS.out hm]; simp
        rw [hm] at H1
        clear HS HG hm HE
        go_wp2_with fail
        refine (H1 _).out.mono ?_
        rintro e w1 ⟨rfl, hb1⟩
        go_wp2_with fail
        go_ret
        exact ⟨ret_bool hF.out.symm, hbw.out.trans (hb1.mono hbw.out.size)⟩
      · have hF := Lib.hid (HG.out hm)
        rw [hm] at H1
        clear HS HG hm
        go_wp2_with fail
        refine (H1 _).out.mono ?_
        rintro e w1 ⟨rfl, hb1⟩
        go_wp2_with fail
        go_roundw
        case rel => exact ⟨k + 1, by omega, by go_num, hF, Lib.hid (hbw.out.trans (hb1.mono hbw.out.size))⟩
        case measure => simp [intOf]; omega
    · have hF : Hid (res = decide (ps.length ≤ 8)) := by show _ = _; rw [HE.out, batch_done hlt ha.out]; simp
      clear ha HE
      go_wp2_with fail
      go_ret
      exact ⟨ret_bool (by rw [hF.out]; first | rfl | (simp; omega)), hbw.out⟩
end Go.Proofs.YtmnigoibbcigdaaGreat
/- The walk through the reference's EntryMay (chapter 14). -/
namespace Go.Proofs.YtmnigoibbcigdaaGreat
open Go.RowKit
set_option linter.unusedVariables false

theorem count_any (x : Int) (w : World) : Calls Tryz.prog 71 #[.int .i64 x] w fun e w' => e = .returned (.bool (Ig.numB x)) ∧ w = w' := by
  by_cases h0 : 0 ≤ x
  · by_cases h1 : x ≤ 2147483647
    · have hd : decide (x ≤ 2147483647) = true := decide_eq_true h1
      rw [Ig.num_yes (by omega) (by omega)]
      go_enter Tryz.func71, Tryz.ntmps71
      go_wp2_with fail
      go_ret
      exact ⟨rfl, rfl⟩
    · have hd : decide (x ≤ 2147483647) = false := decide_eq_false h1
      rw [Ig.num_no (by omega)]
      go_enter Tryz.func71, Tryz.ntmps71
      go_wp2_with fail
      go_ret
      exact ⟨rfl, rfl⟩
  · rw [Ig.num_no (by omega)]
    go_enter Tryz.func71, Tryz.ntmps71
    go_wp2_with fail
    go_ret
    exact ⟨rfl, rfl⟩
theorem Sv.may_eq (v c s n : Int) (bs : List Pt.Point) : Ig.mayB v c s n bs = (Ig.numB v && (Ig.numB c && (Ig.numB s && (Ig.numB n && (Pt.batchB bs && (decide (0 < s) || decide (bs.length = 0))))))) := by
  unfold Ig.mayB
  simp only [List.all_cons, List.all_nil, Bool.and_true, Bool.and_assoc]
set_option maxRecDepth 100000 in
set_option maxHeartbeats 2000000 in
theorem rentryMay_any (v c s n : Int) (A : Option Addr) (d : Nat) (ps : List Pt.Point) (w : World) (B : Nat) (hr : Reads w B 3 A ps.length (ps.flatMap pointCells)) (hB : B ≤ w.heap.size) (hn : ps.length ≤ 140737488355328) (hwf : ∀ p ∈ ps, Pt.wf p) :
    Calls Tryz.prog 22 #[.agg #[.int .i64 v, .int .i64 c, .int .i64 s, .int .i64 n, .slice A ps.length d]] w fun e w' => e = .returned (.bool (Ig.mayB v c s n ps)) ∧ Below w.heap.size w w' := by
  have HBt := fun W (hb : Below w.heap.size w W) => Lib.hid (rbatch_any A d ps W B (hr.below (hb.mono hB)) (by have := hb.size; omega) hn hwf)
  have HRes := Lib.hid (Sv.may_eq v c s n ps)
  have HC1 := fun W => Lib.hid (count_any v W)
  have HC2 := fun W => Lib.hid (count_any c W)
  have HC3 := fun W => Lib.hid (count_any s W)
  have HC4 := fun W => Lib.hid (count_any n W)
  have hE := Blk.new w 36 #[.int .i64 v, .int .i64 c, .int .i64 s, .int .i64 n, .slice A ps.length d]
  have hb1 : Below w.heap.size w (w.alloc (.cells #[.int .i64 v, .int .i64 c, .int .i64 s, .int .i64 n, .slice A ps.length d] 36)) := (Below.refl _ _).alloc (Nat.le_refl _) _
  have HE := Lib.hid hE
  have Hb1 := Lib.hid hb1
  have hs1 := hb1.size
  clear hr hwf hE hb1
  generalize Ig.mayB v c s n ps = res at *
  go_enter Tryz.func22, Tryz.ntmps22
  go_wp2_with fail
  generalize w.alloc (.cells #[.int .i64 v, .int .i64 c, .int .i64 s, .int .i64 n, .slice A ps.length d] 36) = w1 at *
  have hlt := HE.out.lt
  have x0 := HE.out.cell 0
  have x1 := HE.out.cell 1
  have x2 := HE.out.cell 2
  have x3 := HE.out.cell 3
  have x4 := HE.out.cell 4
  simp only [List.getElem?_toArray, List.getElem?_cons_zero, List.getElem?_cons_succ] at x0 x1 x2 x3 x4
  obtain ⟨d1, hd1⟩ : ∃ d1, decide (0 < s) = d1 := ⟨_, rfl⟩
  obtain ⟨d2, hd2⟩ : ∃ d2, decide (ps.length = 0) = d2 := ⟨_, rfl⟩
  have hd2' : ((ps.length : Int) == 0) = d2 := by
    rw [← hd2]
    by_cases h : ps.length = 0
    · rw [h]; rfl
    · rw [decide_eq_false h]; exact beq_eq_false_iff_ne.2 (by omega)
  rw [hd1, hd2] at HRes
  clear hd2
  generalize Ig.numB v = b1 at *
  generalize Ig.numB c = b2 at *
  generalize Ig.numB s = b3 at *
  generalize Ig.numB n = b4 at *
  generalize Pt.batchB ps = b5 at *
  have hcs : b1 = false ∨ (b1 = true ∧ b2 = false) ∨ (b1 = true ∧ b2 = true ∧ b3 = false) ∨ (b1 = true ∧ b2 = true ∧ b3 = true ∧ b4 = false) ∨ (b1 = true ∧ b2 = true ∧ b3 = true ∧ b4 = true ∧ b5 = false) ∨ (b1 = true ∧ b2 = true ∧ b3 = true ∧ b4 = true ∧ b5 = true ∧ d1 = true) ∨ (b1 = true ∧ b2 = true ∧ b3 = true ∧ b4 = true ∧ b5 = true ∧ d1 = false) := by
    cases b1 <;> cases b2 <;> cases b3 <;> cases b4 <;> cases b5 <;> cases d1 <;> simp
  rcases hcs with rfl | ⟨rfl, rfl⟩ | ⟨rfl, rfl, rfl⟩ | ⟨rfl, rfl, rfl, rfl⟩ | ⟨rfl, rfl, rfl, rfl, rfl⟩ | ⟨rfl, rfl, rfl, rfl, rfl, rfl⟩ | ⟨rfl, rfl, rfl, rfl, rfl, rfl⟩
  all_goals simp only [Bool.false_and, Bool.true_and, Bool.false_or, Bool.true_or] at HRes
  · go_wp2_with fail
    refine (HC1 _).out.mono ?_
    rintro e w' ⟨rfl, rfl⟩
    go_wp2_with fail
    go_ret
    exact ⟨ret_bool HRes.out.symm, Hb1.out⟩
  · go_wp2_with fail
    refine (HC1 _).out.mono ?_
    rintro e w' ⟨rfl, rfl⟩
    go_wp2_with fail
    refine (HC2 _).out.mono ?_
    rintro e w' ⟨rfl, rfl⟩
    go_wp2_with fail
    go_ret
    exact ⟨ret_bool HRes.out.symm, Hb1.out⟩
  · go_wp2_with fail
    refine (HC1 _).out.mono ?_
    rintro e w' ⟨rfl, rfl⟩
    go_wp2_with fail
    refine (HC2 _).out.mono ?_
    rintro e w' ⟨rfl, rfl⟩
    go_wp2_with fail
    refine (HC3 _).out.mono ?_
    rintro e w' ⟨rfl, rfl⟩
    go_wp2_with fail
    go_ret
    exact ⟨ret_bool HRes.out.symm, Hb1.out⟩
  · go_wp2_with fail
    refine (HC1 _).out.mono ?_
    rintro e w' ⟨rfl, rfl⟩
    go_wp2_with fail
    refine (HC2 _).out.mono ?_
    rintro e w' ⟨rfl, rfl⟩
    go_wp2_with fail
    refine (HC3 _).out.mono ?_
    rintro e w' ⟨rfl, rfl⟩
    go_wp2_with fail
    refine (HC4 _).out.mono ?_
    rintro e w' ⟨rfl, rfl⟩
    go_wp2_with fail
    go_ret
    exact ⟨ret_bool HRes.out.symm, Hb1.out⟩
  · go_wp2_with fail
    refine (HC1 _).out.mono ?_
    rintro e w' ⟨rfl, rfl⟩
    go_wp2_with fail
    refine (HC2 _).out.mono ?_
    rintro e w' ⟨rfl, rfl⟩
    go_wp2_with fail
    refine (HC3 _).out.mono ?_
    rintro e w' ⟨rfl, rfl⟩
    go_wp2_with fail
    refine (HC4 _).out.mono ?_
    rintro e w' ⟨rfl, rfl⟩
    go_wp2_with fail
    refine (HBt _ Hb1.out).out.mono ?_
    rintro e w2 ⟨rfl, hb2⟩
    have HE2 := Lib.hid (Blk.below HE.out hb2 HE.out.lt)
    have y2 := HE2.out.cell 2
    have y4 := HE2.out.cell 4
    simp only [List.getElem?_toArray, List.getElem?_cons_zero, List.getElem?_cons_succ] at y2 y4
    have Hb2 : Hid (Below w.heap.size w w2) := Hb1.out.trans (hb2.mono hs1)
    clear x0 x1 x2 x3 x4 hb2
    go_wp2_with fail
    go_ret
    exact ⟨ret_bool HRes.out.symm, Hb2.out⟩
  · go_wp2_with fail
    refine (HC1 _).out.mono ?_
    rintro e w' ⟨rfl, rfl⟩
    go_wp2_with fail
    refine (HC2 _).out.mono ?_
    rintro e w' ⟨rfl, rfl⟩
    go_wp2_with fail
    refine (HC3 _).out.mono ?_
    rintro e w' ⟨rfl, rfl⟩
    go_wp2_with fail
    refine (HC4 _).out.mono ?_
    rintro e w' ⟨rfl, rfl⟩
    go_wp2_with fail
    refine (HBt _ Hb1.out).out.mono ?_
    rintro e w2 ⟨rfl, hb2⟩
    have HE2 := Lib.hid (Blk.below HE.out hb2 HE.out.lt)
    have y2 := HE2.out.cell 2
    have y4 := HE2.out.cell 4
    simp only [List.getElem?_toArray, List.getElem?_cons_zero, List.getElem?_cons_succ] at y2 y4
    have Hb2 : Hid (Below w.heap.size w w2) := Hb1.out.trans (hb2.mono hs1)
    clear x0 x1 x2 x3 x4 hb2
    go_wp2_with fail
    go_ret
    exact ⟨ret_bool HRes.out.symm, Hb2.out⟩
  · go_wp2_with fail
    refine (HC1 _).out.mono ?_
    rintro e w' ⟨rfl, rfl⟩
    go_wp2_with fail
    refine (HC2 _).out.mono ?_
    rintro e w' ⟨rfl, rfl⟩
    go_wp2_with fail
    refine (HC3 _).out.mono ?_
    rintro e w' ⟨rfl, rfl⟩
    go_wp2_with fail
    refine (HC4 _).out.mono ?_
    rintro e w' ⟨rfl, rfl⟩
    go_wp2_with fail
    refine (HBt _ Hb1.out).out.mono ?_
    rintro e w2 ⟨rfl, hb2⟩
    have HE2 := Lib.hid (Blk.below HE.out hb2 HE.out.lt)
    have y2 := HE2.out.cell 2
    have y4 := HE2.out.cell 4
    simp only [List.getElem?_toArray, List.getElem?_cons_zero, List.getElem?_cons_succ] at y2 y4
    have Hb2 : Hid (Below w.heap.size w w2) := Hb1.out.trans (hb2.mono hs1)
    clear x0 x1 x2 x3 x4 hb2
    go_wp2_with fail
    go_ret
    exact ⟨ret_bool HRes.out.symm, Hb2.out⟩
end Go.Proofs.YtmnigoibbcigdaaGreat
/- The reference's Insert, plain: into a sorted list it is the buffer's own way of taking a point. -/
namespace Go.Proofs.YtmnigoibbcigdaaGreat
set_option linter.unusedVariables false
namespace Rf
open Ig
def like (p q : Pt.Point) : Bool := decide (q.1 = p.1) && decide (q.2.1 = p.2.1)
def step (p : Pt.Point) (s : List Pt.Point × Bool) (q : Pt.Point) : List Pt.Point × Bool :=
  ((s.1 ++ (if (!s.2 && (like p q || Pt.lessB p q)) = true then [p] else [])) ++ (if like p q = true then [] else [q]), s.2 || (like p q || Pt.lessB p q))
def st (p : Pt.Point) (l : List Pt.Point) : List Pt.Point × Bool := l.foldl (step p) ([], false)
def res (p : Pt.Point) (l : List Pt.Point) : List Pt.Point := if (st p l).2 = true then (st p l).1 else (st p l).1 ++ [p]
theorem st_nil (p : Pt.Point) : st p [] = ([], false) := rfl
theorem st_snoc (p : Pt.Point) (l : List Pt.Point) (k : Nat) (hk : k < l.length) : st p (l.take (k + 1)) = step p (st p (l.take k)) l[k] := by
  unfold st
  rw [List.take_succ_eq_append_getElem hk, List.foldl_append]; rfl
theorem st_len (p : Pt.Point) (l : List Pt.Point) : (st p l).1.length + (if (st p l).2 = true then 0 else 1) ≤ l.length + 1 := by
  have key : ∀ k, k ≤ l.length → (st p (l.take k)).1.length + (if (st p (l.take k)).2 = true then 0 else 1) ≤ k + 1 := fun k => by
    induction k with
    | zero => intro _; simp [st]
    | succ k ih =>
      intro hk
      have h := ih (by omega)
      rw [st_snoc p l k (by omega)]
      generalize st p (l.take k) = s at *
      generalize l[k]'(by omega) = q
      obtain ⟨o, b⟩ := s
      unfold step
      dsimp only at h ⊢
      cases b <;> cases like p q <;> cases Pt.lessB p q <;> simp at h ⊢ <;> omega
  have := key l.length (Nat.le_refl _)
  rwa [List.take_length] at this
theorem st_len_k (p : Pt.Point) (l : List Pt.Point) (k : Nat) (hk : k ≤ l.length) : (st p (l.take k)).1.length ≤ l.length + 1 := by
  have := st_len p (l.take k)
  rw [List.length_take] at this
  omega
theorem like_cmp (p q : Pt.Point) : like p q = decide (Pt.cmpP q p = 0) := by
  unfold like
  by_cases h : Pt.cmpP q p = 0
  · obtain ⟨h1, h2⟩ := cmp_same h
    rw [decide_eq_true h, decide_eq_true h1, decide_eq_true h2]; rfl
  · rw [decide_eq_false h]
    by_cases h1 : q.1 = p.1
    · by_cases h2 : q.2.1 = p.2.1
      · refine absurd ?_ h
        unfold Pt.cmpP
        rw [h1, h2, cb_self]
        simp [orV, Lib.compareInt]
      · rw [decide_eq_false h2, Bool.and_false]
    · rw [decide_eq_false h1, Bool.false_and]
theorem less_cmp (p q : Pt.Point) : Pt.lessB p q = decide (Pt.cmpP p q < 0) := rfl
theorem fold_ahead (p : Pt.Point) (l : List Pt.Point) (o : List Pt.Point) (h : ∀ q ∈ l, Pt.cmpP q p < 0) : l.foldl (step p) (o, false) = (o ++ l, false) := by
  induction l generalizing o with
  | nil => simp
  | cons q l ih =>
    have h1 := h q (List.mem_cons_self ..)
    have h2 : like p q = false := by rw [like_cmp]; exact decide_eq_false (by omega)
    have h3 : Pt.lessB p q = false := by rw [less_cmp]; exact decide_eq_false (by rw [cmp_neg]; omega)
    have hs : step p (o, false) q = (o ++ [q], false) := by unfold step; simp [h2, h3]
    rw [List.foldl_cons, hs, ih _ (fun x hx => h x (List.mem_cons_of_mem _ hx)), List.append_assoc]; rfl
theorem fold_behind (p : Pt.Point) (l : List Pt.Point) (o : List Pt.Point) (h : ∀ q ∈ l, Pt.cmpP q p ≠ 0) : l.foldl (step p) (o, true) = (o ++ l, true) := by
  induction l generalizing o with
  | nil => simp
  | cons q l ih =>
    have h2 : like p q = false := by rw [like_cmp]; exact decide_eq_false (h q (List.mem_cons_self ..))
    have hs : step p (o, true) q = (o ++ [q], true) := by unfold step; simp [h2]
    rw [List.foldl_cons, hs, ih _ (fun x hx => h x (List.mem_cons_of_mem _ hx)), List.append_assoc]; rfl
theorem res_set {l : List Pt.Point} (p : Pt.Point) (h : Sorted l) : res p l = setP l p := by
  have hle := lo_le l p
  have hA : (l.take (lo l p)).foldl (step p) ([], false) = (l.take (lo l p), false) := by
    have := fold_ahead p (l.take (lo l p)) [] fun q hq => by
      obtain ⟨i, hi, rfl⟩ := List.getElem_of_mem hq
      rw [List.length_take] at hi
      rw [List.getElem_take]
      exact lo_ahead i (by omega)
    simpa using this
  have hB : ∀ hl : lo l p < l.length, ∀ q ∈ l.drop (lo l p + 1), Pt.cmpP q p ≠ 0 := fun hl q hq => by
    obtain ⟨i, hi, rfl⟩ := List.getElem_of_mem hq
    rw [List.length_drop] at hi
    rw [List.getElem_drop]
    have h1 := h (lo l p) (lo l p + 1 + i) (by omega) (by omega)
    have h2 := lo_behind hl
    intro e
    have h3 := cmp_right (c := l[lo l p]) e
    have h4 : Pt.cmpP l[lo l p] p < 0 := by rw [← h3]; exact h1
    exact h2 h4
  by_cases hl : lo l p < l.length
  · have hsp : l = l.take (lo l p) ++ l[lo l p] :: l.drop (lo l p + 1) := by rw [← List.drop_eq_getElem_cons hl, List.take_append_drop]
    have hst : st p l = (l.drop (lo l p + 1)).foldl (step p) (step p (l.take (lo l p), false) l[lo l p]) := by
      unfold st
      conv => lhs; rw [hsp]
      rw [List.foldl_append, List.foldl_cons, hA]
    by_cases hh : has l p = true
    · obtain ⟨_, h0⟩ := has_lt hh
      have h2 : like p l[lo l p] = true := by rw [like_cmp]; exact decide_eq_true h0
      have hs : step p (l.take (lo l p), false) l[lo l p] = (l.take (lo l p) ++ [p], true) := by unfold step; simp [h2]
      rw [hs, fold_behind p _ _ (hB hl)] at hst
      unfold res setP
      rw [hst, if_pos rfl, if_pos hh, List.set_eq_take_append_cons_drop, if_pos hl, List.append_assoc]; rfl
    · have h0 : Pt.cmpP l[lo l p] p ≠ 0 := fun e => hh (by rw [has_at rfl hl]; exact decide_eq_true e)
      have hb := lo_behind hl
      have h2 : like p l[lo l p] = false := by rw [like_cmp]; exact decide_eq_false h0
      have h3 : Pt.lessB p l[lo l p] = true := by rw [less_cmp]; exact decide_eq_true (by rw [cmp_neg]; omega)
      have hs : step p (l.take (lo l p), false) l[lo l p] = (l.take (lo l p) ++ [p] ++ [l[lo l p]], true) := by unfold step; simp [h2, h3]
      rw [hs, fold_behind p _ _ (hB hl)] at hst
      unfold res setP
      rw [hst, if_pos rfl, if_neg hh, List.drop_eq_getElem_cons hl]; simp
  · have hn : has l p = false := has_end rfl hl
    have he : lo l p = l.length := by omega
    rw [he, List.take_length] at hA
    unfold res setP st
    rw [hA, hn, he]; simp
end Rf
end Go.Proofs.YtmnigoibbcigdaaGreat
