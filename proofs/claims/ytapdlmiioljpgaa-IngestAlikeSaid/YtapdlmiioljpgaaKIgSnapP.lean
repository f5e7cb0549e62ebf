/- A machine's text, there and back: plain (chapter 11). No walk in sight. -/
import Derived.Test.YtapdlmiioljpgaaK11
namespace Go.Proofs.Ytapdlmiioljpgaa
open Go.RowKit
set_option linter.unusedVariables false
namespace Ig

theorem num8_tail (x : Nat) (h : x < 18446744073709551616) : num8 (Sg.tailL x) = x := by
  have e : Sg.tailL x = [Sg.tailAt x 0, Sg.tailAt x 1, Sg.tailAt x 2, Sg.tailAt x 3, Sg.tailAt x 4, Sg.tailAt x 5, Sg.tailAt x 6, Sg.tailAt x 7] := rfl
  have t : ∀ j, (Sg.tailAt x j).toNat = x / 256 ^ (7 - j) % 256 := fun j => by
    unfold Sg.tailAt
    rw [UInt8.toNat_ofNat']
    exact Nat.mod_mod _ _
  rw [e]
  unfold num8
  simp only [List.foldl_cons, List.foldl_nil, t]
  simp only [Nat.reduceSub, Nat.reducePow]
  omega
def Fit (m : M) : Prop := m.rows.all Se.fitsB = true
theorem tails_list (s : ByteArray) (pre post : List UInt8) (d : Int) (hl : s.data.toList = pre ++ ((Sg.tailB d.toNat).data.toList ++ post)) : rdBytes s ((pre.length : Int), false) = (Sg.tailB d.toNat, (((pre ++ (Sg.tailB d.toNat).data.toList).length : Int), false)) := by
  have h8 : (Sg.tailB d.toNat).data.toList.length = 8 := by have := Sg.tailB_size d.toNat; simpa using this
  have hs : s.size = pre.length + (8 + post.length) := by
    have := congrArg List.length hl
    rw [List.length_append, List.length_append, h8] at this
    rw [← this]; simp
  rw [bytes_yes (by omega)]
  congr 1
  · apply Wr.ext_list
    rw [Lib.extract_data, hl, List.drop_left, Nat.add_sub_cancel_left, List.take_append_of_le_length (by omega), List.take_of_length_le (by omega)]
  · congr 1
    rw [List.length_append, h8]; simp
theorem digs_back (s : ByteArray) (pre : List UInt8) (ds : List Int) (post : List UInt8) (hr : ∀ d ∈ ds, 0 ≤ d ∧ d < 18446744073709551616) (hl : s.data.toList = pre ++ (ds.flatMap (fun x => (Sg.tailB x.toNat).data.toList) ++ post)) (k : Nat) (hk : k ≤ ds.length) :
    rdDigs s ((pre.length : Int), false) k = (ds.take k, (((pre ++ (ds.take k).flatMap (fun x => (Sg.tailB x.toNat).data.toList)).length : Int), false)) := by
  induction k with
  | zero => simp [rdDigs]
  | succ k ih =>
    have hk' : k < ds.length := by omega
    rw [rdDigs, ih (by omega)]
    simp only
    have hd := hr ds[k] (List.getElem_mem hk')
    rw [tails_list s (pre ++ (ds.take k).flatMap (fun x => (Sg.tailB x.toNat).data.toList)) ((ds.drop (k + 1)).flatMap (fun x => (Sg.tailB x.toNat).data.toList) ++ post) ds[k] ?_]
    · simp only
      rw [List.take_succ_eq_append_getElem hk', List.flatMap_append]
      congr 1
      · congr 2
        show (num8 (Sg.tailL ds[k].toNat) : Int) = _
        rw [num8_tail _ (by omega)]
        omega
      · congr 2
        simp
    · rw [hl]
      have : ds.flatMap (fun x => (Sg.tailB x.toNat).data.toList) = (ds.take k ++ ds[k] :: ds.drop (k + 1)).flatMap (fun x => (Sg.tailB x.toNat).data.toList) := by rw [← List.drop_eq_getElem_cons hk', List.take_append_drop]
      rw [this, List.flatMap_append, List.flatMap_cons]
      simp only [List.append_assoc]
theorem load_parts {m : M} (hI : Inv m) (hf : Fit m) (h8 : m.at_ % 8 = 0) (s : ByteArray) (post : List UInt8) (hl : s.data.toList = snapL m ++ post) :
    loadR s = if post = [] then some ⟨m.at_, m.rows, [], m.digs, []⟩ else none := by
  have hp := Se.put_ok hI.rows hf
  have hg := Se.get_put hI.rows hf
  have h0 := hI.at0
  have h1 := hI.at1
  have hdl := hI.dl
  have hsz := putR_size m.rows
  rw [hp] at hsz
  simp only at hsz
  unfold snapL at hl
  rw [hp] at hl
  simp only at hl
  generalize (⟨(Se.rowsL m.rows).toArray⟩ : ByteArray) = T at *
  have n1 : Wr.isNum m.at_ = true := Pt.small_num ((Pt.smallB_iff _).2 (by omega))
  have n2 : Wr.isNum (m.digs.length : Int) = true := Pt.small_num ((Pt.smallB_iff _).2 (by omega))
  have r1 := Pt.rdNum_put s [] ((Wr.textB T).data.toList ++ (Wr.putL (m.digs.length : Int) ++ m.digs.flatMap (fun x => (Sg.tailB x.toNat).data.toList)) ++ post) m.at_ 0 4096 (by rw [hl]; simp) n1 h0 h1
  have r2 := Pt.getT_at_text s (Wr.putL m.at_) (Wr.putL (m.digs.length : Int) ++ m.digs.flatMap (fun x => (Sg.tailB x.toNat).data.toList) ++ post) T 65536 (by rw [hl]; simp) (by omega) (by omega)
  have r4 := Pt.rdNum_put s (Wr.putL m.at_ ++ (Wr.textB T).data.toList) (m.digs.flatMap (fun x => (Sg.tailB x.toNat).data.toList) ++ post) (m.digs.length : Int) 0 512 (by rw [hl]; simp) n2 (by omega) (by omega)
  have r5 := digs_back s (Wr.putL m.at_ ++ (Wr.textB T).data.toList ++ Wr.putL (m.digs.length : Int)) m.digs post hI.dr (by rw [hl]; simp) m.digs.length (Nat.le_refl _)
  rw [List.take_length] at r5
  have hsz2 : s.size = (Wr.putL m.at_ ++ (Wr.textB T).data.toList ++ Wr.putL (m.digs.length : Int) ++ m.digs.flatMap (fun x => (Sg.tailB x.toNat).data.toList)).length + post.length := by
    rw [← Wr.len_list s, hl]; simp only [List.length_append]; omega
  rw [List.length_nil] at r1
  have e1 : ((0 : Nat) : Int) + ((Wr.putL m.at_).length : Int) = ((Wr.putL m.at_).length : Int) := by omega
  rw [e1] at r1
  have r3 : Pt.rdText s 65536 (((Wr.putL m.at_).length : Int), false) = (T, (((Wr.putL m.at_ ++ (Wr.textB T).data.toList).length : Int), false)) := by
    unfold Pt.rdText
    rw [r2]
    simp only
    rw [if_neg (by simp), List.length_append]
    congr 2
  have e4 : ((Wr.putL m.at_ ++ (Wr.textB T).data.toList).length : Int) + ((Wr.putL (m.digs.length : Int)).length : Int) = ((Wr.putL m.at_ ++ (Wr.textB T).data.toList ++ Wr.putL (m.digs.length : Int)).length : Int) := by
    simp only [List.length_append]; omega
  rw [e4] at r4
  have hn : (m.at_ / 8).toNat = m.digs.length := by omega
  have hcond : ¬ ((m.digs.length : Int) ≠ m.at_ / 8 ∨ m.at_ % 8 ≠ 0 ∨ false = true ∨ (0 : Int) ≠ 0) := by
    rintro (h | h | h | h)
    · exact h hdl
    · exact h h8
    · cases h
    · exact h rfl
  by_cases hpost : post = []
  · subst hpost
    rw [if_pos rfl]
    have h5 : (rdDigs s (((Wr.putL m.at_ ++ (Wr.textB T).data.toList ++ Wr.putL (m.digs.length : Int)).length : Int), false) (m.at_ / 8).toNat).2 = ((s.size : Int), false) := by
      rw [hn, r5, hsz2]; simp
    rw [load_yes (by exact r1) r3 hg r4 hcond h5, hn, r5]
  · rw [if_neg hpost]
    refine load_over (by exact r1) r3 hg r4 ?_
    rw [hn, r5, hsz2]
    intro e
    have := (Prod.mk.inj e).1
    have hp : 0 < post.length := List.length_pos_iff.2 hpost
    omega
theorem load_snap {m : M} (hI : Inv m) (hf : Fit m) (h8 : m.at_ % 8 = 0) : loadR ⟨(snapL m).toArray⟩ = some ⟨m.at_, m.rows, [], m.digs, []⟩ := by
  rw [load_parts hI hf h8 _ [] (by simp), if_pos rfl]
theorem load_more {m : M} (hI : Inv m) (hf : Fit m) (h8 : m.at_ % 8 = 0) (t : ByteArray) (ht : t.data.toList ≠ []) : loadR (⟨(snapL m).toArray⟩ ++ t) = none := by
  rw [load_parts hI hf h8 _ t.data.toList (by rw [Wr.append_list]), if_neg ht]
/-- the numbers of a table stay numbers that are written -/
theorem fit_row {a b c d : Int} (h1 : Wr.isNum a = true) (h2 : Wr.isNum b = true) (h3 : Wr.isNum c = true) (h4 : Wr.isNum d = true) : Se.fitsB (a, b, c, d) = true := by
  unfold Se.fitsB; simp only [h1, h2, h3, h4]; rfl
theorem small_num' {x : Int} (h : 0 ≤ x ∧ x ≤ 2147483647) : Wr.isNum x = true := Pt.small_num ((Pt.smallB_iff _).2 (by omega))
theorem fit_take {m : M} (h : Fit m) (h0 : 0 ≤ m.at_ ∧ m.at_ ≤ 4096) (v c s n : Int) (bs : List Pt.Point) : Fit (takeM m v c s n bs).1 := by
  unfold takeM
  split
  · rename_i hmay
    have hn : numB s = true ∧ numB n = true := by
      unfold mayB at hmay
      rw [Bool.and_eq_true, List.all_eq_true] at hmay
      exact ⟨hmay.1 s (by simp), hmay.1 n (by simp)⟩
    have hb : ∀ x : Int, numB x = true → 0 ≤ x ∧ x ≤ 2147483647 := fun x hx => by unfold numB at hx; simpa using hx
    have n1 := small_num' (hb s hn.1)
    have n2 := small_num' (hb n hn.2)
    have n3 : Wr.isNum m.at_ = true := small_num' (by omega)
    have n0 : Wr.isNum 0 = true := small_num' (by omega)
    show (Se.applyR m.rows s n m.at_).1.all Se.fitsB = true
    unfold Fit at h
    rw [List.all_eq_true] at h ⊢
    intro r hr
    unfold Se.applyR at hr
    split at hr
    · exact h r hr
    · split at hr
      · rcases Se.open_mem hr with q | q
        · exact h r q
        · subst q; exact fit_row n3 n0 n3 n3
      · split at hr
        · exact h r hr
        · split at hr
          · exact h r hr
          · rcases List.mem_or_eq_of_mem_set hr with q | q
            · exact h r q
            · subst q; exact fit_row n1 n2 n3 n3
  · exact h
theorem fit_apply {m : M} (hI : Inv m) (h : Fit m) (v c s n : Int) (bs : List Pt.Point) : Fit (applyM m v c s n bs).1 := by
  have h0 := hI.at0
  unfold applyM
  split
  · exact h
  · have := fit_take (m := up m) h (by show 0 ≤ m.at_ + 1 ∧ m.at_ + 1 ≤ 4096; omega) v c s n bs
    simp only
    split
    · exact this
    · exact this
theorem at_apply {m : M} (v c s n : Int) (bs : List Pt.Point) (h : m.at_ < 4096) : (applyM m v c s n bs).1.at_ = m.at_ + 1 := by
  unfold applyM
  rw [if_neg (by omega)]
  simp only
  split
  · exact take_at (up m) v c s n bs
  · exact take_at (up m) v c s n bs
theorem fit1 : Fit m1 := by show m1.rows.all Se.fitsB = true; decide +kernel
end Ig
end Go.Proofs.Ytapdlmiioljpgaa
