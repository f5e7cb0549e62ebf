/- Points there and back, and cut: plain (chapter 3). No program in sight. -/
import Derived.Test.YthdbmgjlegpbaaaPtPlain
namespace Go.Proofs.Ythdbmgjlegpbaaa.Pt
open Go.Proofs.Ythdbmgjlegpbaaa
set_option linter.unusedVariables false

theorem rdNum_ok (s : ByteArray) (lo hi a x m : Int) (h : Wr.getN s.data.toList a = (x, m, 0)) (h1 : lo ≤ x) (h2 : x ≤ hi) : rdNum s lo hi (a, false) = (x, (m, false)) := by
  unfold rdNum; rw [h]; simp; omega
theorem rdNum_no (s : ByteArray) (lo hi a : Int) (b : Bool) (h : (Wr.getN s.data.toList a).2.2 ≠ 0) : rdNum s lo hi (a, b) = (0, (a, true)) := by
  unfold rdNum; rw [if_pos (.inl h)]
theorem rdText_no (s : ByteArray) (most a : Int) (b : Bool) (h : (Wr.getT s a most).2.2 ≠ 0) : rdText s most (a, b) = (⟨#[]⟩, (a, true)) := by
  unfold rdText; rw [if_pos (.inl h)]
theorem rdNum_put (s : ByteArray) (pre post : List UInt8) (x lo hi : Int) (hl : s.data.toList = pre ++ (Wr.putL x ++ post)) (hx : Wr.isNum x = true) (h1 : lo ≤ x) (h2 : x ≤ hi) :
    rdNum s lo hi ((pre.length : Int), false) = (x, ((pre.length : Int) + ((Wr.putL x).length : Int), false)) :=
  rdNum_ok s lo hi _ x _ (by rw [hl]; exact Wr.getN_put pre post x hx) h1 h2
theorem getT_at_text (s : ByteArray) (pre post : List UInt8) (t : ByteArray) (most : Int) (hl : s.data.toList = pre ++ ((Wr.textB t).data.toList ++ post)) (ht : t.size ≤ 9007199254740992) (hm : (t.size : Int) ≤ most) :
    Wr.getT s (pre.length : Int) most = (t, (pre.length : Int) + ((Wr.textB t).data.toList.length : Int), 0) := by
  have hn := Wr.isNum_len t.size ht
  have hlt : (Wr.textB t).data.toList = Wr.putL (t.size : Int) ++ t.data.toList := by unfold Wr.textB; rw [Wr.append_list, Wr.putB_list]
  rw [hlt, List.append_assoc] at hl
  have hg : Wr.getN s.data.toList (pre.length : Int) = ((t.size : Int), (pre.length : Int) + ((Wr.putL (t.size : Int)).length : Int), 0) := by
    rw [hl]; exact Wr.getN_put _ _ _ hn
  have hsz : s.size = pre.length + ((Wr.putL (t.size : Int)).length + (t.size + post.length)) := by rw [← Wr.len_list s, hl]; simp
  unfold Wr.getT
  rw [hg]
  simp only [ne_eq, not_true_eq_false, if_false]
  rw [if_neg (by omega), if_neg (by rw [hsz]; omega)]
  have e1 : ((pre.length : Int) + ((Wr.putL (t.size : Int)).length : Int)).toNat = pre.length + (Wr.putL (t.size : Int)).length := by omega
  have e2 : ((pre.length : Int) + ((Wr.putL (t.size : Int)).length : Int) + (t.size : Int)).toNat = pre.length + (Wr.putL (t.size : Int)).length + t.size := by omega
  rw [e1, e2, hlt]
  refine Prod.ext ?_ (Prod.ext ?_ rfl)
  · apply Wr.ext_list
    rw [Lib.extract_data, hl]
    rw [show pre ++ (Wr.putL (t.size : Int) ++ (t.data.toList ++ post)) = (pre ++ Wr.putL (t.size : Int)) ++ (t.data.toList ++ post) from by simp]
    rw [List.drop_left' (by rw [List.length_append]), show pre.length + (Wr.putL (t.size : Int)).length + t.size - (pre.length + (Wr.putL (t.size : Int)).length) = t.size from by omega, ← Wr.len_list t, List.take_left]
  · simp only [List.length_append, Wr.len_list]; omega
theorem rdText_put (s : ByteArray) (pre post : List UInt8) (t : ByteArray) (hl : s.data.toList = pre ++ ((Wr.textB t).data.toList ++ post)) (ht : t.size ≤ 12) :
    rdText s 12 ((pre.length : Int), false) = (t, ((pre.length : Int) + ((Wr.textB t).data.toList.length : Int), false)) := by
  unfold rdText
  rw [getT_at_text s pre post t 12 hl (by omega) (by omega)]; simp
theorem small_num {x : Int} (h : smallB x = true) : Wr.isNum x = true := by
  rw [smallB_iff] at h; rw [Wr.isNum_iff]; omega
theorem may_name {p : Point} (h : mayB p = true) : p.1.size ≤ 12 := by
  unfold mayB nameB at h; simp at h; omega
theorem may_time {p : Point} (h : mayB p = true) : smallB p.2.1 = true := by
  unfold mayB at h; simp at h; exact h.1.2
theorem may_value {p : Point} (h : mayB p = true) : smallB p.2.2 = true := by
  unfold mayB at h; simp at h; exact h.2
theorem rdPt_of (s : ByteArray) (r : St) {nm : ByteArray} {t v : Int} {r1 r2 : St} {a3 : Int} {b3 : Bool} (h1 : rdText s 12 r = (nm, r1)) (h2 : rdNum s (-2147483648) 2147483647 r1 = (t, r2)) (h3 : rdNum s (-2147483648) 2147483647 r2 = (v, (a3, b3))) :
    rdPt s r = ((nm, t, v), (a3, b3 || !mayB (nm, t, v))) := by
  unfold rdPt; simp only [h1, h2, h3]
theorem rdPt_put (s : ByteArray) (pre post : List UInt8) (p : Point) (hl : s.data.toList = pre ++ (oneL p ++ post)) (hm : mayB p = true) :
    rdPt s ((pre.length : Int), false) = (p, ((pre.length : Int) + ((oneL p).length : Int), false)) := by
  have h1 := rdText_put s pre (Wr.putL p.2.1 ++ (Wr.putL p.2.2 ++ post)) p.1 (by rw [hl]; unfold oneL; simp) (may_name hm)
  have ht := (smallB_iff _).1 (may_time hm)
  have hv := (smallB_iff _).1 (may_value hm)
  have h2 := rdNum_put s (pre ++ (Wr.textB p.1).data.toList) (Wr.putL p.2.2 ++ post) p.2.1 (-2147483648) 2147483647 (by rw [hl]; unfold oneL; simp) (small_num (may_time hm)) ht.1 ht.2
  have h3 := rdNum_put s (pre ++ (Wr.textB p.1).data.toList ++ Wr.putL p.2.1) post p.2.2 (-2147483648) 2147483647 (by rw [hl]; unfold oneL; simp) (small_num (may_value hm)) hv.1 hv.2
  rw [List.length_append, Int.natCast_add] at h2
  rw [List.length_append, List.length_append, Int.natCast_add, Int.natCast_add] at h3
  rw [rdPt_of s _ h1 h2 h3]
  have hp : (p.1, p.2.1, p.2.2) = p := rfl
  rw [hp, hm]
  unfold oneL
  simp only [List.length_append, Int.natCast_add]
  refine Prod.ext rfl (Prod.ext ?_ rfl)
  simp only [Int.add_assoc]
theorem rdPts_put (s : ByteArray) (ps : List Point) (pre post : List UInt8) (hl : s.data.toList = pre ++ (ps.flatMap oneL ++ post)) (hm : ∀ p ∈ ps, mayB p = true) :
    rdPts s ps.length ((pre.length : Int), false) = (ps, ((pre.length : Int) + ((ps.flatMap oneL).length : Int), false)) := by
  induction ps generalizing pre with
  | nil => simp [rdPts]
  | cons p ps ih =>
    have h1 := rdPt_put s pre (ps.flatMap oneL ++ post) p (by rw [hl]; simp) (hm p (by simp))
    have h2 := ih (pre ++ oneL p) (by rw [hl]; simp) (fun q hq => hm q (by simp [hq]))
    rw [List.length_append, Int.natCast_add] at h2
    rw [List.length_cons, rdPts, h1, h2]
    simp only [List.flatMap_cons, List.length_append, Int.natCast_add]
    refine Prod.ext rfl (Prod.ext ?_ rfl)
    simp only [Int.add_assoc]
theorem batch_len {ps : List Point} (h : batchB ps = true) : ps.length ≤ 8 := by unfold batchB at h; simp at h; exact h.1
theorem batch_all {ps : List Point} (h : batchB ps = true) : ∀ p ∈ ps, mayB p = true := by unfold batchB at h; simp at h; intro p hp; obtain ⟨a, b, c⟩ := p; exact h.2 a b c hp
theorem readPts_put (s : ByteArray) (ps : List Point) (pre post : List UInt8) (hl : s.data.toList = pre ++ (ptsL ps ++ post)) (hb : batchB ps = true) :
    readPts s ((pre.length : Int), false) = (ps, ((pre.length : Int) + ((ptsL ps).length : Int), false)) := by
  have h8 := batch_len hb
  have h1 := rdNum_put s pre (ps.flatMap oneL ++ post) (ps.length : Int) 0 8 (by rw [hl]; unfold ptsL; simp) (Wr.isNum_len _ (by omega)) (by omega) (by omega)
  have h2 := rdPts_put s ps (pre ++ Wr.putL (ps.length : Int)) post (by rw [hl]; unfold ptsL; simp) (batch_all hb)
  rw [List.length_append, Int.natCast_add] at h2
  unfold readPts
  simp only [h1, Int.toNat_natCast, h2]
  unfold ptsL
  simp only [List.length_append, Int.natCast_add]
  refine Prod.ext rfl (Prod.ext ?_ rfl)
  simp only [Int.add_assoc]
theorem getPts_put (s : ByteArray) (ps : List Point) (pre post : List UInt8) (hl : s.data.toList = pre ++ (ptsL ps ++ post)) (hb : batchB ps = true) :
    getPts s (pre.length : Int) = (ps, (pre.length : Int) + ((ptsL ps).length : Int), 0) := by
  unfold getPts
  rw [readPts_put s ps pre post hl hb]; simp
/-! cut -/
theorem rdNum_cut (s : ByteArray) (pre : List UInt8) (x lo hi : Int) (k : Nat) (b : Bool) (hl : s.data.toList = pre ++ (Wr.putL x).take k) (hx : Wr.isNum x = true) (hk : k < (Wr.putL x).length) :
    rdNum s lo hi ((pre.length : Int), b) = (0, ((pre.length : Int), true)) := by
  refine rdNum_no s lo hi _ b ?_
  rw [hl, Wr.getN_at, Wr.gn_cut x hx k hk]
  exact (by decide : (200 : Int) ≠ 0)
theorem rdText_cut (s : ByteArray) (pre : List UInt8) (t : ByteArray) (k : Nat) (b : Bool) (hl : s.data.toList = pre ++ ((Wr.textB t).data.toList).take k) (ht : t.size ≤ 12) (hk : k < (Wr.textB t).data.toList.length) :
    rdText s 12 ((pre.length : Int), b) = (⟨#[]⟩, ((pre.length : Int), true)) := by
  refine rdText_no s 12 _ b ?_
  have hn := Wr.isNum_len t.size (by omega)
  have hlt : (Wr.textB t).data.toList = Wr.putL (t.size : Int) ++ t.data.toList := by unfold Wr.textB; rw [Wr.append_list, Wr.putB_list]
  rw [hlt] at hl hk
  by_cases h1 : k < (Wr.putL (t.size : Int)).length
  · have hg : Wr.getN s.data.toList (pre.length : Int) = (0, 0, 200) := by
      rw [hl, List.take_append_of_le_length (by omega), Wr.getN_at, Wr.gn_cut _ hn _ h1]
    unfold Wr.getT
    rw [hg]
    exact (by decide : (200 : Int) ≠ 0)
  · have hg : Wr.getN s.data.toList (pre.length : Int) = ((t.size : Int), (pre.length : Int) + ((Wr.putL (t.size : Int)).length : Int), 0) := by
      rw [hl, List.take_append, List.take_of_length_le (by omega)]; exact Wr.getN_put _ _ _ hn
    have hsz : s.size = pre.length + k := by rw [← Wr.len_list s, hl, List.length_append, List.length_take]; omega
    unfold Wr.getT
    rw [hg]
    simp only [ne_eq, not_true_eq_false, if_false]
    rw [List.length_append, Wr.len_list] at hk
    rw [if_neg (by omega), hsz, if_pos (by omega)]
    decide
theorem rdPt_bad1 (s : ByteArray) (r : St) (h : (rdText s 12 r).2.2 = true) : (rdPt s r).2.2 = true := by
  unfold rdPt
  obtain ⟨a, b⟩ : St := (rdText s 12 r).2
  generalize rdText s 12 r = X at *
  obtain ⟨nm, a1, b1⟩ := X
  obtain rfl : b1 = true := h
  simp [rdNum_bad]
theorem rdPt_bad2 (s : ByteArray) (r : St) (h : (rdNum s (-2147483648) 2147483647 (rdText s 12 r).2).2.2 = true) : (rdPt s r).2.2 = true := by
  unfold rdPt
  simp only
  generalize rdNum s (-2147483648) 2147483647 (rdText s 12 r).2 = X at *
  obtain ⟨t, a1, b1⟩ := X
  obtain rfl : b1 = true := h
  simp [rdNum_bad]
theorem rdPt_bad3 (s : ByteArray) (r : St) (h : (rdNum s (-2147483648) 2147483647 (rdNum s (-2147483648) 2147483647 (rdText s 12 r).2).2).2.2 = true) : (rdPt s r).2.2 = true := by
  unfold rdPt
  simp only
  rw [h]; rfl
theorem rdPt_cut (s : ByteArray) (pre : List UInt8) (p : Point) (k : Nat) (hl : s.data.toList = pre ++ (oneL p).take k) (hm : mayB p = true) (hk : k < (oneL p).length) : (rdPt s ((pre.length : Int), false)).2.2 = true := by
  have ht := (smallB_iff _).1 (may_time hm)
  have ho : oneL p = (Wr.textB p.1).data.toList ++ (Wr.putL p.2.1 ++ Wr.putL p.2.2) := by unfold oneL; simp
  rw [ho] at hl hk
  by_cases h1 : k < (Wr.textB p.1).data.toList.length
  · rw [List.take_append_of_le_length (by omega)] at hl
    refine rdPt_bad1 s _ ?_
    rw [rdText_cut s pre p.1 k false hl (may_name hm) h1]
  · rw [List.take_append, List.take_of_length_le (by omega)] at hl
    generalize hk2 : k - (Wr.textB p.1).data.toList.length = k2 at *
    have e1 := rdText_put s pre ((Wr.putL p.2.1 ++ Wr.putL p.2.2).take k2) p.1 hl (may_name hm)
    by_cases h2 : k2 < (Wr.putL p.2.1).length
    · rw [List.take_append_of_le_length (by omega), ← List.append_assoc] at hl
      refine rdPt_bad2 s _ ?_
      have := rdNum_cut s (pre ++ (Wr.textB p.1).data.toList) p.2.1 (-2147483648) 2147483647 k2 false hl (small_num (may_time hm)) h2
      rw [List.length_append, Int.natCast_add] at this
      rw [e1, this]
    · rw [List.take_append, List.take_of_length_le (by omega)] at hl
      generalize hk3 : k2 - (Wr.putL p.2.1).length = k3 at *
      have e2 := rdNum_put s (pre ++ (Wr.textB p.1).data.toList) ((Wr.putL p.2.2).take k3) p.2.1 (-2147483648) 2147483647 (by rw [hl]; simp) (small_num (may_time hm)) ht.1 ht.2
      have hk4 : k3 < (Wr.putL p.2.2).length := by rw [List.length_append, List.length_append] at hk; omega
      have e3 := rdNum_cut s (pre ++ (Wr.textB p.1).data.toList ++ Wr.putL p.2.1) p.2.2 (-2147483648) 2147483647 k3 false (by rw [hl]; simp) (small_num (may_value hm)) hk4
      rw [List.length_append, Int.natCast_add] at e2
      rw [List.length_append, List.length_append, Int.natCast_add, Int.natCast_add] at e3
      refine rdPt_bad3 s _ ?_
      rw [e1, e2, e3]
theorem rdPts_cut (s : ByteArray) (ps : List Point) (pre : List UInt8) (k : Nat) (hl : s.data.toList = pre ++ (ps.flatMap oneL).take k) (hm : ∀ p ∈ ps, mayB p = true) (hk : k < (ps.flatMap oneL).length) :
    (rdPts s ps.length ((pre.length : Int), false)).2.2 = true := by
  induction ps generalizing pre k with
  | nil => simp at hk
  | cons p ps ih =>
    rw [List.flatMap_cons] at hl hk
    rw [List.length_cons]
    simp only [rdPts]
    by_cases h1 : k < (oneL p).length
    · rw [List.take_append_of_le_length (by omega)] at hl
      exact rdPts_bad' s _ _ (rdPt_cut s pre p k hl (hm p (by simp)) h1)
    · rw [List.take_append, List.take_of_length_le (by omega)] at hl
      rw [List.length_append] at hk
      have e1 := rdPt_put s pre ((ps.flatMap oneL).take (k - (oneL p).length)) p hl (hm p (by simp))
      have e2 := ih (pre ++ oneL p) (k - (oneL p).length) (by rw [hl]; simp) (fun q hq => hm q (by simp [hq])) (by omega)
      rw [List.length_append, Int.natCast_add] at e2
      rw [e1]
      exact e2
theorem getPts_cut (s : ByteArray) (ps : List Point) (k : Nat) (hl : s.data.toList = (ptsL ps).take k) (hb : batchB ps = true) (hk : k < (ptsL ps).length) : getPts s 0 = ([], 0, 300) := by
  have h8 := batch_len hb
  have hbad : (readPts s (0, false)).2.2 = true := by
    unfold ptsL at hl hk
    unfold readPts
    by_cases h1 : k < (Wr.putL (ps.length : Int)).length
    · rw [List.take_append_of_le_length (by omega)] at hl
      have e := rdNum_cut s [] (ps.length : Int) 0 8 k false (by simpa using hl) (Wr.isNum_len _ (by omega)) h1
      simp only [List.length_nil, Int.natCast_zero] at e
      rw [e]
      rfl
    · rw [List.take_append, List.take_of_length_le (by omega)] at hl
      rw [List.length_append] at hk
      have e1 := rdNum_put s [] ((ps.flatMap oneL).take (k - (Wr.putL (ps.length : Int)).length)) (ps.length : Int) 0 8 (by simpa using hl) (Wr.isNum_len _ (by omega)) (by omega) (by omega)
      have e2 := rdPts_cut s ps (Wr.putL (ps.length : Int)) (k - (Wr.putL (ps.length : Int)).length) hl (batch_all hb) (by omega)
      simp only [List.length_nil, Int.natCast_zero, Int.zero_add] at e1
      simp only [e1, Int.toNat_natCast]
      exact e2
  unfold getPts
  rw [hbad]; rfl
theorem getPts_out (s : ByteArray) (a : Int) (h : a < 0 ∨ (s.size : Int) < a) : getPts s a = ([], 0, 300) := by
  have e : rdNum s 0 8 (a, false) = (0, (a, true)) := rdNum_no s 0 8 a false (by unfold Wr.getN; rw [Wr.len_list, if_pos h]; decide)
  unfold getPts readPts
  simp only [e]
  rfl
theorem ptsB_list (ps : List Point) : (ptsB ps).data.toList = ptsL ps := by unfold ptsB; simp
theorem ptsL_pos (ps : List Point) : 0 < (ptsL ps).length ∨ ¬ ps.length ≤ 8 := by
  by_cases h : ps.length ≤ 8
  · left
    obtain ⟨l, c, hv, _⟩ := Wr.put_init (ps.length : Int) (Wr.isNum_len _ (by omega))
    unfold ptsL
    rw [List.length_append, hv]; simp; omega
  · exact .inr h
theorem ptsL_le {ps : List Point} (h : batchB ps = true) : (ptsL ps).length ≤ 300 := by
  have h8 := batch_len h
  have hm := batch_all h
  have hone : ∀ p ∈ ps, (oneL p).length ≤ 36 := fun p hp => by
    have := may_name (hm p hp)
    unfold oneL
    rw [List.length_append, List.length_append, Wr.len_list]
    have h1 := Wr.putL_len p.2.1
    have h2 := Wr.putL_len p.2.2
    have h3 : (Wr.textB p.1).size ≤ 8 + p.1.size := by unfold Wr.textB; rw [ByteArray.size_append, Wr.putB_size]; have := Wr.putL_len (p.1.size : Int); omega
    omega
  have hsum : ∀ qs : List Point, (∀ p ∈ qs, (oneL p).length ≤ 36) → (qs.flatMap oneL).length ≤ qs.length * 36 := by
    intro qs
    induction qs with
    | nil => simp
    | cons p qs ih => intro h; rw [List.flatMap_cons, List.length_append, List.length_cons]; have := ih (fun q hq => h q (by simp [hq])); have := h p (by simp); omega
  have h1 := hsum ps hone
  have h2 := Wr.putL_len (ps.length : Int)
  unfold ptsL
  rw [List.length_append]; omega
end Go.Proofs.Ythdbmgjlegpbaaa.Pt
