/- Joined texts: PtBack, ClPlain, ClBack, Build, WireWalks. -/
import Derived.Test.YthdbmgjlegpbaaaK1
import Derived.Test.YthdbmgjlegpbaaaProg
import Derived.Test.YthdbmgjlegpbaaaRows
import Derived.Test.YthdbmgjlegpbaaaShelf
import Derived.Lib.FrozenHead2
import Derived.Lib.OthersKept
import Derived.Laws.Externs
/- Points there and back, and cut: plain (chapter 3). No program in sight. -/
namespace Go.Proofs.Ythdbmgjlegpbaaa.Pt
open Go.Proofs.Ythdbmgjlegpbaaa
set_option linter.unusedVariables false

theorem rdNum_ok (s : ByteArray) (lo hi a x m : Int) (h : Wr.getN s.data.toList a = (x, m, 0)) (h1 : lo ≤ x) (h2 : x ≤ hi) : rdNum s lo hi (a, false) = (x, (m, false)) := by
  unfold rdNum; rw [h]; simp; omega
theorem rdNum_no (s : ByteArray) (lo hi a : Int) (b : Bool) (h : (Wr.getN s.data.toList a).2.2 ≠ 0) : rdNum s lo hi (a, b) = (0, (a, true)) := by
  unfold rdNum; rw [if_pos (.inl h)]
theorem rdText_no (s : ByteArray) (most a : Int) (b : Bool) (h : (Wr.getT s a most).2.2 ≠ 0) : rdText s most (a, b) = (⟨#[]⟩, (a, true)) := by
  unfold rdText; rw [if_pos (.inl h)]
theorem rdNum_put (s : ByteArray) (pre post : List UInt8) (x lo hi : Int) (hl : s.data.toList = pre ++ (Wr.putL x ++ post)) (hx : Wr.isNum x = true) (h1 : lo ≤ x) (h2 : x ≤ hi) :
    rdNum s lo hi ((pre.length : Int), false) = (x, ((pre.length : Int) + ((Wr.putL x).length : Int), false)) :=
  rdNum_ok s lo hi _ x _ (by rw [hl]; exact Wr.getN_put pre post x hx) h1 h2
theorem getT_at_text (s : ByteArray) (pre post : List UInt8) (t : ByteArray) (most : Int) (hl : s.data.toList = pre ++ ((Wr.textB t).data.toList ++ post)) (ht : t.size ≤ 9007199254740992) (hm : (t.size : Int) ≤ most) :
    Wr.getT s (pre.length : Int) most = (t, (pre.length : Int) + ((Wr.textB t).data.toList.length : Int), 0) := by
  have hn := Wr.isNum_len t.size ht
  have hlt : (Wr.textB t).data.toList = Wr.putL (t.size : Int) ++ t.data.toList := by unfold Wr.textB; rw [Wr.append_list, Wr.putB_list]
  rw [hlt, List.append_assoc] at hl
  have hg : Wr.getN s.data.toList (pre.length : Int) = ((t.size : Int), (pre.length : Int) + ((Wr.putL (t.size : Int)).length : Int), 0) := by
    rw [hl]; exact Wr.getN_put _ _ _ hn
  have hsz : s.size = pre.length + ((Wr.putL (t.size : Int)).length + (t.size + post.length)) := by rw [← Wr.len_list s, hl]; simp
  unfold Wr.getT
  rw [hg]
  simp only [ne_eq, not_true_eq_false, if_false]
  rw [if_neg (by omega), if_neg (by rw [hsz]; omega)]
  have e1 : ((pre.length : Int) + ((Wr.putL (t.size : Int)).length : Int)).toNat = pre.length + (Wr.putL (t.size : Int)).length := by omega
  have e2 : ((pre.length : Int) + ((Wr.putL (t.size : Int)).length : Int) + (t.size : Int)).toNat = pre.length + (Wr.putL (t.size : Int)).length + t.size := by omega
  rw [e1, e2, hlt]
  refine Prod.ext ?_ (Prod.ext ?_ rfl)
  · apply Wr.ext_list
    rw [Lib.extract_data, hl]
    rw [show pre ++ (Wr.putL (t.size : Int) ++ (t.data.toList ++ post)) = (pre ++ Wr.putL (t.size : Int)) ++ (t.data.toList ++ post) from by simp]
    rw [List.drop_left' (by rw [List.length_append]), show pre.length + (Wr.putL (t.size : Int)).length + t.size - (pre.length + (Wr.putL (t.size : Int)).length) = t.size from by omega, ← Wr.len_list t, List.take_left]
  · simp only [List.length_append, Wr.len_list]; omega
theorem rdText_put (s : ByteArray) (pre post : List UInt8) (t : ByteArray) (hl : s.data.toList = pre ++ ((Wr.textB t).data.toList ++ post)) (ht : t.size ≤ 12) :
    rdText s 12 ((pre.length : Int), false) = (t, ((pre.length : Int) + ((Wr.textB t).data.toList.length : Int), false)) := by
  unfold rdText
  rw [getT_at_text s pre post t 12 hl (by omega) (by omega)]; simp
theorem small_num {x : Int} (h : smallB x = true) : Wr.isNum x = true := by
  rw [smallB_iff] at h; rw [Wr.isNum_iff]; omega
theorem may_name {p : Point} (h : mayB p = true) : p.1.size ≤ 12 := by
  unfold mayB nameB at h; simp at h; omega
theorem may_time {p : Point} (h : mayB p = true) : smallB p.2.1 = true := by
  unfold mayB at h; simp at h; exact h.1.2
theorem may_value {p : Point} (h : mayB p = true) : smallB p.2.2 = true := by
  unfold mayB at h; simp at h; exact h.2
theorem rdPt_of (s : ByteArray) (r : St) {nm : ByteArray} {t v : Int} {r1 r2 : St} {a3 : Int} {b3 : Bool} (h1 : rdText s 12 r = (nm, r1)) (h2 : rdNum s (-2147483648) 2147483647 r1 = (t, r2)) (h3 : rdNum s (-2147483648) 2147483647 r2 = (v, (a3, b3))) :
    rdPt s r = ((nm, t, v), (a3, b3 || !mayB (nm, t, v))) := by
  unfold rdPt; simp only [h1, h2, h3]
theorem rdPt_put (s : ByteArray) (pre post : List UInt8) (p : Point) (hl : s.data.toList = pre ++ (oneL p ++ post)) (hm : mayB p = true) :
    rdPt s ((pre.length : Int), false) = (p, ((pre.length : Int) + ((oneL p).length : Int), false)) := by
  have h1 := rdText_put s pre (Wr.putL p.2.1 ++ (Wr.putL p.2.2 ++ post)) p.1 (by rw [hl]; unfold oneL; simp) (may_name hm)
  have ht := (smallB_iff _).1 (may_time hm)
  have hv := (smallB_iff _).1 (may_value hm)
  have h2 := rdNum_put s (pre ++ (Wr.textB p.1).data.toList) (Wr.putL p.2.2 ++ post) p.2.1 (-2147483648) 2147483647 (by rw [hl]; unfold oneL; simp) (small_num (may_time hm)) ht.1 ht.2
  have h3 := rdNum_put s (pre ++ (Wr.textB p.1).data.toList ++ Wr.putL p.2.1) post p.2.2 (-2147483648) 2147483647 (by rw [hl]; unfold oneL; simp) (small_num (may_value hm)) hv.1 hv.2
  rw [List.length_append, Int.natCast_add] at h2
  rw [List.length_append, List.length_append, Int.natCast_add, Int.natCast_add] at h3
  rw [rdPt_of s _ h1 h2 h3]
  have hp : (p.1, p.2.1, p.2.2) = p := rfl
  rw [hp, hm]
  unfold oneL
  simp only [List.length_append, Int.natCast_add]
  refine Prod.ext rfl (Prod.ext ?_ rfl)
  simp only [Int.add_assoc]
theorem rdPts_put (s : ByteArray) (ps : List Point) (pre post : List UInt8) (hl : s.data.toList = pre ++ (ps.flatMap oneL ++ post)) (hm : ∀ p ∈ ps, mayB p = true) :
    rdPts s ps.length ((pre.length : Int), false) = (ps, ((pre.length : Int) + ((ps.flatMap oneL).length : Int), false)) := by
  induction ps generalizing pre with
  | nil => simp [rdPts]
  | cons p ps ih =>
    have h1 := rdPt_put s pre (ps.flatMap oneL ++ post) p (by rw [hl]; simp) (hm p (by simp))
    have h2 := ih (pre ++ oneL p) (by rw [hl]; simp) (fun q hq => hm q (by simp [hq]))
    rw [List.length_append, Int.natCast_add] at h2
    rw [List.length_cons, rdPts, h1, h2]
    simp only [List.flatMap_cons, List.length_append, Int.natCast_add]
    refine Prod.ext rfl (Prod.ext ?_ rfl)
    simp only [Int.add_assoc]
theorem batch_len {ps : List Point} (h : batchB ps = true) : ps.length ≤ 8 := by unfold batchB at h; simp at h; exact h.1
theorem batch_all {ps : List Point} (h : batchB ps = true) : ∀ p ∈ ps, mayB p = true := by unfold batchB at h; simp at h; intro p hp; obtain ⟨a, b, c⟩ := p; exact h.2 a b c hp
theorem readPts_put (s : ByteArray) (ps : List Point) (pre post : List UInt8) (hl : s.data.toList = pre ++ (ptsL ps ++ post)) (hb : batchB ps = true) :
    readPts s ((pre.length : Int), false) = (ps, ((pre.length : Int) + ((ptsL ps).length : Int), false)) := by
  have h8 := batch_len hb
  have h1 := rdNum_put s pre (ps.flatMap oneL ++ post) (ps.length : Int) 0 8 (by rw [hl]; unfold ptsL; simp) (Wr.isNum_len _ (by omega)) (by omega) (by omega)
  have h2 := rdPts_put s ps (pre ++ Wr.putL (ps.length : Int)) post (by rw [hl]; unfold ptsL; simp) (batch_all hb)
  rw [List.length_append, Int.natCast_add] at h2
  unfold readPts
  simp only [h1, Int.toNat_natCast, h2]
  unfold ptsL
  simp only [List.length_append, Int.natCast_add]
  refine Prod.ext rfl (Prod.ext ?_ rfl)
  simp only [Int.add_assoc]
theorem getPts_put (s : ByteArray) (ps : List Point) (pre post : List UInt8) (hl : s.data.toList = pre ++ (ptsL ps ++ post)) (hb : batchB ps = true) :
    getPts s (pre.length : Int) = (ps, (pre.length : Int) + ((ptsL ps).length : Int), 0) := by
  unfold getPts
  rw [readPts_put s ps pre post hl hb]; simp
/-! cut -/
theorem rdNum_cut (s : ByteArray) (pre : List UInt8) (x lo hi : Int) (k : Nat) (b : Bool) (hl : s.data.toList = pre ++ (Wr.putL x).take k) (hx : Wr.isNum x = true) (hk : k < (Wr.putL x).length) :
    rdNum s lo hi ((pre.length : Int), b) = (0, ((pre.length : Int), true)) := by
  refine rdNum_no s lo hi _ b ?_
  rw [hl, Wr.getN_at, Wr.gn_cut x hx k hk]
  exact (by decide : (200 : Int) ≠ 0)
theorem rdText_cut (s : ByteArray) (pre : List UInt8) (t : ByteArray) (k : Nat) (b : Bool) (hl : s.data.toList = pre ++ ((Wr.textB t).data.toList).take k) (ht : t.size ≤ 12) (hk : k < (Wr.textB t).data.toList.length) :
    rdText s 12 ((pre.length : Int), b) = (⟨#[]⟩, ((pre.length : Int), true)) := by
  refine rdText_no s 12 _ b ?_
  have hn := Wr.isNum_len t.size (by omega)
  have hlt : (Wr.textB t).data.toList = Wr.putL (t.size : Int) ++ t.data.toList := by unfold Wr.textB; rw [Wr.append_list, Wr.putB_list]
  rw [hlt] at hl hk
  by_cases h1 : k < (Wr.putL (t.size : Int)).length
  · have hg : Wr.getN s.data.toList (pre.length : Int) = (0, 0, 200) := by
      rw [hl, List.take_append_of_le_length (by omega), Wr.getN_at, Wr.gn_cut _ hn _ h1]
    unfold Wr.getT
    rw [hg]
    exact (by decide : (200 : Int) ≠ 0)
  · have hg : Wr.getN s.data.toList (pre.length : Int) = ((t.size : Int), (pre.length : Int) + ((Wr.putL (t.size : Int)).length : Int), 0) := by
      rw [hl, List.take_append, List.take_of_length_le (by omega)]; exact Wr.getN_put _ _ _ hn
    have hsz : s.size = pre.length + k := by rw [← Wr.len_list s, hl, List.length_append, List.length_take]; omega
    unfold Wr.getT
    rw [hg]
    simp only [ne_eq, not_true_eq_false, if_false]
    rw [List.length_append, Wr.len_list] at hk
    rw [if_neg (by omega), hsz, if_pos (by omega)]
    decide
theorem rdPt_bad1 (s : ByteArray) (r : St) (h : (rdText s 12 r).2.2 = true) : (rdPt s r).2.2 = true := by
  unfold rdPt
  obtain ⟨a, b⟩ : St := (rdText s 12 r).2
  generalize rdText s 12 r = X at *
  obtain ⟨nm, a1, b1⟩ := X
  obtain rfl : b1 = true := h
  simp [rdNum_bad]
theorem rdPt_bad2 (s : ByteArray) (r : St) (h : (rdNum s (-2147483648) 2147483647 (rdText s 12 r).2).2.2 = true) : (rdPt s r).2.2 = true := by
  unfold rdPt
  simp only
  generalize rdNum s (-2147483648) 2147483647 (rdText s 12 r).2 = X at *
  obtain ⟨t, a1, b1⟩ := X
  obtain rfl : b1 = true := h
  simp [rdNum_bad]
theorem rdPt_bad3 (s : ByteArray) (r : St) (h : (rdNum s (-2147483648) 2147483647 (rdNum s (-2147483648) 2147483647 (rdText s 12 r).2).2).2.2 = true) : (rdPt s r).2.2 = true := by
  unfold rdPt
  simp only
  rw [h]; rfl
theorem rdPt_cut (s : ByteArray) (pre : List UInt8) (p : Point) (k : Nat) (hl : s.data.toList = pre ++ (oneL p).take k) (hm : mayB p = true) (hk : k < (oneL p).length) : (rdPt s ((pre.length : Int), false)).2.2 = true := by
  have ht := (smallB_iff _).1 (may_time hm)
  have ho : oneL p = (Wr.textB p.1).data.toList ++ (Wr.putL p.2.1 ++ Wr.putL p.2.2) := by unfold oneL; simp
  rw [ho] at hl hk
  by_cases h1 : k < (Wr.textB p.1).data.toList.length
  · rw [List.take_append_of_le_length (by omega)] at hl
    refine rdPt_bad1 s _ ?_
    rw [rdText_cut s pre p.1 k false hl (may_name hm) h1]
  · rw [List.take_append, List.take_of_length_le (by omega)] at hl
    generalize hk2 : k - (Wr.textB p.1).data.toList.length = k2 at *
    have e1 := rdText_put s pre ((Wr.putL p.2.1 ++ Wr.putL p.2.2).take k2) p.1 hl (may_name hm)
    by_cases h2 : k2 < (Wr.putL p.2.1).length
    · rw [List.take_append_of_le_length (by omega), ← List.append_assoc] at hl
      refine rdPt_bad2 s _ ?_
      have := rdNum_cut s (pre ++ (Wr.textB p.1).data.toList) p.2.1 (-2147483648) 2147483647 k2 false hl (small_num (may_time hm)) h2
      rw [List.length_append, Int.natCast_add] at this
      rw [e1, this]
    · rw [List.take_append, List.take_of_length_le (by omega)] at hl
      generalize hk3 : k2 - (Wr.putL p.2.1).length = k3 at *
      have e2 := rdNum_put s (pre ++ (Wr.textB p.1).data.toList) ((Wr.putL p.2.2).take k3) p.2.1 (-2147483648) 2147483647 (by rw [hl]; simp) (small_num (may_time hm)) ht.1 ht.2
      have hk4 : k3 < (Wr.putL p.2.2).length := by rw [List.length_append, List.length_append] at hk; omega
      have e3 := rdNum_cut s (pre ++ (Wr.textB p.1).data.toList ++ Wr.putL p.2.1) p.2.2 (-2147483648) 2147483647 k3 false (by rw [hl]; simp) (small_num (may_value hm)) hk4
      rw [List.length_append, Int.natCast_add] at e2
      rw [List.length_append, List.length_append, Int.natCast_add, Int.natCast_add] at e3
      refine rdPt_bad3 s _ ?_
      rw [e1, e2, e3]
theorem rdPts_cut (s : ByteArray) (ps : List Point) (pre : List UInt8) (k : Nat) (hl : s.data.toList = pre ++ (ps.flatMap oneL).take k) (hm : ∀ p ∈ ps, mayB p = true) (hk : k < (ps.flatMap oneL).length) :
    (rdPts s ps.length ((pre.length : Int), false)).2.2 = true := by
  induction ps generalizing pre k with
  | nil => simp at hk
  | cons p ps ih =>
    rw [List.flatMap_cons] at hl hk
    rw [List.length_cons]
    simp only [rdPts]
    by_cases h1 : k < (oneL p).length
    · rw [List.take_append_of_le_length (by omega)] at hl
      exact rdPts_bad' s _ _ (rdPt_cut s pre p k hl (hm p (by simp)) h1)
    · rw [List.take_append, List.take_of_length_le (by omega)] at hl
      rw [List.length_append] at hk
      have e1 := rdPt_put s pre ((ps.flatMap oneL).take (k - (oneL p).length)) p hl (hm p (by simp))
      have e2 := ih (pre ++ oneL p) (k - (oneL p).length) (by rw [hl]; simp) (fun q hq => hm q (by simp [hq])) (by omega)
      rw [List.length_append, Int.natCast_add] at e2
      rw [e1]
      exact e2
theorem getPts_cut (s : ByteArray) (ps : List Point) (k : Nat) (hl : s.data.toList = (ptsL ps).take k) (hb : batchB ps = true) (hk : k < (ptsL ps).length) : getPts s 0 = ([], 0, 300) := by
  have h8 := batch_len hb
  have hbad : (readPts s (0, false)).2.2 = true := by
    unfold ptsL at hl hk
    unfold readPts
    by_cases h1 : k < (Wr.putL (ps.length : Int)).length
    · rw [List.take_append_of_le_length (by omega)] at hl
      have e := rdNum_cut s [] (ps.length : Int) 0 8 k false (by simpa using hl) (Wr.isNum_len _ (by omega)) h1
      simp only [List.length_nil, Int.natCast_zero] at e
      rw [e]
      rfl
    · rw [List.take_append, List.take_of_length_le (by omega)] at hl
      rw [List.length_append] at hk
      have e1 := rdNum_put s [] ((ps.flatMap oneL).take (k - (Wr.putL (ps.length : Int)).length)) (ps.length : Int) 0 8 (by simpa using hl) (Wr.isNum_len _ (by omega)) (by omega) (by omega)
      have e2 := rdPts_cut s ps (Wr.putL (ps.length : Int)) (k - (Wr.putL (ps.length : Int)).length) hl (batch_all hb) (by omega)
      simp only [List.length_nil, Int.natCast_zero, Int.zero_add] at e1
      simp only [e1, Int.toNat_natCast]
      exact e2
  unfold getPts
  rw [hbad]; rfl
theorem getPts_out (s : ByteArray) (a : Int) (h : a < 0 ∨ (s.size : Int) < a) : getPts s a = ([], 0, 300) := by
  have e : rdNum s 0 8 (a, false) = (0, (a, true)) := rdNum_no s 0 8 a false (by unfold Wr.getN; rw [Wr.len_list, if_pos h]; decide)
  unfold getPts readPts
  simp only [e]
  rfl
theorem ptsB_list (ps : List Point) : (ptsB ps).data.toList = ptsL ps := by unfold ptsB; simp
theorem ptsL_pos (ps : List Point) : 0 < (ptsL ps).length ∨ ¬ ps.length ≤ 8 := by
  by_cases h : ps.length ≤ 8
  · left
    obtain ⟨l, c, hv, _⟩ := Wr.put_init (ps.length : Int) (Wr.isNum_len _ (by omega))
    unfold ptsL
    rw [List.length_append, hv]; simp; omega
  · exact .inr h
theorem ptsL_le {ps : List Point} (h : batchB ps = true) : (ptsL ps).length ≤ 300 := by
  have h8 := batch_len h
  have hm := batch_all h
  have hone : ∀ p ∈ ps, (oneL p).length ≤ 36 := fun p hp => by
    have := may_name (hm p hp)
    unfold oneL
    rw [List.length_append, List.length_append, Wr.len_list]
    have h1 := Wr.putL_len p.2.1
    have h2 := Wr.putL_len p.2.2
    have h3 : (Wr.textB p.1).size ≤ 8 + p.1.size := by unfold Wr.textB; rw [ByteArray.size_append, Wr.putB_size]; have := Wr.putL_len (p.1.size : Int); omega
    omega
  have hsum : ∀ qs : List Point, (∀ p ∈ qs, (oneL p).length ≤ 36) → (qs.flatMap oneL).length ≤ qs.length * 36 := by
    intro qs
    induction qs with
    | nil => simp
    | cons p qs ih => intro h; rw [List.flatMap_cons, List.length_append, List.length_cons]; have := ih (fun q hq => h q (by simp [hq])); have := h p (by simp); omega
  have h1 := hsum ps hone
  have h2 := Wr.putL_len (ps.length : Int)
  unfold ptsL
  rw [List.length_append]; omega
end Go.Proofs.Ythdbmgjlegpbaaa.Pt
/- Columns in plain words: numbers and texts as bytes, and back (chapter 12). No program in sight. -/
namespace Go.Proofs.Ythdbmgjlegpbaaa.Cl
open Go.Proofs.Ythdbmgjlegpbaaa
set_option linter.unusedVariables false

def intsD : Int → List Int → List UInt8
  | _, [] => []
  | last, x :: xs => Wr.putL (x - last) ++ intsD x xs
def intsB (xs : List Int) : ByteArray := if xs.all Pt.smallB then ⟨(intsD 0 xs).toArray⟩ else ⟨#[]⟩
def goInts (l : List UInt8) : Nat → Int → Int → Option (List Int × Int)
  | 0, _, a => some ([], a)
  | n + 1, last, a =>
    if (Wr.getN l a).2.2 = 0 ∧ Pt.smallB (last + (Wr.getN l a).1) = true then
      (goInts l n (last + (Wr.getN l a).1) (Wr.getN l a).2.1).map fun r => ((last + (Wr.getN l a).1) :: r.1, r.2)
    else none
def getInts (s : ByteArray) (a many : Int) : List Int × Int × Int :=
  if many < 0 ∨ 65536 < many ∨ a < 0 ∨ (s.size : Int) < a then ([], 0, 1200) else
    match goInts s.data.toList many.toNat 0 a with
    | none => ([], 0, 1200)
    | some r => (r.1, r.2, 0)

theorem zig_le (x : Int) (m : Nat) (h1 : -(m : Int) ≤ x) (h2 : x ≤ (m : Int)) : Wr.zig x ≤ 2 * m := by
  unfold Wr.zig; split <;> omega
theorem putL_five (x : Int) (h1 : -8589934592 ≤ x) (h2 : x ≤ 8589934592) : (Wr.putL x).length ≤ 5 := by
  unfold Wr.putL
  split
  · have := zig_le x 8589934592 (by omega) (by omega)
    exact Wr.vb_len 9 (Wr.zig x) 4 (by simp; omega)
  · simp
theorem putL_seven (k : Nat) (h : k ≤ 140737488355328) : (Wr.putL (k : Int)).length ≤ 7 := by
  unfold Wr.putL
  split
  · have := zig_le (k : Int) k (by omega) (by omega)
    exact Wr.vb_len 9 (Wr.zig k) 6 (by simp; omega)
  · simp
theorem putL_one (x : Int) (h1 : -64 ≤ x) (h2 : x ≤ 63) : (Wr.putL x).length = 1 := by
  have hn : Wr.isNum x = true := (Wr.isNum_iff x).2 (by omega)
  unfold Wr.putL
  rw [if_pos hn]
  have : Wr.zig x < 128 := by unfold Wr.zig; split <;> omega
  rw [Wr.vb_small _ _ this]; rfl
theorem intsD_len (last : Int) (xs : List Int) (hl : Pt.smallB last = true) (h : xs.all Pt.smallB = true) : (intsD last xs).length ≤ 5 * xs.length := by
  induction xs generalizing last with
  | nil => simp [intsD]
  | cons x xs ih =>
    rw [List.all_cons, Bool.and_eq_true] at h
    have h1 := ih x h.1 h.2
    have hs := (Pt.smallB_iff _).1 h.1
    have hl' := (Pt.smallB_iff _).1 hl
    have h2 : (Wr.putL (x - last)).length ≤ 5 := putL_five (x - last) (by omega) (by omega)
    rw [intsD, List.length_append, List.length_cons]; omega
/-- one step more -/
theorem goInts_more (l : List UInt8) (n : Nat) (last a d to : Int) (h : Wr.getN l a = (d, to, 0)) (hs : Pt.smallB (last + d) = true) : goInts l (n + 1) last a = (goInts l n (last + d) to).map fun r => ((last + d) :: r.1, r.2) := by
  rw [goInts, h, if_pos ⟨rfl, hs⟩]
theorem goInts_stop (l : List UInt8) (n : Nat) (last a : Int) (h : (Wr.getN l a).2.2 ≠ 0 ∨ Pt.smallB (last + (Wr.getN l a).1) = false) : goInts l (n + 1) last a = none := by
  rw [goInts, if_neg]
  rintro ⟨h1, h2⟩
  rcases h with h | h
  · exact h h1
  · rw [h] at h2; cases h2
theorem goInts_put (l : List UInt8) (xs : List Int) (pre post : List UInt8) (last : Int) (hl : l = pre ++ (intsD last xs ++ post)) (hs : Pt.smallB last = true) (h : xs.all Pt.smallB = true) :
    goInts l xs.length last (pre.length : Int) = some (xs, (pre.length : Int) + ((intsD last xs).length : Int)) := by
  induction xs generalizing pre last with
  | nil => simp [goInts, intsD]
  | cons x xs ih =>
    rw [List.all_cons, Bool.and_eq_true] at h
    have hx := (Pt.smallB_iff _).1 h.1
    have hl' := (Pt.smallB_iff _).1 hs
    rw [intsD, List.append_assoc] at hl
    have hg : Wr.getN l (pre.length : Int) = (x - last, (pre.length : Int) + ((Wr.putL (x - last)).length : Int), 0) := by
      rw [hl]; exact Wr.getN_put _ _ _ ((Wr.isNum_iff _).2 (by omega))
    have e : last + (x - last) = x := by omega
    have h2 := ih (pre ++ Wr.putL (x - last)) x (by rw [hl]; simp) h.1 h.2
    rw [List.length_append, Int.natCast_add] at h2
    rw [List.length_cons, goInts_more l _ last _ _ _ hg (by rw [e]; exact h.1), e, h2, intsD, List.length_append]
    simp only [Option.map_some, Int.natCast_add, Int.add_assoc]

/-! texts -/
def idx (ws : List ByteArray) (x : ByteArray) : Nat := ws.findIdx fun w => decide (w = x)
def txGo : List ByteArray → List ByteArray → List ByteArray × List Nat
  | ws, [] => (ws, [])
  | ws, x :: xs =>
    if idx ws x < ws.length then ((txGo ws xs).1, idx ws x :: (txGo ws xs).2)
    else ((txGo (ws ++ [x]) xs).1, ws.length :: (txGo (ws ++ [x]) xs).2)
def wordsL (ws : List ByteArray) : List UInt8 := ws.flatMap fun w => (Wr.textB w).data.toList
def placesL (ks : List Nat) : List UInt8 := ks.flatMap fun (k : Nat) => Wr.putL (k : Int)
def textsL (xs : List ByteArray) : List UInt8 := Wr.putL ((txGo [] xs).1.length : Int) ++ wordsL (txGo [] xs).1 ++ placesL (txGo [] xs).2
def shortB (xs : List ByteArray) : Bool := xs.all fun x => decide (x.size ≤ 12)
def textsB (xs : List ByteArray) : ByteArray := if shortB xs then ⟨(textsL xs).toArray⟩ else ⟨#[]⟩
theorem idx_le (ws : List ByteArray) (x : ByteArray) : idx ws x ≤ ws.length := List.findIdx_le_length
theorem idx_lt {ws : List ByteArray} {x : ByteArray} (h : idx ws x < ws.length) : ws[idx ws x] = x := by
  have := List.findIdx_getElem (w := h)
  exact of_decide_eq_true this
theorem idx_first {ws : List ByteArray} {x : ByteArray} {k : Nat} (hk : k < ws.length) (h : ws[k] = x) (hb : ∀ j (hj : j < k), ws[j]'(by omega) ≠ x) : idx ws x = k := by
  unfold idx
  rw [List.findIdx_eq hk]
  exact ⟨by simpa using h, fun j hj => by simpa using hb j hj⟩
theorem idx_none {ws : List ByteArray} {x : ByteArray} (h : ∀ j (hj : j < ws.length), ws[j] ≠ x) : idx ws x = ws.length := by
  unfold idx
  rw [List.findIdx_eq_length]
  intro w hw
  obtain ⟨j, hj, rfl⟩ := List.getElem_of_mem hw
  simpa using h j hj

def rdWords (s : ByteArray) : Nat → List ByteArray → Int → Option (List ByteArray × Int)
  | 0, ws, a => some (ws, a)
  | n + 1, ws, a => if (Wr.getT s a 12).2.2 = 0 ∧ ¬ idx ws (Wr.getT s a 12).1 < ws.length then rdWords s n (ws ++ [(Wr.getT s a 12).1]) (Wr.getT s a 12).2.1 else none
def rdPlaces (l : List UInt8) (ws : List ByteArray) : Nat → Nat → Int → Option (List ByteArray × Nat × Int)
  | 0, used, a => some ([], used, a)
  | n + 1, used, a =>
    if (Wr.getN l a).2.2 = 0 ∧ 0 ≤ (Wr.getN l a).1 ∧ (Wr.getN l a).1 < (ws.length : Int) ∧ (Wr.getN l a).1 ≤ (used : Int) then
      (rdPlaces l ws n (if (Wr.getN l a).1 = (used : Int) then used + 1 else used) (Wr.getN l a).2.1).map fun r => (ws.getD (Wr.getN l a).1.toNat ⟨#[]⟩ :: r.1, r.2)
    else none
def getTexts (s : ByteArray) (a many : Int) : List ByteArray × Int × Int :=
  if many < 0 ∨ 65536 < many ∨ a < 0 ∨ (s.size : Int) < a then ([], 0, 1200) else
    if (Wr.getN s.data.toList a).2.2 ≠ 0 ∨ (Wr.getN s.data.toList a).1 < 0 ∨ many < (Wr.getN s.data.toList a).1 then ([], 0, 1200) else
      match rdWords s (Wr.getN s.data.toList a).1.toNat [] (Wr.getN s.data.toList a).2.1 with
      | none => ([], 0, 1200)
      | some (ws, b) =>
        match rdPlaces s.data.toList ws many.toNat 0 b with
        | none => ([], 0, 1200)
        | some (l, u, c) => if u = ws.length then (l, c, 0) else ([], 0, 1200)
end Go.Proofs.Ythdbmgjlegpbaaa.Cl
/- Columns there and back: plain (chapter 12). No program in sight. -/
namespace Go.Proofs.Ythdbmgjlegpbaaa.Cl
open Go.Proofs.Ythdbmgjlegpbaaa
set_option linter.unusedVariables false

theorem idx_mem {ws : List ByteArray} {x : ByteArray} : idx ws x < ws.length ↔ x ∈ ws := by
  unfold idx
  rw [List.findIdx_lt_length]
  simp
theorem tx_prefix (ws xs : List ByteArray) : ∃ r, (txGo ws xs).1 = ws ++ r := by
  induction xs generalizing ws with
  | nil => exact ⟨[], by simp [txGo]⟩
  | cons x xs ih =>
    rw [txGo]
    split
    · obtain ⟨r, hr⟩ := ih ws; exact ⟨r, hr⟩
    · obtain ⟨r, hr⟩ := ih (ws ++ [x]); exact ⟨[x] ++ r, by simp [hr]⟩
theorem tx_nodup (ws xs : List ByteArray) (h : ws.Nodup) : (txGo ws xs).1.Nodup := by
  induction xs generalizing ws with
  | nil => exact h
  | cons x xs ih =>
    rw [txGo]
    split
    · exact ih ws h
    · rename_i hn
      rw [idx_mem] at hn
      exact ih _ (by rw [List.nodup_append]; exact ⟨h, by simp, fun a ha b hb => by simp at hb; subst hb; exact fun e => hn (e ▸ ha)⟩)
theorem tx_short (ws xs : List ByteArray) (h : ∀ w ∈ ws, w.size ≤ 12) (hx : ∀ x ∈ xs, x.size ≤ 12) : ∀ w ∈ (txGo ws xs).1, w.size ≤ 12 := by
  induction xs generalizing ws with
  | nil => exact h
  | cons x xs ih =>
    rw [txGo]
    split
    · exact ih ws h fun y hy => hx y (by simp [hy])
    · exact ih _ (fun w hw => by
        rcases List.mem_append.1 hw with hw | hw
        · exact h w hw
        · simp at hw; subst hw; exact hx _ (by simp)) fun y hy => hx y (by simp [hy])
theorem tx_len (ws xs : List ByteArray) : (txGo ws xs).1.length ≤ ws.length + xs.length ∧ (txGo ws xs).2.length = xs.length := by
  induction xs generalizing ws with
  | nil => simp [txGo]
  | cons x xs ih =>
    rw [txGo]
    split
    · have := ih ws; simp; omega
    · have := ih (ws ++ [x]); simp at this ⊢; omega
theorem tx_places (ws xs : List ByteArray) : ∀ k ∈ (txGo ws xs).2, k < (txGo ws xs).1.length := by
  induction xs generalizing ws with
  | nil => simp [txGo]
  | cons x xs ih =>
    rw [txGo]
    split
    · rename_i h
      intro k hk
      rcases List.mem_cons.1 hk with rfl | hk
      · obtain ⟨r, hr⟩ := tx_prefix ws xs
        simp only [hr, List.length_append]; omega
      · exact ih ws k hk
    · intro k hk
      rcases List.mem_cons.1 hk with rfl | hk
      · obtain ⟨r, hr⟩ := tx_prefix (ws ++ [x]) xs
        simp only [hr, List.length_append, List.length_cons, List.length_nil]; omega
      · exact ih _ k hk
theorem rdWords_put (s : ByteArray) (ws ws0 : List ByteArray) (pre post : List UInt8) (hl : s.data.toList = pre ++ (wordsL ws ++ post)) (hs : ∀ w ∈ ws, w.size ≤ 12) (hn : (ws0 ++ ws).Nodup) :
    rdWords s ws.length ws0 (pre.length : Int) = some (ws0 ++ ws, (pre.length : Int) + ((wordsL ws).length : Int)) := by
  induction ws generalizing ws0 pre with
  | nil => simp [rdWords, wordsL]
  | cons w ws ih =>
    have hw : wordsL (w :: ws) = (Wr.textB w).data.toList ++ wordsL ws := by simp [wordsL]
    rw [hw, List.append_assoc] at hl
    have hg := Pt.getT_at_text s pre (wordsL ws ++ post) w 12 hl (by have := hs w (by simp); omega) (by have := hs w (by simp); omega)
    have hni : ¬ idx ws0 w < ws0.length := by
      rw [idx_mem]
      intro hm
      rw [List.nodup_append] at hn
      exact hn.2.2 w hm w (by simp) rfl
    have h2 := ih (ws0 ++ [w]) (pre ++ (Wr.textB w).data.toList) (by rw [hl]; simp) (fun x hx => hs x (by simp [hx])) (by simpa using hn)
    rw [List.length_append, Int.natCast_add] at h2
    rw [List.length_cons, rdWords, hg, if_pos ⟨rfl, hni⟩, h2, hw]
    simp only [List.append_assoc, List.cons_append, List.nil_append, List.length_append, Int.natCast_add, Int.add_assoc]
theorem rdPlaces_put (l : List UInt8) (xs ws : List ByteArray) (pre post : List UInt8) (hl : l = pre ++ (placesL (txGo ws xs).2 ++ post)) (hb : (txGo ws xs).1.length ≤ 9007199254740992) :
    rdPlaces l (txGo ws xs).1 xs.length ws.length (pre.length : Int) = some (xs, (txGo ws xs).1.length, (pre.length : Int) + ((placesL (txGo ws xs).2).length : Int)) := by
  induction xs generalizing ws pre with
  | nil => simp [rdPlaces, txGo, placesL]
  | cons x xs ih =>
    rw [txGo] at hl hb ⊢
    by_cases h : idx ws x < ws.length
    · rw [if_pos h] at hl hb ⊢
      simp only at hl hb ⊢
      obtain ⟨r, hr⟩ := tx_prefix ws xs
      have hp : placesL (idx ws x :: (txGo ws xs).2) = Wr.putL (idx ws x : Int) ++ placesL (txGo ws xs).2 := by simp [placesL]
      rw [hp, List.append_assoc] at hl
      have hW : ws.length ≤ (txGo ws xs).1.length := by rw [hr, List.length_append]; omega
      have hg : Wr.getN l (pre.length : Int) = ((idx ws x : Int), (pre.length : Int) + ((Wr.putL (idx ws x : Int)).length : Int), 0) := by
        rw [hl]; exact Wr.getN_put _ _ _ ((Wr.isNum_iff _).2 (by omega))
      have h2 := ih ws (pre ++ Wr.putL (idx ws x : Int)) (by rw [hl]; simp) hb
      rw [List.length_append, Int.natCast_add] at h2
      rw [List.length_cons, rdPlaces, hg, if_pos ⟨rfl, by simp, by simp; omega, by simp; omega⟩]
      simp only [Int.toNat_natCast]
      rw [if_neg (by omega), h2, hp]
      have hx : (txGo ws xs).1.getD (idx ws x) ⟨#[]⟩ = x := by
        rw [hr, List.getD_eq_getElem?_getD, List.getElem?_append_left h, List.getElem?_eq_getElem h, idx_lt h]; rfl
      rw [hx]
      simp only [Option.map_some, List.length_append, Int.natCast_add, Int.add_assoc]
    · rw [if_neg h] at hl hb ⊢
      simp only at hl hb ⊢
      obtain ⟨r, hr⟩ := tx_prefix (ws ++ [x]) xs
      have hp : placesL (ws.length :: (txGo (ws ++ [x]) xs).2) = Wr.putL (ws.length : Int) ++ placesL (txGo (ws ++ [x]) xs).2 := by simp [placesL]
      rw [hp, List.append_assoc] at hl
      have hW : ws.length < (txGo (ws ++ [x]) xs).1.length := by rw [hr]; simp
      have hg : Wr.getN l (pre.length : Int) = ((ws.length : Int), (pre.length : Int) + ((Wr.putL (ws.length : Int)).length : Int), 0) := by
        rw [hl]; exact Wr.getN_put _ _ _ ((Wr.isNum_iff _).2 (by omega))
      have h2 := ih (ws ++ [x]) (pre ++ Wr.putL (ws.length : Int)) (by rw [hl]; simp) hb
      rw [show (ws ++ [x]).length = ws.length + 1 from by simp, List.length_append, Int.natCast_add] at h2
      rw [List.length_cons, rdPlaces, hg, if_pos ⟨rfl, by simp, by simp; omega, by simp⟩]
      simp only [Int.toNat_natCast, if_true]
      rw [h2, hp]
      have hx : (txGo (ws ++ [x]) xs).1.getD ws.length ⟨#[]⟩ = x := by
        rw [hr, List.getD_eq_getElem?_getD, List.append_assoc, List.getElem?_append_right (Nat.le_refl _)]; simp
      rw [hx]
      simp only [Option.map_some, List.length_append, Int.natCast_add, Int.add_assoc]
theorem short_all {xs : List ByteArray} (h : shortB xs = true) : ∀ x ∈ xs, x.size ≤ 12 := by
  unfold shortB at h; simpa using h
theorem getTexts_put (s : ByteArray) (xs : List ByteArray) (pre post : List UInt8) (hl : s.data.toList = pre ++ (textsL xs ++ post)) (hs : shortB xs = true) (hn : xs.length ≤ 65536) :
    getTexts s (pre.length : Int) (xs.length : Int) = (xs, (pre.length : Int) + ((textsL xs).length : Int), 0) := by
  have hlen := tx_len [] xs
  simp only [List.length_nil, Nat.zero_add] at hlen
  have hsz : s.size = pre.length + ((textsL xs).length + post.length) := by rw [← Wr.len_list, hl]; simp
  have ht : textsL xs = Wr.putL ((txGo [] xs).1.length : Int) ++ (wordsL (txGo [] xs).1 ++ placesL (txGo [] xs).2) := by unfold textsL; simp
  have hg : Wr.getN s.data.toList (pre.length : Int) = (((txGo [] xs).1.length : Int), (pre.length : Int) + ((Wr.putL ((txGo [] xs).1.length : Int)).length : Int), 0) := by
    rw [hl, ht, List.append_assoc]; exact Wr.getN_put _ _ _ ((Wr.isNum_iff _).2 (by omega))
  have h1 := rdWords_put s (txGo [] xs).1 [] (pre ++ Wr.putL ((txGo [] xs).1.length : Int)) (placesL (txGo [] xs).2 ++ post) (by rw [hl, ht]; simp) (tx_short [] xs (by simp) (short_all hs)) (by simpa using tx_nodup [] xs (by simp))
  have h2 := rdPlaces_put s.data.toList xs [] (pre ++ Wr.putL ((txGo [] xs).1.length : Int) ++ wordsL (txGo [] xs).1) post (by rw [hl, ht]; simp) (by omega)
  rw [List.length_append, Int.natCast_add] at h1
  rw [List.length_append, List.length_append, Int.natCast_add, Int.natCast_add] at h2
  unfold getTexts
  rw [if_neg (by omega), hg]
  simp only [Int.toNat_natCast]
  rw [if_neg (by simp; omega), h1]
  simp only [List.nil_append]
  rw [show ([] : List ByteArray).length = 0 from rfl] at h2
  rw [h2]
  simp only [if_true, ht, List.length_append, Int.natCast_add, Int.add_assoc]
theorem getInts_put (s : ByteArray) (xs : List Int) (pre post : List UInt8) (hl : s.data.toList = pre ++ (intsD 0 xs ++ post)) (h : xs.all Pt.smallB = true) (hn : xs.length ≤ 65536) :
    getInts s (pre.length : Int) (xs.length : Int) = (xs, (pre.length : Int) + ((intsD 0 xs).length : Int), 0) := by
  have hsz : s.size = pre.length + ((intsD 0 xs).length + post.length) := by rw [← Wr.len_list, hl]; simp
  unfold getInts
  rw [if_neg (by omega), Int.toNat_natCast, goInts_put _ xs pre post 0 hl (by decide) h]
end Go.Proofs.Ythdbmgjlegpbaaa.Cl
/- strings.Builder: copyCheck, WriteString and String at this program (worked out after the kit's forms '_k', which the shelf's command does not lay here). -/
namespace Go.Proofs.Ythdbmgjlegpbaaa
open Go.RowKit
set_option linter.unusedVariables false

abbrev Bld := Lib.IsBuilderF 72 5
theorem info_builder : (Try.prog.info? 72).map (·.size) = some 2 := by kernel_rfl
theorem lies_builder : liesAt Try.prog Try.prog.depth 72 (2 / Try.prog.cellsOf 72) 0 72 1 = true := by kernel_rfl
theorem info_byte : (Try.prog.info? 5).map (fun i => (i.zero, i.size, i.bytes)) = some (some (.int .u8 0), 1, 1) := by kernel_rfl

set_option maxRecDepth 100000 in
theorem copyCheck_used (b : Nat) (w : World) (h0 : w.cell? ⟨b, 0, none⟩ = some (.pointer (some ⟨b, 0, none⟩))) :
    Calls Try.prog 71 #[.pointer (some ⟨b, 0, none⟩)] w fun e w' => e = .returned (.tuple #[]) ∧ w' = w := by
  obtain ⟨j, hj, _⟩ := Option.map_eq_some_iff.1 info_builder
  go_enter Try.func71, Try.ntmps71
  go_wp2
  rw [Lib.run_neq_ptr_same w _ Try.underlying69 hj]
  go_wp2
  go_end0
  exact ⟨rfl, rfl⟩

set_option maxRecDepth 100000 in
theorem copyCheck_fresh (b : Nat) (w : World) (h0 : w.cell? ⟨b, 0, none⟩ = some (.pointer none)) (hsh : w.shape? b = some (72, 2)) (hfz : w.frozen? ⟨b, 0, none⟩ = false) :
    Calls Try.prog 71 #[.pointer (some ⟨b, 0, none⟩)] w fun e w' => e = .returned (.tuple #[]) ∧ w' = w.setCell ⟨b, 0, none⟩ (.pointer (some ⟨b, 0, none⟩)) := by
  obtain ⟨j, hj, hjs⟩ := Option.map_eq_some_iff.1 info_builder
  go_enter Try.func71, Try.ntmps71
  go_wp2
  rw [Lib.run_to_unsafe w ⟨b, 0, none⟩ Try.underlying69 Try.underlying132 hj (by rw [hjs]; decide) hsh (Nat.zero_lt_succ 1)]
  simp only [Result.andThen]
  rw [Oper.upon_value]
  go_wp2
  rw [run_callFunc_extern Try.func91 (by kernel_rfl) (by kernel_rfl) (by kernel_rfl) (e := Extern.AbiNoEscape.same) (by kernel_rfl)]
  rw [Lib.run_noEscape]
  simp only [Result.andThen]
  rw [Oper.upon_value]
  go_wp2
  rw [Lib.run_from_unsafe w ⟨b, 0, none⟩ Try.underlying132 Try.underlying69 hj hsh lies_builder]
  simp only [Result.andThen]
  rw [Oper.upon_value]
  go_wp2
  go_end0
  exact ⟨rfl, rfl⟩

theorem copyCheck_any (B b : Nat) (bs : List Value) (w : World) (h : Bld B b bs w) :
    Calls Try.prog 71 #[.pointer (some ⟨b, 0, none⟩)] w fun e w' => e = .returned (.tuple #[]) ∧ (Lib.BuilderAtF 72 5 B b (.pointer (some ⟨b, 0, none⟩)) bs w' ∧ Below B w w' ∧ Lib.OthersKept 5 (some b) w w') := by
  rcases h with h | h
  · refine (copyCheck_fresh b w h.cell0 h.shape h.frozen0).mono ?_
    rintro e w' ⟨rfl, rfl⟩
    exact ⟨rfl, h.used _, (Below.refl B w).setCell (p := ⟨b, 0, none⟩) h.1 _, (Lib.OthersKept.refl _ _ w).setCell ⟨b, 0, none⟩ rfl _⟩
  · refine (copyCheck_used b w h.cell0).mono ?_
    rintro e w' ⟨rfl, rfl⟩
    exact ⟨rfl, h, Below.refl B _, Lib.OthersKept.refl _ _ _⟩

set_option maxHeartbeats 1000000 in
set_option maxRecDepth 100000 in
theorem writeString_any (B b : Nat) (bs : List Value) (s : ByteArray) (w : World) (h : Bld B b bs w) (hlen : bs.length + s.size ≤ 140737488355328) (hBw : B ≤ w.heap.size) :
    Calls Try.prog 40 #[.pointer (some ⟨b, 0, none⟩), .string s] w fun e w' => e = .returned (.tuple #[.int .i64 s.size, .nilIface]) ∧ Bld B b (bs ++ Lib.strCells s) w' ∧ Below B w w' ∧ Lib.OthersKept 5 (some b) w w' := by
  obtain ⟨i0, hi, hz0, hz1, hz2⟩ := info_parts info_byte
  go_enter Try.func40, Try.ntmps40
  go_wp2_with fail
  refine (copyCheck_any B b bs _ h).mono ?_
  rintro e w1 ⟨rfl, h1, hb1, hk1⟩
  obtain ⟨hB, v, hbk, hown, hne⟩ := h1
  have c0 : w1.cell? ⟨b, 0, none⟩ = some (.pointer (some ⟨b, 0, none⟩)) := by rw [Lib.cell_of_heap hbk]; rfl
  have c1 : w1.cell? ⟨b, 1, none⟩ = some v := by rw [Lib.cell_of_heap hbk]; rfl
  go_wp2_with (at_builtin; refine Lib.wpList_append_own_stringF _ rfl _ _ 70 9 rfl B 5 i0 Try.underlying70 Try.underlying9 hi hz0 hz1 hz2 _ _ _ rfl hown s rfl ?c3 ?c4 ?c5 ?_)
  case c3 => unfold maxLen; omega
  case c4 => omega
  case c5 => have := hb1.size; omega
  intro v' w2 hown' hgrow _
  have hlt : b < w1.heap.size := by
    rcases Nat.lt_or_ge b w1.heap.size with h' | h'
    · exact h'
    · simp [Array.getElem?_eq_none h'] at hbk
  have hb2 : w2.heap[b]? = some (.cells #[.pointer (some ⟨b, 0, none⟩), v] 72 (0, 0)) := by
    rw [hgrow.block b hlt (fun e => hne e.symm)]
    exact hbk
  have d0 : w2.cell? ⟨b, 0, none⟩ = some (.pointer (some ⟨b, 0, none⟩)) := by rw [Lib.cell_of_heap hb2]; rfl
  have d1 : w2.cell? ⟨b, 1, none⟩ = some v := by rw [Lib.cell_of_heap hb2]; rfl
  have f1 : w2.frozen? ⟨b, 1, none⟩ = false := Lib.frozen_of_heap hb2 1
  obtain ⟨ao, n', cap, rfl⟩ : ∃ ao n' cap, v' = .slice ao n' cap := by
    rcases hown'.2 with ⟨hv, _⟩ | ⟨g, cap, cur, fz, hv, _⟩
    · exact ⟨_, _, _, hv⟩
    · exact ⟨_, _, _, hv⟩
  go_wp2
  go_ret2
  refine ⟨rfl, ?_, ?_, (hk1.grown hgrow (Lib.ownsRowF_kind hown)).setCell ⟨b, 1, none⟩ rfl _⟩
  · exact .inr (Lib.BuilderAtF.put (T := 72) (e := 5) hB hb2 (bs' := bs ++ Lib.strCells s) (by simpa [Lib.strCells] using hown') (by decide))
  · exact (hb1.grown hgrow (by have := hb1.size; omega) (fun k hk => (hown.lt k hk).1)).setCell (p := ⟨b, 1, none⟩) hB _

theorem byteCells_app (l : List UInt8) (s : ByteArray) : Lib.byteCells l ++ Lib.strCells s = Lib.byteCells (l ++ s.data.toList) := by
  simp [Lib.byteCells, Lib.strCells]
theorem byteCells_len (l : List UInt8) : (Lib.byteCells l).length = l.length := by simp [Lib.byteCells]
/-- WriteString on a builder that holds the bytes l -/
theorem write_any (B b : Nat) (l : List UInt8) (s : ByteArray) (w : World) (h : Bld B b (Lib.byteCells l) w) (hlen : l.length + s.size ≤ 140737488355328) (hBw : B ≤ w.heap.size) :
    Calls Try.prog 40 #[.pointer (some ⟨b, 0, none⟩), .string s] w fun e w' => e = .returned (.tuple #[.int .i64 s.size, .nilIface]) ∧ Bld B b (Lib.byteCells (l ++ s.data.toList)) w' ∧ Below B w w' ∧ Lib.OthersKept 5 (some b) w w' := by
  have := writeString_any B b (Lib.byteCells l) s w h (by rw [byteCells_len]; exact hlen) hBw
  rwa [byteCells_app] at this
theorem bstring_any (B b : Nat) (l : List UInt8) (w : World) (h : Bld B b (Lib.byteCells l) w) (hBw : B ≤ w.heap.size) :
    Calls Try.prog 42 #[.pointer (some ⟨b, 0, none⟩)] w fun e w' => e = .returned (.string ⟨l.toArray⟩) ∧ Bld B b (Lib.byteCells l) w' ∧ Below B w w' ∧ Lib.OthersKept 5 (some b) w w' :=
  Try.Builder_String_any_k B b l w h hBw
theorem bld_new (w : World) : Bld w.heap.size w.heap.size (Lib.byteCells []) (w.alloc (.cells #[.pointer none, .slice none 0 0] 72)) := Lib.IsBuilderF.of (Lib.fresh_isBuilder _ _ w)
theorem bld_mono {B B' b : Nat} {bs : List Value} {w : World} (h : Bld B b bs w) (hB : B' ≤ B) : Bld B' b bs w := by
  have up : ∀ p, Lib.BuilderAtF 72 5 B b p bs w → Lib.BuilderAtF 72 5 B' b p bs w := by
    rintro p ⟨h1, v, h2, h3, h4⟩
    refine ⟨Nat.le_trans hB h1, v, h2, ⟨h3.1, ?_⟩, h4⟩
    rcases h3.2 with h0 | ⟨g, cap, cur, fz, e1, e2, e3⟩
    · exact .inl h0
    · exact .inr ⟨g, cap, cur, fz, e1, Nat.le_trans hB e2, e3⟩
  rcases h with h | h
  · exact .inl (up _ h)
  · exact .inr (up _ h)
theorem bld_lt {B b : Nat} {bs : List Value} {w : World} (h : Bld B b bs w) : B ≤ b ∧ b < w.heap.size := by
  rcases h with h | h
  · exact ⟨h.1, h.lt⟩
  · exact ⟨h.1, h.lt⟩
/-- a builder is one still where all that lay then lies unturned -/
theorem bld_below {B b : Nat} {bs : List Value} {w w' : World} (h : Bld B b bs w) (hb : Below w.heap.size w w') : Bld B b bs w' := by
  have up : ∀ p, Lib.BuilderAtF 72 5 B b p bs w → Lib.BuilderAtF 72 5 B b p bs w' := by
    rintro p hh
    have hlt := hh.lt
    obtain ⟨h1, v, h2, h3, h4⟩ := hh
    refine ⟨h1, v, (hb.block b hlt).trans h2, ⟨h3.1, ?_⟩, h4⟩
    rcases h3.2 with h0 | ⟨g, cap, cur, fz, e1, e2, e3, e4⟩
    · exact .inl h0
    · exact .inr ⟨g, cap, cur, fz, e1, e2, (hb.block g (Array.getElem?_eq_some_iff.1 e3).1).trans e3, e4⟩
  rcases h with h | h
  · exact .inl (up _ h)
  · exact .inr (up _ h)
theorem Blk.others {w w' : World} {g : Nat} {t : TypeId} {cs : Array Value} {e : TypeId} {b : Nat} (h : Blk w g t cs) (ho : Lib.OthersKept e (some b) w w') (hg : g ≠ b) (ht : t ≠ e) : Blk w' g t cs :=
  ho g _ h (fun k => hg (Option.some.inj k)) (fun c fz k => ht (by injection k))
theorem own_others {w w' : World} {base : Nat} {t e : TypeId} {size n b : Nat} {v : Value} {xs : List Value} (h : w.ownsRow base t size v n xs) (ho : Lib.OthersKept e (some b) w w') (hg : v.ownBlock ≠ some b) (ht : t ≠ e) : w'.ownsRow base t size v n xs := by
  refine ⟨h.1, ?_⟩
  rcases h.2 with h0 | ⟨g, cap, cur, rfl, hb, hh, hr⟩
  · exact .inl h0
  · exact .inr ⟨g, cap, cur, rfl, hb, ho g _ hh (fun k => hg k) (fun c fz k => ht (by injection k)), hr⟩
end Go.Proofs.Ythdbmgjlegpbaaa
/- The walks through package wire and its reference: PutNum, GetNum, PutText, GetText. -/
namespace Go.Proofs.Ythdbmgjlegpbaaa
open Go.RowKit
set_option linter.unusedVariables false

theorem info_u8 : (Try.prog.info? 5).map (fun i => (i.zero, i.size, i.bytes)) = some (some (.int .u8 0), 1, 1) := by kernel_rfl
def byteV (c : UInt8) : Value := .int .u8 (c.toNat : Int)

theorem fits_any (x : Int) (w : World) : Calls Try.prog 72 #[.int .i64 x] w fun e w' => e = .returned (.bool (Wr.isNum x)) ∧ w = w' := by
  by_cases h1 : -9007199254740992 ≤ x
  · by_cases h2 : x ≤ 9007199254740992
    · go_enter Try.func72, Try.ntmps72
      go_wp2
      go_ret
      exact ⟨ret_bool ((Wr.isNum_iff x).2 ⟨h1, h2⟩).symm, rfl⟩
    · go_enter Try.func72, Try.ntmps72
      go_wp2
      go_ret
      exact ⟨ret_bool ((Wr.isNum_false x).2 (by omega)).symm, rfl⟩
  · go_enter Try.func72, Try.ntmps72
    go_wp2
    go_ret
    exact ⟨ret_bool ((Wr.isNum_false x).2 (by omega)).symm, rfl⟩
theorem number_any (x : Int) (w : World) : Calls Try.prog 87 #[.int .i64 x] w fun e w' => e = .returned (.bool (Wr.isNum x)) ∧ w = w' := by
  by_cases h1 : -9007199254740992 ≤ x
  · by_cases h2 : x ≤ 9007199254740992
    · go_enter Try.func87, Try.ntmps87
      go_wp2
      go_ret
      exact ⟨ret_bool ((Wr.isNum_iff x).2 ⟨h1, h2⟩).symm, rfl⟩
    · go_enter Try.func87, Try.ntmps87
      go_wp2
      go_ret
      exact ⟨ret_bool ((Wr.isNum_false x).2 (by omega)).symm, rfl⟩
  · go_enter Try.func87, Try.ntmps87
    go_wp2
    go_ret
    exact ⟨ret_bool ((Wr.isNum_false x).2 (by omega)).symm, rfl⟩
theorem fits_at (x : Int) (b : Bool) (h : Wr.isNum x = b) (w : World) : Calls Try.prog 72 #[.int .i64 x] w fun e w' => e = .returned (.bool b) ∧ w = w' := by subst h; exact fits_any x w
theorem number_at (x : Int) (b : Bool) (h : Wr.isNum x = b) (w : World) : Calls Try.prog 87 #[.int .i64 x] w fun e w' => e = .returned (.bool b) ∧ w = w' := by subst h; exact number_any x w

/-- the string of a row of bytes that the call owns -/
theorem conv_own {w : World} {base g n cap : Nat} {ys : List UInt8} (h : w.ownsRow base 5 1 (.slice (some ⟨g, 0, none⟩) n cap) n (ys.map byteV)) (hn : ys.length = n) :
    (convert 70 9 (.slice (some ⟨g, 0, none⟩) n cap)).run Try.prog w = .ok (.string ⟨ys.toArray⟩) w := by
  subst hn
  refine run_convert_bytes_back (P := Try.prog) w 70 9 5 ⟨g, 0, none⟩ cap ys Try.underlying70 Try.underlying5 Try.underlying9 (fun j hj => ?_)
  rw [add_mk, Nat.zero_add, h.cellAt j (by omega)]
  simp [byteV, hj]

set_option maxRecDepth 100000 in
set_option maxHeartbeats 400000 in
theorem putNum_any (x : Int) (w : World) (hx : -9223372036854775808 ≤ x ∧ x ≤ 9223372036854775807) :
    Calls Try.prog 41 #[.int .i64 x] w fun e w' => e = .returned (.string (Wr.putB x)) ∧ Below w.heap.size w w' := by
  obtain ⟨i0, hi, hz0, hz1, hz2⟩ := info_parts info_u8
  cases hnum : Wr.isNum x
  · have Hn := Lib.hid hnum
    clear hnum
    go_enter Try.func41, Try.ntmps41
    go_wp2_with fail
    refine (fits_at _ _ Hn.out _).mono ?_
    rintro e w' ⟨rfl, rfl⟩
    go_wp2_with fail
    go_ret
    exact ⟨ret_str (by unfold Wr.putB Wr.putL; rw [Hn.out]; rfl), Below.refl _ _⟩
  · obtain ⟨h1, h2⟩ := (Wr.isNum_iff x).1 hnum
    have Hn := Lib.hid hnum
    have hzl := Wr.zig_lt x hnum
    clear hnum
    have hzig : ∃ z : Nat, z = Wr.zig x := ⟨_, rfl⟩
    obtain ⟨z0, hz0'⟩ := hzig
    have Hz := Lib.hid hz0'
    rw [← hz0'] at hzl
    clear hz0'
    have hzx : (x < 0 → (z0 : Int) = -2 * x - 1) ∧ (¬ x < 0 → (z0 : Int) = 2 * x) := by
      rw [Hz.out]; unfold Wr.zig
      constructor
      · intro h; rw [if_pos h]; omega
      · intro h; rw [if_neg h]; omega
    have Hzx := Lib.hid hzx
    have Hput : Hid (Wr.putL x = Wr.vb 9 z0) := by show Wr.putL x = _; unfold Wr.putL; rw [if_pos Hn.out, Hz.out]
    clear hzx
    by_cases hneg : x < 0
    all_goals
      go_enter Try.func41, Try.ntmps41
      go_wp2_with fail
      refine (fits_at _ _ Hn.out _).mono ?_
      rintro e w' ⟨rfl, rfl⟩
      go_wp2_with fail
      go_loopw [3, 4] (fun u v wr => ∃ (ys : List UInt8) (z : Nat), ys.length ≤ 8 ∧ Hid (z < 128 ^ (9 - ys.length)) ∧ z ≤ 18014398509481984 ∧ u = .int .u64 (z : Int) ∧ Hid (Wr.vb 9 z0 = ys ++ Wr.vb (9 - ys.length) z) ∧ wr.ownsRow w.heap.size 5 1 v ys.length (ys.map byteV) ∧ Below w.heap.size w wr) (fun u _ _ => (intOf u).toNat)
      case atStart => exact ⟨[], z0, by simp, Lib.hid (by simp; omega), hzl, by first | rw [Hzx.out.1 hneg] | rw [Hzx.out.2 hneg], Lib.hid (by simp), own_nil _ _ _ _, Below.refl _ _⟩
      case round =>
        obtain ⟨ys, z, hyl, hzb, hzs, rfl, hvb, hown, hb⟩ := hrel
        by_cases hlt : z < 128
        · have Hvb : Hid (Wr.vb 9 z0 = ys ++ [UInt8.ofNat z]) := by show Wr.vb 9 z0 = _; rw [hvb.out, Wr.vb_small _ _ hlt]
          have hbyte : Hid (byteV (UInt8.ofNat z) = .int .u8 (z : Int)) := by show byteV _ = _; unfold byteV; rw [Wr.toNat_ofNat_small _ (by omega)]
          clear hzb hvb
          go_wp2_with (at_builtin; refine wpList_push wr rfl _ _ 70 rfl w.heap.size 5 i0 _ 1 1 Try.underlying70 hi hz0 hz1 hz2 rfl (by decide) _ ys.length _ (by rfl) hown [.int .u8 (z : Int)] (by rfl) rfl (by simp [Value.oneCell']) (by unfold maxLen; omega) (by omega) w hb hb.size ?_; intro v3 w3 hown3 hb3; obtain ⟨g, cap, hv3, hg3, hlt3⟩ := hown3.form (by omega); subst hv3; have hcv := conv_own (ys := ys ++ [UInt8.ofNat z]) (by rw [List.map_append, List.map_cons, List.map_nil, hbyte.out]; exact hown3) (by simp))
          go_ret
          exact ⟨ret_str (by unfold Wr.putB; rw [Hput.out, Hvb.out]), hb3⟩
        · have Hvb : Hid (Wr.vb 9 z0 = (ys ++ [UInt8.ofNat (z % 128 + 128)]) ++ Wr.vb (9 - (ys ++ [UInt8.ofNat (z % 128 + 128)]).length) (z / 128)) := by
            show Wr.vb 9 z0 = _
            rw [hvb.out, show 9 - ys.length = (8 - ys.length) + 1 from by omega, Wr.vb_more _ _ hlt]
            simp
          have hl7 : ys.length ≤ 7 := by
            rcases Nat.lt_or_ge ys.length 8 with h | h
            · omega
            · have h8 : ys.length = 8 := by omega
              have := hzb.out
              rw [h8] at this
              simp at this; omega
          have hzb' : Hid (z / 128 < 128 ^ (9 - (ys ++ [UInt8.ofNat (z % 128 + 128)]).length)) := by
            show z / 128 < _
            have := hzb.out
            rw [show 9 - ys.length = (8 - ys.length) + 1 from by omega] at this
            have := Wr.vb_next _ _ this
            rw [show 9 - (ys ++ [UInt8.ofNat (z % 128 + 128)]).length = 8 - ys.length from by simp]
            exact this
          have hbyte : Hid (byteV (UInt8.ofNat (z % 128 + 128)) = .int .u8 (bits .or .u8 ((z : Int) % 256) 128)) := by show byteV _ = _; unfold byteV; rw [Wr.toNat_ofNat_small _ (by omega), Wr.vb_byte]
          clear hzb hvb
          go_wp2_with (at_builtin; refine wpList_push wr rfl _ _ 70 rfl w.heap.size 5 i0 _ 1 1 Try.underlying70 hi hz0 hz1 hz2 rfl (by decide) _ ys.length _ (by rfl) hown [.int .u8 (bits .or .u8 ((z : Int) % 256) 128)] (by rfl) rfl (by simp [Value.oneCell']) (by unfold maxLen; omega) (by omega) w hb hb.size ?_; intro v3 w3 hown3 hb3)
          go_roundw
          case rel => exact ⟨ys ++ [UInt8.ofNat (z % 128 + 128)], z / 128, by simp; omega, hzb', by omega, by go_num, Hvb, by rw [List.map_append, List.map_cons, List.map_nil, hbyte.out, List.length_append]; exact hown3, hb3⟩
          case measure => simp [intOf]; omega
set_option maxRecDepth 100000 in
set_option maxHeartbeats 400000 in
theorem rnum_any (x : Int) (w : World) (hx : -9223372036854775808 ≤ x ∧ x ≤ 9223372036854775807) :
    Calls Try.prog 63 #[.int .i64 x] w fun e w' => e = .returned (.string (Wr.putB x)) ∧ Below w.heap.size w w' := by
  obtain ⟨i0, hi, hz0, hz1, hz2⟩ := info_parts info_u8
  cases hnum : Wr.isNum x
  · have Hn := Lib.hid hnum
    clear hnum
    go_enter Try.func63, Try.ntmps63
    go_wp2_with fail
    refine (number_at _ _ Hn.out _).mono ?_
    rintro e w' ⟨rfl, rfl⟩
    go_wp2_with fail
    go_ret
    exact ⟨ret_str (by unfold Wr.putB Wr.putL; rw [Hn.out]; rfl), Below.refl _ _⟩
  · obtain ⟨h1, h2⟩ := (Wr.isNum_iff x).1 hnum
    have Hn := Lib.hid hnum
    have hzl := Wr.zig_lt x hnum
    clear hnum
    have hzig : ∃ z : Nat, z = Wr.zig x := ⟨_, rfl⟩
    obtain ⟨z0, hz0'⟩ := hzig
    have Hz := Lib.hid hz0'
    rw [← hz0'] at hzl
    clear hz0'
    have hzx : (x < 0 → (z0 : Int) = -2 * x - 1) ∧ (¬ x < 0 → (z0 : Int) = 2 * x) := by
      rw [Hz.out]; unfold Wr.zig
      constructor
      · intro h; rw [if_pos h]; omega
      · intro h; rw [if_neg h]; omega
    have Hzx := Lib.hid hzx
    have Hput : Hid (Wr.putL x = Wr.vb 9 z0) := by show Wr.putL x = _; unfold Wr.putL; rw [if_pos Hn.out, Hz.out]
    clear hzx
    by_cases hneg : x < 0
    all_goals
      go_enter Try.func63, Try.ntmps63
      go_wp2_with fail
      refine (number_at _ _ Hn.out _).mono ?_
      rintro e w' ⟨rfl, rfl⟩
      go_wp2_with fail
      go_loopw [3, 4] (fun u v wr => ∃ (ys : List UInt8) (z : Nat), ys.length ≤ 8 ∧ Hid (z < 128 ^ (9 - ys.length)) ∧ z ≤ 18014398509481984 ∧ u = .int .i64 (z : Int) ∧ Hid (Wr.vb 9 z0 = ys ++ Wr.vb (9 - ys.length) z) ∧ wr.ownsRow w.heap.size 5 1 v ys.length (ys.map byteV) ∧ Below w.heap.size w wr) (fun u _ _ => (intOf u).toNat)
      case atStart => exact ⟨[], z0, by simp, Lib.hid (by simp; omega), hzl, by first | rw [Hzx.out.1 hneg] | rw [Hzx.out.2 hneg], Lib.hid (by simp), own_nil _ _ _ _, Below.refl _ _⟩
      case round =>
        obtain ⟨ys, z, hyl, hzb, hzs, rfl, hvb, hown, hb⟩ := hrel
        by_cases hlt : z < 128
        · have Hvb : Hid (Wr.vb 9 z0 = ys ++ [UInt8.ofNat z]) := by show Wr.vb 9 z0 = _; rw [hvb.out, Wr.vb_small _ _ hlt]
          have hbyte : Hid (byteV (UInt8.ofNat z) = .int .u8 (z : Int)) := by show byteV _ = _; unfold byteV; rw [Wr.toNat_ofNat_small _ (by omega)]
          clear hzb hvb
          go_wp2_with (at_builtin; refine wpList_push wr rfl _ _ 70 rfl w.heap.size 5 i0 _ 1 1 Try.underlying70 hi hz0 hz1 hz2 rfl (by decide) _ ys.length _ (by rfl) hown [.int .u8 (z : Int)] (by rfl) rfl (by simp [Value.oneCell']) (by unfold maxLen; omega) (by omega) w hb hb.size ?_; intro v3 w3 hown3 hb3; obtain ⟨g, cap, hv3, hg3, hlt3⟩ := hown3.form (by omega); subst hv3; have hcv := conv_own (ys := ys ++ [UInt8.ofNat z]) (by rw [List.map_append, List.map_cons, List.map_nil, hbyte.out]; exact hown3) (by simp))
          go_ret
          exact ⟨ret_str (by unfold Wr.putB; rw [Hput.out, Hvb.out]), hb3⟩
        · have Hvb : Hid (Wr.vb 9 z0 = (ys ++ [UInt8.ofNat (z % 128 + 128)]) ++ Wr.vb (9 - (ys ++ [UInt8.ofNat (z % 128 + 128)]).length) (z / 128)) := by
            show Wr.vb 9 z0 = _
            rw [hvb.out, show 9 - ys.length = (8 - ys.length) + 1 from by omega, Wr.vb_more _ _ hlt]
            simp
          have hl7 : ys.length ≤ 7 := by
            rcases Nat.lt_or_ge ys.length 8 with h | h
            · omega
            · have h8 : ys.length = 8 := by omega
              have := hzb.out
              rw [h8] at this
              simp at this; omega
          have hzb' : Hid (z / 128 < 128 ^ (9 - (ys ++ [UInt8.ofNat (z % 128 + 128)]).length)) := by
            show z / 128 < _
            have := hzb.out
            rw [show 9 - ys.length = (8 - ys.length) + 1 from by omega] at this
            have := Wr.vb_next _ _ this
            rw [show 9 - (ys ++ [UInt8.ofNat (z % 128 + 128)]).length = 8 - ys.length from by simp]
            exact this
          have hbyte : Hid (byteV (UInt8.ofNat (z % 128 + 128)) = .int .u8 ((z : Int) % 128 + 128)) := by show byteV _ = _; unfold byteV; rw [Wr.toNat_ofNat_small _ (by omega)]; rfl
          clear hzb hvb
          go_wp2_with (at_builtin; refine wpList_push wr rfl _ _ 70 rfl w.heap.size 5 i0 _ 1 1 Try.underlying70 hi hz0 hz1 hz2 rfl (by decide) _ ys.length _ (by rfl) hown [.int .u8 ((z : Int) % 128 + 128)] (by rfl) rfl (by simp [Value.oneCell']) (by unfold maxLen; omega) (by omega) w hb hb.size ?_; intro v3 w3 hown3 hb3)
          go_roundw
          case rel => exact ⟨ys ++ [UInt8.ofNat (z % 128 + 128)], z / 128, by simp; omega, hzb', by omega, by go_num, Hvb, by rw [List.map_append, List.map_cons, List.map_nil, hbyte.out, List.length_append]; exact hown3, hb3⟩
          case measure => simp [intOf]; omega
end Go.Proofs.Ythdbmgjlegpbaaa
