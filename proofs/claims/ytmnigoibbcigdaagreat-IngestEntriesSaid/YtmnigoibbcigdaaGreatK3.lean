/- Joined texts: PtBack, SePlain, SePlain2, SameRows, OwnSet, OwnRow. -/
import Derived.Test.YtmnigoibbcigdaaGreatK1
import Derived.Test.YtmnigoibbcigdaaGreatProg
import Derived.Deep.QuietTactic
import Derived.BigQuiet
import Derived.Laws.IdiomCopy
import Derived.Lib.AppendZerosOnto
import Derived.Lib.Overlaps
import Derived.Lib.SliceRun
/- Points there and back, and cut: plain (chapter 3). No program in sight. -/
namespace Go.Proofs.YtmnigoibbcigdaaGreat.Pt
open Go.Proofs.YtmnigoibbcigdaaGreat
set_option linter.unusedVariables false

theorem rdNum_ok (s : ByteArray) (lo hi a x m : Int) (h : Wr.getN s.data.toList a = (x, m, 0)) (h1 : lo ≤ x) (h2 : x ≤ hi) : rdNum s lo hi (a, false) = (x, (m, false)) := by
  unfold rdNum; rw [h]; simp; omega
theorem rdNum_no (s : ByteArray) (lo hi a : Int) (b : Bool) (h : (Wr.getN s.data.toList a).2.2 ≠ 0) : rdNum s lo hi (a, b) = (0, (a, true)) := by
  unfold rdNum; rw [if_pos (.inl h)]
theorem rdText_no (s : ByteArray) (most a : Int) (b : Bool) (h : (Wr.getT s a most).2.2 ≠ 0) : rdText s most (a, b) = (⟨#[]⟩, (a, true)) := by
  unfold rdText; rw [if_pos (.inl h)]
theorem rdNum_put (s : ByteArray) (pre post : List UInt8) (x lo hi : Int) (hl : s.data.toList = pre ++ (Wr.putL x ++ post)) (hx : Wr.isNum x = true) (h1 : lo ≤ x) (h2 : x ≤ hi) :
    rdNum s lo hi ((pre.length : Int), false) = (x, ((pre.length : Int) + ((Wr.putL x).length : Int), false)) :=
  rdNum_ok s lo hi _ x _ (by rw [hl]; exact Wr.getN_put pre post x hx) h1 h2
theorem getT_at_text (s : ByteArray) (pre post : List UInt8) (t : ByteArray) (most : Int) (hl : s.data.toList = pre ++ ((Wr.textB t).data.toList ++ post)) (ht : t.size ≤ 9007199254740992) (hm : (t.size : Int) ≤ most) :
    Wr.getT s (pre.length : Int) most = (t, (pre.length : Int) + ((Wr.textB t).data.toList.length : Int), 0) := by
  have hn := Wr.isNum_len t.size ht
  have hlt : (Wr.textB t).data.toList = Wr.putL (t.size : Int) ++ t.data.toList := by unfold Wr.textB; rw [Wr.append_list, Wr.putB_list]
  rw [hlt, List.append_assoc] at hl
  have hg : Wr.getN s.data.toList (pre.length : Int) = ((t.size : Int), (pre.length : Int) + ((Wr.putL (t.size : Int)).length : Int), 0) := by
    rw [hl]; exact Wr.getN_put _ _ _ hn
  have hsz : s.size = pre.length + ((Wr.putL (t.size : Int)).length + (t.size + post.length)) := by rw [← Wr.len_list s, hl]; simp
  unfold Wr.getT
  rw [hg]
  simp only [ne_eq, not_true_eq_false, if_false]
  rw [if_neg (by omega), if_neg (by rw [hsz]; omega)]
  have e1 : ((pre.length : Int) + ((Wr.putL (t.size : Int)).length : Int)).toNat = pre.length + (Wr.putL (t.size : Int)).length := by omega
  have e2 : ((pre.length : Int) + ((Wr.putL (t.size : Int)).length : Int) + (t.size : Int)).toNat = pre.length + (Wr.putL (t.size : Int)).length + t.size := by omega
  rw [e1, e2, hlt]
  refine Prod.ext ?_ (Prod.ext ?_ rfl)
  · apply Wr.ext_list
    rw [Lib.extract_data, hl]
    rw [show pre ++ (Wr.putL (t.size : Int) ++ (t.data.toList ++ post)) = (pre ++ Wr.putL (t.size : Int)) ++ (t.data.toList ++ post) from by simp]
    rw [List.drop_left' (by rw [List.length_append]), show pre.length + (Wr.putL (t.size : Int)).length + t.size - (pre.length + (Wr.putL (t.size : Int)).length) = t.size from by omega, ← Wr.len_list t, List.take_left]
  · simp only [List.length_append, Wr.len_list]; omega
theorem rdText_put (s : ByteArray) (pre post : List UInt8) (t : ByteArray) (hl : s.data.toList = pre ++ ((Wr.textB t).data.toList ++ post)) (ht : t.size ≤ 12) :
    rdText s 12 ((pre.length : Int), false) = (t, ((pre.length : Int) + ((Wr.textB t).data.toList.length : Int), false)) := by
  unfold rdText
  rw [getT_at_text s pre post t 12 hl (by omega) (by omega)]; simp
theorem small_num {x : Int} (h : smallB x = true) : Wr.isNum x = true := by
  rw [smallB_iff] at h; rw [Wr.isNum_iff]; omega
theorem may_name {p : Point} (h : mayB p = true) : p.1.size ≤ 12 := by
  unfold mayB nameB at h; simp at h; omega
theorem may_time {p : Point} (h : mayB p = true) : smallB p.2.1 = true := by
  unfold mayB at h; simp at h; exact h.1.2
theorem may_value {p : Point} (h : mayB p = true) : smallB p.2.2 = true := by
  unfold mayB at h; simp at h; exact h.2
theorem rdPt_of (s : ByteArray) (r : St) {nm : ByteArray} {t v : Int} {r1 r2 : St} {a3 : Int} {b3 : Bool} (h1 : rdText s 12 r = (nm, r1)) (h2 : rdNum s (-2147483648) 2147483647 r1 = (t, r2)) (h3 : rdNum s (-2147483648) 2147483647 r2 = (v, (a3, b3))) :
    rdPt s r = ((nm, t, v), (a3, b3 || !mayB (nm, t, v))) := by
  unfold rdPt; simp only [h1, h2, h3]
theorem rdPt_put (s : ByteArray) (pre post : List UInt8) (p : Point) (hl : s.data.toList = pre ++ (oneL p ++ post)) (hm : mayB p = true) :
    rdPt s ((pre.length : Int), false) = (p, ((pre.length : Int) + ((oneL p).length : Int), false)) := by
  have h1 := rdText_put s pre (Wr.putL p.2.1 ++ (Wr.putL p.2.2 ++ post)) p.1 (by rw [hl]; unfold oneL; simp) (may_name hm)
  have ht := (smallB_iff _).1 (may_time hm)
  have hv := (smallB_iff _).1 (may_value hm)
  have h2 := rdNum_put s (pre ++ (Wr.textB p.1).data.toList) (Wr.putL p.2.2 ++ post) p.2.1 (-2147483648) 2147483647 (by rw [hl]; unfold oneL; simp) (small_num (may_time hm)) ht.1 ht.2
  have h3 := rdNum_put s (pre ++ (Wr.textB p.1).data.toList ++ Wr.putL p.2.1) post p.2.2 (-2147483648) 2147483647 (by rw [hl]; unfold oneL; simp) (small_num (may_value hm)) hv.1 hv.2
  rw [List.length_append, Int.natCast_add] at h2
  rw [List.length_append, List.length_append, Int.natCast_add, Int.natCast_add] at h3
  rw [rdPt_of s _ h1 h2 h3]
  have hp : (p.1, p.2.1, p.2.2) = p := rfl
  rw [hp, hm]
  unfold oneL
  simp only [List.length_append, Int.natCast_add]
  refine Prod.ext rfl (Prod.ext ?_ rfl)
  simp only [Int.add_assoc]
theorem rdPts_put (s : ByteArray) (ps : List Point) (pre post : List UInt8) (hl : s.data.toList = pre ++ (ps.flatMap oneL ++ post)) (hm : ∀ p ∈ ps, mayB p = true) :
    rdPts s ps.length ((pre.length : Int), false) = (ps, ((pre.length : Int) + ((ps.flatMap oneL).length : Int), false)) := by
  induction ps generalizing pre with
  | nil => simp [rdPts]
  | cons p ps ih =>
    have h1 := rdPt_put s pre (ps.flatMap oneL ++ post) p (by rw [hl]; simp) (hm p (by simp))
    have h2 := ih (pre ++ oneL p) (by rw [hl]; simp) (fun q hq => hm q (by simp [hq]))
    rw [List.length_append, Int.natCast_add] at h2
    rw [List.length_cons, rdPts, h1, h2]
    simp only [List.flatMap_cons, List.length_append, Int.natCast_add]
    refine Prod.ext rfl (Prod.ext ?_ rfl)
    simp only [Int.add_assoc]
theorem batch_len {ps : List Point} (h : batchB ps = true) : ps.length ≤ 8 := by unfold batchB at h; simp at h; exact h.1
theorem batch_all {ps : List Point} (h : batchB ps = true) : ∀ p ∈ ps, mayB p = true := by unfold batchB at h; simp at h; intro p hp; obtain ⟨a, b, c⟩ := p; exact h.2 a b c hp
theorem readPts_put (s : ByteArray) (ps : List Point) (pre post : List UInt8) (hl : s.data.toList = pre ++ (ptsL ps ++ post)) (hb : batchB ps = true) :
    readPts s ((pre.length : Int), false) = (ps, ((pre.length : Int) + ((ptsL ps).length : Int), false)) := by
  have h8 := batch_len hb
  have h1 := rdNum_put s pre (ps.flatMap oneL ++ post) (ps.length : Int) 0 8 (by rw [hl]; unfold ptsL; simp) (Wr.isNum_len _ (by omega)) (by omega) (by omega)
  have h2 := rdPts_put s ps (pre ++ Wr.putL (ps.length : Int)) post (by rw [hl]; unfold ptsL; simp) (batch_all hb)
  rw [List.length_append, Int.natCast_add] at h2
  unfold readPts
  simp only [h1, Int.toNat_natCast, h2]
  unfold ptsL
  simp only [List.length_append, Int.natCast_add]
  refine Prod.ext rfl (Prod.ext ?_ rfl)
  simp only [Int.add_assoc]
theorem getPts_put (s : ByteArray) (ps : List Point) (pre post : List UInt8) (hl : s.data.toList = pre ++ (ptsL ps ++ post)) (hb : batchB ps = true) :
    getPts s (pre.length : Int) = (ps, (pre.length : Int) + ((ptsL ps).length : Int), 0) := by
  unfold getPts
  rw [readPts_put s ps pre post hl hb]; simp
/-! cut -/
theorem rdNum_cut (s : ByteArray) (pre : List UInt8) (x lo hi : Int) (k : Nat) (b : Bool) (hl : s.data.toList = pre ++ (Wr.putL x).take k) (hx : Wr.isNum x = true) (hk : k < (Wr.putL x).length) :
    rdNum s lo hi ((pre.length : Int), b) = (0, ((pre.length : Int), true)) := by
  refine rdNum_no s lo hi _ b ?_
  rw [hl, Wr.getN_at, Wr.gn_cut x hx k hk]
  exact (by decide : (200 : Int) ≠ 0)
theorem rdText_cut (s : ByteArray) (pre : List UInt8) (t : ByteArray) (k : Nat) (b : Bool) (hl : s.data.toList = pre ++ ((Wr.textB t).data.toList).take k) (ht : t.size ≤ 12) (hk : k < (Wr.textB t).data.toList.length) :
    rdText s 12 ((pre.length : Int), b) = (⟨#[]⟩, ((pre.length : Int), true)) := by
  refine rdText_no s 12 _ b ?_
  have hn := Wr.isNum_len t.size (by omega)
  have hlt : (Wr.textB t).data.toList = Wr.putL (t.size : Int) ++ t.data.toList := by unfold Wr.textB; rw [Wr.append_list, Wr.putB_list]
  rw [hlt] at hl hk
  by_cases h1 : k < (Wr.putL (t.size : Int)).length
  · have hg : Wr.getN s.data.toList (pre.length : Int) = (0, 0, 200) := by
      rw [hl, List.take_append_of_le_length (by omega), Wr.getN_at, Wr.gn_cut _ hn _ h1]
    unfold Wr.getT
    rw [hg]
    exact (by decide : (200 : Int) ≠ 0)
  · have hg : Wr.getN s.data.toList (pre.length : Int) = ((t.size : Int), (pre.length : Int) + ((Wr.putL (t.size : Int)).length : Int), 0) := by
      rw [hl, List.take_append, List.take_of_length_le (by omega)]; exact Wr.getN_put _ _ _ hn
    have hsz : s.size = pre.length + k := by rw [← Wr.len_list s, hl, List.length_append, List.length_take]; omega
    unfold Wr.getT
    rw [hg]
    simp only [ne_eq, not_true_eq_false, if_false]
    rw [List.length_append, Wr.len_list] at hk
    rw [if_neg (by omega), hsz, if_pos (by omega)]
    decide
theorem rdPt_bad1 (s : ByteArray) (r : St) (h : (rdText s 12 r).2.2 = true) : (rdPt s r).2.2 = true := by
  unfold rdPt
  obtain ⟨a, b⟩ : St := (rdText s 12 r).2
  generalize rdText s 12 r = X at *
  obtain ⟨nm, a1, b1⟩ := X
  obtain rfl : b1 = true := h
  simp [rdNum_bad]
theorem rdPt_bad2 (s : ByteArray) (r : St) (h : (rdNum s (-2147483648) 2147483647 (rdText s 12 r).2).2.2 = true) : (rdPt s r).2.2 = true := by
  unfold rdPt
  simp only
  generalize rdNum s (-2147483648) 2147483647 (rdText s 12 r).2 = X at *
  obtain ⟨t, a1, b1⟩ := X
  obtain rfl : b1 = true := h
  simp [rdNum_bad]
theorem rdPt_bad3 (s : ByteArray) (r : St) (h : (rdNum s (-2147483648) 2147483647 (rdNum s (-2147483648) 2147483647 (rdText s 12 r).2).2).2.2 = true) : (rdPt s r).2.2 = true := by
  unfold rdPt
  simp only
  rw [h]; rfl
theorem rdPt_cut (s : ByteArray) (pre : List UInt8) (p : Point) (k : Nat) (hl : s.data.toList = pre ++ (oneL p).take k) (hm : mayB p = true) (hk : k < (oneL p).length) : (rdPt s ((pre.length : Int), false)).2.2 = true := by
  have ht := (smallB_iff _).1 (may_time hm)
  have ho : oneL p = (Wr.textB p.1).data.toList ++ (Wr.putL p.2.1 ++ Wr.putL p.2.2) := by unfold oneL; simp
  rw [ho] at hl hk
  by_cases h1 : k < (Wr.textB p.1).data.toList.length
  · rw [List.take_append_of_le_length (by omega)] at hl
    refine rdPt_bad1 s _ ?_
    rw [rdText_cut s pre p.1 k false hl (may_name hm) h1]
  · rw [List.take_append, List.take_of_length_le (by omega)] at hl
    generalize hk2 : k - (Wr.textB p.1).data.toList.length = k2 at *
    have e1 := rdText_put s pre ((Wr.putL p.2.1 ++ Wr.putL p.2.2).take k2) p.1 hl (may_name hm)
    by_cases h2 : k2 < (Wr.putL p.2.1).length
    · rw [List.take_append_of_le_length (by omega), ← List.append_assoc] at hl
      refine rdPt_bad2 s _ ?_
      have := rdNum_cut s (pre ++ (Wr.textB p.1).data.toList) p.2.1 (-2147483648) 2147483647 k2 false hl (small_num (may_time hm)) h2
      rw [List.length_append, Int.natCast_add] at this
      rw [e1, this]
    · rw [List.take_append, List.take_of_length_le (by omega)] at hl
      generalize hk3 : k2 - (Wr.putL p.2.1).length = k3 at *
      have e2 := rdNum_put s (pre ++ (Wr.textB p.1).data.toList) ((Wr.putL p.2.2).take k3) p.2.1 (-2147483648) 2147483647 (by rw [hl]; simp) (small_num (may_time hm)) ht.1 ht.2
      have hk4 : k3 < (Wr.putL p.2.2).length := by rw [List.length_append, List.length_append] at hk; omega
      have e3 := rdNum_cut s (pre ++ (Wr.textB p.1).data.toList ++ Wr.putL p.2.1) p.2.2 (-2147483648) 2147483647 k3 false (by rw [hl]; simp) (small_num (may_value hm)) hk4
      rw [List.length_append, Int.natCast_add] at e2
      rw [List.length_append, List.length_append, Int.natCast_add, Int.natCast_add] at e3
      refine rdPt_bad3 s _ ?_
      rw [e1, e2, e3]
theorem rdPts_cut (s : ByteArray) (ps : List Point) (pre : List UInt8) (k : Nat) (hl : s.data.toList = pre ++ (ps.flatMap oneL).take k) (hm : ∀ p ∈ ps, mayB p = true) (hk : k < (ps.flatMap oneL).length) :
    (rdPts s ps.length ((pre.length : Int), false)).2.2 = true := by
  induction ps generalizing pre k with
  | nil => simp at hk
  | cons p ps ih =>
    rw [List.flatMap_cons] at hl hk
    rw [List.length_cons]
    simp only [rdPts]
    by_cases h1 : k < (oneL p).length
    · rw [List.take_append_of_le_length (by omega)] at hl
      exact rdPts_bad' s _ _ (rdPt_cut s pre p k hl (hm p (by simp)) h1)
    · rw [List.take_append, List.take_of_length_le (by omega)] at hl
      rw [List.length_append] at hk
      have e1 := rdPt_put s pre ((ps.flatMap oneL).take (k - (oneL p).length)) p hl (hm p (by simp))
      have e2 := ih (pre ++ oneL p) (k - (oneL p).length) (by rw [hl]; simp) (fun q hq => hm q (by simp [hq])) (by omega)
      rw [List.length_append, Int.natCast_add] at e2
      rw [e1]
      exact e2
theorem getPts_cut (s : ByteArray) (ps : List Point) (k : Nat) (hl : s.data.toList = (ptsL ps).take k) (hb : batchB ps = true) (hk : k < (ptsL ps).length) : getPts s 0 = ([], 0, 300) := by
  have h8 := batch_len hb
  have hbad : (readPts s (0, false)).2.2 = true := by
    unfold ptsL at hl hk
    unfold readPts
    by_cases h1 : k < (Wr.putL (ps.length : Int)).length
    · rw [List.take_append_of_le_length (by omega)] at hl
      have e := rdNum_cut s [] (ps.length : Int) 0 8 k false (by simpa using hl) (Wr.isNum_len _ (by omega)) h1
      simp only [List.length_nil, Int.natCast_zero] at e
      rw [e]
      rfl
    · rw [List.take_append, List.take_of_length_le (by omega)] at hl
      rw [List.length_append] at hk
      have e1 := rdNum_put s [] ((ps.flatMap oneL).take (k - (Wr.putL (ps.length : Int)).length)) (ps.length : Int) 0 8 (by simpa using hl) (Wr.isNum_len _ (by omega)) (by omega) (by omega)
      have e2 := rdPts_cut s ps (Wr.putL (ps.length : Int)) (k - (Wr.putL (ps.length : Int)).length) hl (batch_all hb) (by omega)
      simp only [List.length_nil, Int.natCast_zero, Int.zero_add] at e1
      simp only [e1, Int.toNat_natCast]
      exact e2
  unfold getPts
  rw [hbad]; rfl
theorem getPts_out (s : ByteArray) (a : Int) (h : a < 0 ∨ (s.size : Int) < a) : getPts s a = ([], 0, 300) := by
  have e : rdNum s 0 8 (a, false) = (0, (a, true)) := rdNum_no s 0 8 a false (by unfold Wr.getN; rw [Wr.len_list, if_pos h]; decide)
  unfold getPts readPts
  simp only [e]
  rfl
theorem ptsB_list (ps : List Point) : (ptsB ps).data.toList = ptsL ps := by unfold ptsB; simp
theorem ptsL_pos (ps : List Point) : 0 < (ptsL ps).length ∨ ¬ ps.length ≤ 8 := by
  by_cases h : ps.length ≤ 8
  · left
    obtain ⟨l, c, hv, _⟩ := Wr.put_init (ps.length : Int) (Wr.isNum_len _ (by omega))
    unfold ptsL
    rw [List.length_append, hv]; simp; omega
  · exact .inr h
theorem ptsL_le {ps : List Point} (h : batchB ps = true) : (ptsL ps).length ≤ 300 := by
  have h8 := batch_len h
  have hm := batch_all h
  have hone : ∀ p ∈ ps, (oneL p).length ≤ 36 := fun p hp => by
    have := may_name (hm p hp)
    unfold oneL
    rw [List.length_append, List.length_append, Wr.len_list]
    have h1 := Wr.putL_len p.2.1
    have h2 := Wr.putL_len p.2.2
    have h3 : (Wr.textB p.1).size ≤ 8 + p.1.size := by unfold Wr.textB; rw [ByteArray.size_append, Wr.putB_size]; have := Wr.putL_len (p.1.size : Int); omega
    omega
  have hsum : ∀ qs : List Point, (∀ p ∈ qs, (oneL p).length ≤ 36) → (qs.flatMap oneL).length ≤ qs.length * 36 := by
    intro qs
    induction qs with
    | nil => simp
    | cons p qs ih => intro h; rw [List.flatMap_cons, List.length_append, List.length_cons]; have := ih (fun q hq => h q (by simp [hq])); have := h p (by simp); omega
  have h1 := hsum ps hone
  have h2 := Wr.putL_len (ps.length : Int)
  unfold ptsL
  rw [List.length_append]; omega
end Go.Proofs.YtmnigoibbcigdaaGreat.Pt
/- Sessions in plain words (chapter 10). No program in sight. -/
namespace Go.Proofs.YtmnigoibbcigdaaGreat.Se
open Go.Proofs.YtmnigoibbcigdaaGreat
set_option linter.unusedVariables false

abbrev Row := Int × Int × Int × Int
def z0 : Row := (0, 0, 0, 0)
def upB (rows : List Row) (i : Nat) : Bool := decide (i = 0) || decide ((rows.getD (i - 1) z0).1 < (rows.getD i z0).1)
def mayB (rows : List Row) : Bool := decide (rows.length ≤ 4) && (List.range rows.length).all (upB rows)
def idx (rows : List Row) (s : Int) : Nat := rows.findIdx fun r => decide (r.1 = s)
def findV (rows : List Row) (s : Int) : Int := if idx rows s < rows.length then (idx rows s : Int) else -1
def lo (rows : List Row) (t : Int) : Nat := rows.findIdx fun r => decide (t ≤ r.1)
def new (t : Int) : Row := (t, 0, t, t)
def ins (rows : List Row) (t : Int) : List Row := rows.take (lo rows t) ++ new t :: rows.drop (lo rows t)
def leastK (rows : List Row) : Nat → Nat
  | 0 => 0
  | k + 1 => if (rows.getD k z0).2.2.2 < (rows.getD (leastK rows k) z0).2.2.2 then k else leastK rows k
def openR (rows : List Row) (t : Int) : List Row := if (ins rows t).length ≤ 4 then ins rows t else (ins rows t).eraseIdx (leastK (ins rows t) (ins rows t).length)
def at_ (rows : List Row) (s : Int) : Row := rows.getD (idx rows s) z0
def applyR (rows : List Row) (es en t : Int) : List Row × Int × Bool :=
  if mayB rows = false ∨ t < 1 ∨ (es = 0 ∧ idx rows t < rows.length) then (rows, -1, false)
  else if es = 0 then (openR rows t, t, true)
  else if ¬ idx rows es < rows.length ∨ en < (at_ rows es).2.1 then (rows, -1, false)
  else if en = (at_ rows es).2.1 then (rows, (at_ rows es).2.2.1, false)
  else (rows.set (idx rows es) (es, en, t, t), t, true)
def askR (rows : List Row) (s num last : Int) : Int × Int :=
  if s = 0 then (0, -1)
  else if ¬ idx rows s < rows.length then (if 1 ≤ s ∧ s ≤ last then (4, -1) else (5, -1))
  else if num < (at_ rows s).2.1 then (3, -1)
  else if num = (at_ rows s).2.1 then (0, (at_ rows s).2.2.1)
  else (0, -1)
def fitsB (r : Row) : Bool := Wr.isNum r.1 && Wr.isNum r.2.1 && Wr.isNum r.2.2.1 && Wr.isNum r.2.2.2
def rowL (r : Row) : List UInt8 := Wr.putL r.1 ++ Wr.putL r.2.1 ++ Wr.putL r.2.2.1 ++ Wr.putL r.2.2.2
def rowsL (rows : List Row) : List UInt8 := Wr.putL (rows.length : Int) ++ rows.flatMap rowL
def putR (rows : List Row) : ByteArray × Int := if mayB rows = true ∧ rows.all fitsB = true then (⟨(rowsL rows).toArray⟩, 0) else (⟨#[]⟩, 1000)
abbrev rdN (s : ByteArray) (st : Pt.St) : Int × Pt.St := Pt.rdNum s (-9007199254740992) 9007199254740992 st
def rd1 (s : ByteArray) (st : Pt.St) : Pt.St := (rdN s st).2
def rdRow (s : ByteArray) (st : Pt.St) : Row × Pt.St := (((rdN s st).1, (rdN s (rd1 s st)).1, (rdN s (rd1 s (rd1 s st))).1, (rdN s (rd1 s (rd1 s (rd1 s st)))).1), rd1 s (rd1 s (rd1 s (rd1 s st))))
def rdK (s : ByteArray) (st : Pt.St) : Nat → List Row × Pt.St
  | 0 => ([], st)
  | k + 1 => ((rdK s st k).1 ++ [(rdRow s (rdK s st k).2).1], (rdRow s (rdK s st k).2).2)
def getR (s : ByteArray) : List Row × Int :=
  if (rdK s (Pt.rdNum s 0 4 (0, false)).2 (Pt.rdNum s 0 4 (0, false)).1.toNat).2.2 = false ∧ (rdK s (Pt.rdNum s 0 4 (0, false)).2 (Pt.rdNum s 0 4 (0, false)).1.toNat).2.1 = (s.size : Int) ∧ mayB (rdK s (Pt.rdNum s 0 4 (0, false)).2 (Pt.rdNum s 0 4 (0, false)).1.toNat).1 = true
  then ((rdK s (Pt.rdNum s 0 4 (0, false)).2 (Pt.rdNum s 0 4 (0, false)).1.toNat).1, 0) else ([], 1001)

/-! tables -/
theorem getD_lt {rows : List Row} {k : Nat} (hk : k < rows.length) : rows.getD k z0 = rows[k] := by
  rw [List.getD_eq_getElem?_getD, List.getElem?_eq_getElem hk]; rfl
theorem range_step {rows : List Row} {k : Nat} (ha : (List.range k).all (upB rows) = true) (h : upB rows k = true) : (List.range (k + 1)).all (upB rows) = true := by
  rw [List.range_succ, List.all_append, ha]; simp [h]
theorem range_stop {rows : List Row} {k : Nat} (hk : k < rows.length) (h : upB rows k = false) : mayB rows = false := by
  unfold mayB
  have : (List.range rows.length).all (upB rows) = false := by
    rw [List.all_eq_false]; exact ⟨k, List.mem_range.2 hk, by rw [h]; simp⟩
  rw [this, Bool.and_false]
theorem may_len {rows : List Row} (h : mayB rows = true) : rows.length ≤ 4 := by
  unfold mayB at h; simp at h; exact h.1
theorem may_up {rows : List Row} (h : mayB rows = true) (i : Nat) (hi : i + 1 < rows.length) : (rows[i]'(by omega)).1 < rows[i + 1].1 := by
  unfold mayB at h
  rw [Bool.and_eq_true, List.all_eq_true] at h
  have := h.2 (i + 1) (List.mem_range.2 hi)
  unfold upB at this
  rw [Nat.add_sub_cancel, getD_lt (by omega), getD_lt hi] at this
  simpa using this
theorem may_lt {rows : List Row} (h : mayB rows = true) (i j : Nat) (hij : i < j) (hj : j < rows.length) : (rows[i]'(by omega)).1 < rows[j].1 := by
  induction j with
  | zero => omega
  | succ j ih =>
    have hs := may_up h j hj
    by_cases e : i = j
    · subst e; exact hs
    · exact Int.lt_trans (ih (by omega) (by omega)) hs
theorem may_of {rows : List Row} (hl : rows.length ≤ 4) (h : ∀ i (hi : i + 1 < rows.length), (rows[i]'(by omega)).1 < rows[i + 1].1) : mayB rows = true := by
  unfold mayB
  rw [Bool.and_eq_true, List.all_eq_true]
  refine ⟨decide_eq_true hl, fun i hi => ?_⟩
  rw [List.mem_range] at hi
  unfold upB
  cases i with
  | zero => rfl
  | succ i => rw [Nat.add_sub_cancel, getD_lt (by omega), getD_lt hi]; simpa using h i hi

/-! places -/
theorem idx_le (rows : List Row) (s : Int) : idx rows s ≤ rows.length := List.findIdx_le_length
theorem idx_lt {rows : List Row} {s : Int} (h : idx rows s < rows.length) : rows[idx rows s].1 = s := by
  have := List.findIdx_getElem (w := h)
  exact of_decide_eq_true this
theorem idx_first {rows : List Row} {s : Int} {k : Nat} (hk : k < rows.length) (h : rows[k].1 = s) (hb : ∀ j (hj : j < k), (rows[j]'(by omega)).1 ≠ s) : idx rows s = k := by
  unfold idx
  rw [List.findIdx_eq hk]
  exact ⟨by simpa using h, fun j hj => by simpa using hb j hj⟩
theorem idx_none {rows : List Row} {s : Int} (h : ∀ j (hj : j < rows.length), rows[j].1 ≠ s) : idx rows s = rows.length := by
  unfold idx
  rw [List.findIdx_eq_length]
  intro w hw
  obtain ⟨j, hj, rfl⟩ := List.getElem_of_mem hw
  simpa using h j hj
theorem lo_le (rows : List Row) (t : Int) : lo rows t ≤ rows.length := List.findIdx_le_length
/-- the place is where all ahead are less and the rest is not -/
theorem lo_of {rows : List Row} {t : Int} {k : Nat} (hk : k ≤ rows.length) (ha : ∀ j (hj : j < k), (rows[j]'(by omega)).1 < t) (hb : ∀ h : k < rows.length, t ≤ rows[k].1) : lo rows t = k := by
  unfold lo
  by_cases h : k < rows.length
  · rw [List.findIdx_eq h]
    exact ⟨by simpa using hb h, fun j hj => by simpa using ha j hj⟩
  · obtain rfl : k = rows.length := by omega
    rw [List.findIdx_eq_length]
    intro w hw
    obtain ⟨j, hj, rfl⟩ := List.getElem_of_mem hw
    simpa using ha j hj
theorem lo_ahead {rows : List Row} {t : Int} (j : Nat) (hj : j < lo rows t) : (rows[j]'(by have := lo_le rows t; omega)).1 < t := by
  have := List.not_of_lt_findIdx hj
  simpa using this
theorem lo_behind {rows : List Row} {t : Int} (h : lo rows t < rows.length) : t ≤ rows[lo rows t].1 := by
  have := List.findIdx_getElem (w := h)
  exact of_decide_eq_true this
theorem ins_len (rows : List Row) (t : Int) : (ins rows t).length = rows.length + 1 := by
  unfold ins
  have := lo_le rows t
  simp; omega
end Go.Proofs.YtmnigoibbcigdaaGreat.Se
/- Sessions in plain words, more: what an entry leaves of a table; a table there and back (chapter 10). No program in sight. -/
namespace Go.Proofs.YtmnigoibbcigdaaGreat.Se
open Go.Proofs.YtmnigoibbcigdaaGreat
set_option linter.unusedVariables false

theorem pair_of {rows : List Row} (h : mayB rows = true) : rows.Pairwise fun a b => a.1 < b.1 := by
  rw [List.pairwise_iff_getElem]
  exact fun i j hi hj hij => may_lt h i j hij hj
theorem may_of_pair {rows : List Row} (hl : rows.length ≤ 4) (h : rows.Pairwise fun a b => a.1 < b.1) : mayB rows = true := by
  rw [List.pairwise_iff_getElem] at h
  exact may_of hl fun i hi => h i (i + 1) (by omega) hi (by omega)
theorem mem_ins {rows : List Row} {t : Int} {r : Row} (h : r ∈ ins rows t) : r ∈ rows ∨ r = new t := by
  unfold ins at h
  rcases List.mem_append.1 h with h | h
  · exact .inl (List.mem_of_mem_take h)
  · rcases List.mem_cons.1 h with h | h
    · exact .inr h
    · exact .inl (List.mem_of_mem_drop h)
theorem ins_pair {rows : List Row} {t : Int} (h : mayB rows = true) (hn : ¬ idx rows t < rows.length) : (ins rows t).Pairwise fun a b => a.1 < b.1 := by
  have hp := pair_of h
  have hne : ∀ r ∈ rows, r.1 ≠ t := by
    intro r hr e
    apply hn
    unfold idx
    rw [List.findIdx_lt_length]
    exact ⟨r, hr, by simpa using e⟩
  unfold ins
  rw [List.pairwise_append, List.pairwise_cons]
  refine ⟨hp.sublist (List.take_sublist _ _), ⟨?_, hp.sublist (List.drop_sublist _ _)⟩, ?_⟩
  · intro r hr
    show t < r.1
    obtain ⟨j, hj, rfl⟩ := List.getElem_of_mem hr
    rw [List.length_drop] at hj
    rw [List.getElem_drop]
    have hb := lo_behind (rows := rows) (t := t) (by omega)
    have hn1 := hne (rows[lo rows t + j]) (List.getElem_mem _)
    by_cases e : j = 0
    · subst e
      have hn0 := hne (rows[lo rows t]) (List.getElem_mem _)
      simp only [Nat.add_zero]
      omega
    · have := may_lt h (lo rows t) (lo rows t + j) (by omega) (by omega)
      omega
  · intro a ha b hb
    obtain ⟨i, hi, rfl⟩ := List.getElem_of_mem ha
    rw [List.length_take] at hi
    rw [List.getElem_take]
    have h1 := lo_ahead (rows := rows) (t := t) i (by omega)
    rcases List.mem_cons.1 hb with rfl | hb
    · exact h1
    · obtain ⟨j, hj, rfl⟩ := List.getElem_of_mem hb
      rw [List.length_drop] at hj
      rw [List.getElem_drop]
      exact may_lt h i (lo rows t + j) (by omega) (by omega)
theorem leastK_le (rows : List Row) (k : Nat) : leastK rows k ≤ k - 1 := by
  induction k with
  | zero => simp [leastK]
  | succ k ih => rw [leastK]; split <;> omega
theorem least_lt {rows : List Row} (h : 0 < rows.length) : leastK rows rows.length < rows.length := by
  have := leastK_le rows rows.length; omega
theorem open_may {rows : List Row} {t : Int} (h : mayB rows = true) (hn : ¬ idx rows t < rows.length) : mayB (openR rows t) = true := by
  have hp := ins_pair h hn
  have hl := ins_len rows t
  have hr := may_len h
  unfold openR
  split
  · rename_i h4
    exact may_of_pair h4 hp
  · have hlt := least_lt (rows := ins rows t) (by omega)
    refine may_of_pair ?_ (hp.sublist (List.eraseIdx_sublist _ _))
    rw [List.length_eraseIdx_of_lt hlt]; omega
theorem open_mem {rows : List Row} {t : Int} {r : Row} (h : r ∈ openR rows t) : r ∈ rows ∨ r = new t := by
  unfold openR at h
  split at h
  · exact mem_ins h
  · exact mem_ins (List.mem_of_mem_eraseIdx h)
theorem at_lt {rows : List Row} {s : Int} (h : idx rows s < rows.length) : at_ rows s = rows[idx rows s] := by unfold at_; exact getD_lt h
theorem set_may {rows : List Row} {s n t : Int} (h : mayB rows = true) (hi : idx rows s < rows.length) : mayB (rows.set (idx rows s) (s, n, t, t)) = true := by
  have he := idx_lt hi
  refine may_of (by rw [List.length_set]; exact may_len h) fun i hi2 => ?_
  rw [List.length_set] at hi2
  have hu := may_up h i hi2
  rw [List.getElem_set, List.getElem_set]
  by_cases e1 : idx rows s = i
  · subst e1
    rw [if_pos rfl, if_neg (by omega)]
    show s < _
    omega
  · rw [if_neg e1]
    by_cases e2 : idx rows s = i + 1
    · rw [if_pos e2]
      have hx : (rows[i + 1]'hi2).1 = s := by
        have : ∀ j (hj : j < rows.length), j = idx rows s → rows[j].1 = s := fun j hj e => by subst e; exact he
        exact this _ hi2 e2.symm
      show _ < s
      rw [hx] at hu
      exact hu
    · rw [if_neg e2]; exact hu
theorem apply_may {rows : List Row} {es en t : Int} (h : mayB rows = true) : mayB (applyR rows es en t).1 = true := by
  unfold applyR
  split
  · exact h
  · rename_i h1
    split
    · rename_i h2
      exact open_may h fun h3 => h1 (.inr (.inr ⟨h2, h3⟩))
    · split
      · exact h
      · rename_i h3
        split
        · exact h
        · exact set_may h (by
            by_cases h4 : idx rows es < rows.length
            · exact h4
            · exact absurd (.inl h4) h3)
theorem apply_effect {rows : List Row} {es en t : Int} (h : (applyR rows es en t).2.2 = true) : (applyR rows es en t).2.1 = t ∧ 1 ≤ t ∧ (applyR rows es en t).1.length ≤ 4 := by
  by_cases h1 : mayB rows = false ∨ t < 1 ∨ (es = 0 ∧ idx rows t < rows.length)
  · unfold applyR at h; rw [if_pos h1] at h; cases h
  · have hm : mayB rows = true := by
      cases hm : mayB rows with
      | true => rfl
      | false => exact absurd (.inl hm) h1
    have h4 := may_len (apply_may (es := es) (en := en) (t := t) hm)
    refine ⟨?_, by omega, h4⟩
    unfold applyR at h ⊢
    rw [if_neg h1] at h ⊢
    split
    · rfl
    · rename_i h2
      rw [if_neg h2] at h
      split
      · rename_i h3; rw [if_pos h3] at h; cases h
      · rename_i h3
        rw [if_neg h3] at h
        split
        · rename_i h5; rw [if_pos h5] at h; cases h
        · rfl
theorem apply_still {rows : List Row} {es en t : Int} (h : (applyR rows es en t).2.2 = false) : (applyR rows es en t).1 = rows := by
  unfold applyR at h ⊢
  split
  · rfl
  · rename_i h1
    rw [if_neg h1] at h
    split
    · rename_i h2; rw [if_pos h2] at h; cases h
    · rename_i h2
      rw [if_neg h2] at h
      split
      · rfl
      · rename_i h3
        rw [if_neg h3] at h
        split
        · rfl
        · rename_i h5; rw [if_neg h5] at h; cases h

/-! there and back -/
theorem rdN_at (s : ByteArray) (pre post : List UInt8) (x : Int) (hl : s.data.toList = pre ++ (Wr.putL x ++ post)) (hx : Wr.isNum x = true) : rdN s ((pre.length : Int), false) = (x, (((pre ++ Wr.putL x).length : Int), false)) := by
  have hg := Wr.getN_put pre post x hx
  rw [← hl] at hg
  have hb := (Wr.isNum_iff x).1 hx
  unfold rdN Pt.rdNum
  simp only
  rw [hg]
  simp only
  rw [if_neg (by rintro (k | k | k | k); exact k rfl; omega; omega; cases k), List.length_append, Int.natCast_add]
theorem rdRow_at (s : ByteArray) (pre post : List UInt8) (r : Row) (hl : s.data.toList = pre ++ (rowL r ++ post)) (hr : fitsB r = true) : rdRow s ((pre.length : Int), false) = (r, (((pre ++ rowL r).length : Int), false)) := by
  unfold fitsB at hr
  simp only [Bool.and_eq_true] at hr
  obtain ⟨⟨⟨h0, h1⟩, h2⟩, h3⟩ := hr
  unfold rowL at hl
  have g0 := rdN_at s pre (Wr.putL r.2.1 ++ (Wr.putL r.2.2.1 ++ (Wr.putL r.2.2.2 ++ post))) r.1 (by rw [hl]; simp) h0
  have g1 := rdN_at s (pre ++ Wr.putL r.1) (Wr.putL r.2.2.1 ++ (Wr.putL r.2.2.2 ++ post)) r.2.1 (by rw [hl]; simp) h1
  have g2 := rdN_at s (pre ++ Wr.putL r.1 ++ Wr.putL r.2.1) (Wr.putL r.2.2.2 ++ post) r.2.2.1 (by rw [hl]; simp) h2
  have g3 := rdN_at s (pre ++ Wr.putL r.1 ++ Wr.putL r.2.1 ++ Wr.putL r.2.2.1) post r.2.2.2 (by rw [hl]; simp) h3
  unfold rdRow rd1
  rw [g0]
  simp only
  rw [g1]
  simp only
  rw [g2]
  simp only
  rw [g3]
  unfold rowL
  simp only [List.append_assoc]
theorem rdK_put (s : ByteArray) (rows : List Row) (pre post : List UInt8) (hl : s.data.toList = pre ++ (rows.flatMap rowL ++ post)) (hr : rows.all fitsB = true) (k : Nat) (hk : k ≤ rows.length) :
    rdK s ((pre.length : Int), false) k = (rows.take k, (((pre ++ (rows.take k).flatMap rowL).length : Int), false)) := by
  induction k with
  | zero => simp [rdK]
  | succ k ih =>
    have hlt : k < rows.length := by omega
    have hfit : fitsB rows[k] = true := List.all_eq_true.1 hr _ (List.getElem_mem _)
    have hsp : rows.flatMap rowL = (rows.take k).flatMap rowL ++ (rowL rows[k] ++ (rows.drop (k + 1)).flatMap rowL) := by
      conv => lhs; rw [← List.take_append_drop k rows, List.drop_eq_getElem_cons hlt]
      rw [List.flatMap_append, List.flatMap_cons]
    have h1 := rdRow_at s (pre ++ (rows.take k).flatMap rowL) ((rows.drop (k + 1)).flatMap rowL ++ post) rows[k] (by rw [hl, hsp]; simp) hfit
    have hsn : (rows.take (k + 1)).flatMap rowL = (rows.take k).flatMap rowL ++ rowL rows[k] := by rw [List.take_succ_eq_append_getElem hlt, List.flatMap_append]; simp
    rw [rdK, ih (by omega)]
    simp only
    rw [h1, hsn, List.take_succ_eq_append_getElem hlt]
    simp only [List.append_assoc]
theorem get_put {rows : List Row} (hm : mayB rows = true) (hf : rows.all fitsB = true) : getR ⟨(rowsL rows).toArray⟩ = (rows, 0) := by
  have h4 := may_len hm
  have hl : (⟨(rowsL rows).toArray⟩ : ByteArray).data.toList = Wr.putL (rows.length : Int) ++ (rows.flatMap rowL ++ []) := by simp [rowsL]
  have hsz : ((⟨(rowsL rows).toArray⟩ : ByteArray).size : Int) = ((Wr.putL (rows.length : Int) ++ rows.flatMap rowL).length : Int) := by
    rw [← Wr.len_list, hl]; simp
  generalize (⟨(rowsL rows).toArray⟩ : ByteArray) = s at *
  have hg := Wr.getN_put [] (rows.flatMap rowL ++ []) (rows.length : Int) ((Wr.isNum_iff _).2 (by omega))
  rw [List.nil_append, ← hl] at hg
  have h0 : Pt.rdNum s 0 4 (0, false) = ((rows.length : Int), (((Wr.putL (rows.length : Int)).length : Int), false)) := by
    unfold Pt.rdNum
    simp only [List.length_nil, Int.natCast_zero, Int.zero_add] at hg ⊢
    rw [hg]
    simp only
    rw [if_neg (by rintro (k | k | k | k); exact k rfl; omega; omega; cases k)]
  have hk := rdK_put s rows (Wr.putL (rows.length : Int)) [] hl hf rows.length (Nat.le_refl _)
  rw [List.take_length] at hk
  unfold getR
  rw [h0]
  simp only [Int.toNat_natCast]
  rw [hk, if_pos ⟨rfl, hsz.symm, hm⟩]
theorem put_ok {rows : List Row} (hm : mayB rows = true) (hf : rows.all fitsB = true) : putR rows = (⟨(rowsL rows).toArray⟩, 0) := by unfold putR; rw [if_pos ⟨hm, hf⟩]
theorem put_no {rows : List Row} (h : mayB rows = false ∨ rows.all fitsB = false) : putR rows = (⟨#[]⟩, 1000) := by
  unfold putR; rw [if_neg]
  rintro ⟨h1, h2⟩
  rcases h with h | h
  · rw [h] at h1; cases h1
  · rw [h] at h2; cases h2
theorem rowL_len (r : Row) : (rowL r).length ≤ 32 := by
  have h1 := Wr.putL_len r.1
  have h2 := Wr.putL_len r.2.1
  have h3 := Wr.putL_len r.2.2.1
  have h4 := Wr.putL_len r.2.2.2
  unfold rowL; simp only [List.length_append]; omega
theorem rows_le (rows : List Row) : (rows.flatMap rowL).length ≤ 32 * rows.length := by
  induction rows with
  | nil => simp
  | cons r rows ih => rw [List.flatMap_cons, List.length_append, List.length_cons]; have := rowL_len r; omega
/-- a reader that is bad stays bad -/
theorem rdN_bad (s : ByteArray) (a : Int) : rdN s (a, true) = (0, (a, true)) := by
  unfold rdN Pt.rdNum; rw [if_pos (.inr (.inr (.inr rfl)))]
theorem rdRow_bad (s : ByteArray) (a : Int) : rdRow s (a, true) = ((0, 0, 0, 0), (a, true)) := by
  unfold rdRow rd1; simp only [rdN_bad]
theorem rdK_bad (s : ByteArray) (st : Pt.St) (k m : Nat) (h : (rdK s st k).2.2 = true) (hm : k ≤ m) : (rdK s st m).2.2 = true := by
  induction m with
  | zero => obtain rfl : k = 0 := by omega
            exact h
  | succ m ih =>
    by_cases e : k = m + 1
    · subst e; exact h
    · have := ih (by omega)
      generalize hq : rdK s st m = q at *
      obtain ⟨l, a, b⟩ := q
      simp only at this
      subst this
      rw [rdK, hq]; simp only; rw [rdRow_bad]
end Go.Proofs.YtmnigoibbcigdaaGreat.Se
/- The helpers of cachetlaw0 on slices (Same, Copy, Lend, Kept): what they answer where the lists are one. Printed by gen_same.py. -/
namespace Go.Proofs.YtmnigoibbcigdaaGreat
open Go.RowKit
set_option linter.unusedVariables false

def rowCells (f : Int × Int × Int × Int) : List Value := [.int .i64 f.1, .int .i64 f.2.1, .int .i64 f.2.2.1, .int .i64 f.2.2.2]
set_option maxRecDepth 100000 in
set_option maxHeartbeats 400000 in
theorem sameRows_true (A B : Option Addr) (c d : Nat) (xs : List (Int × Int × Int × Int)) (w : World) (b1 b2 : Nat) (hr : Reads w b1 4 A xs.length (xs.flatMap rowCells)) (hq : Reads w b2 4 B xs.length (xs.flatMap rowCells)) (hn : xs.length ≤ 140737488355328) :
    Calls Tryz.prog 34 #[.slice A xs.length c, .slice B xs.length d] w fun e w' => e = .returned (.bool true) ∧ ∃ n, w' = w.drewN n := by
  have hl : ((xs.length : Int) != (xs.length : Int)) = false := by simp
  go_enter Tryz.func34, Tryz.ntmps34
  go_wp2
  go_loopw [5] (fun i wr => ∃ k n : Nat, k ≤ xs.length ∧ i = .int .i64 (k : Int) ∧ wr = w.drewN n) (fun i _ => xs.length - (intOf i).toNat)
  case atStart => exact ⟨0, 0, Nat.zero_le _, rfl, rfl⟩
  case round =>
    obtain ⟨k, n, hk, rfl, rfl⟩ := hrel
    by_cases hlt : k < xs.length
    · obtain ⟨b, off, rfl, hbl, hc⟩ := hr.2 (by omega)
      obtain ⟨b', off', rfl, hbl', hc'⟩ := hq.2 (by omega)
      have hcell0 : w.cell? ⟨b, off + k * 4, none⟩ = some (.int .i64 xs[k].1) := by have := hc (k * 4 + 0) (.int .i64 xs[k].1) (by rw [flat_at rowCells 4 (fun _ => rfl) xs k 0 hlt (by omega)]; rfl); rwa [← Nat.add_assoc] at this
      have hcell1 : w.cell? ⟨b, off + k * 4 + 1, none⟩ = some (.int .i64 xs[k].2.1) := by have := hc (k * 4 + 1) (.int .i64 xs[k].2.1) (by rw [flat_at rowCells 4 (fun _ => rfl) xs k 1 hlt (by omega)]; rfl); rwa [← Nat.add_assoc] at this
      have hcell2 : w.cell? ⟨b, off + k * 4 + 2, none⟩ = some (.int .i64 xs[k].2.2.1) := by have := hc (k * 4 + 2) (.int .i64 xs[k].2.2.1) (by rw [flat_at rowCells 4 (fun _ => rfl) xs k 2 hlt (by omega)]; rfl); rwa [← Nat.add_assoc] at this
      have hcell3 : w.cell? ⟨b, off + k * 4 + 3, none⟩ = some (.int .i64 xs[k].2.2.2) := by have := hc (k * 4 + 3) (.int .i64 xs[k].2.2.2) (by rw [flat_at rowCells 4 (fun _ => rfl) xs k 3 hlt (by omega)]; rfl); rwa [← Nat.add_assoc] at this
      have hcelq0 : w.cell? ⟨b', off' + k * 4, none⟩ = some (.int .i64 xs[k].1) := by have := hc' (k * 4 + 0) (.int .i64 xs[k].1) (by rw [flat_at rowCells 4 (fun _ => rfl) xs k 0 hlt (by omega)]; rfl); rwa [← Nat.add_assoc] at this
      have hcelq1 : w.cell? ⟨b', off' + k * 4 + 1, none⟩ = some (.int .i64 xs[k].2.1) := by have := hc' (k * 4 + 1) (.int .i64 xs[k].2.1) (by rw [flat_at rowCells 4 (fun _ => rfl) xs k 1 hlt (by omega)]; rfl); rwa [← Nat.add_assoc] at this
      have hcelq2 : w.cell? ⟨b', off' + k * 4 + 2, none⟩ = some (.int .i64 xs[k].2.2.1) := by have := hc' (k * 4 + 2) (.int .i64 xs[k].2.2.1) (by rw [flat_at rowCells 4 (fun _ => rfl) xs k 2 hlt (by omega)]; rfl); rwa [← Nat.add_assoc] at this
      have hcelq3 : w.cell? ⟨b', off' + k * 4 + 3, none⟩ = some (.int .i64 xs[k].2.2.2) := by have := hc' (k * 4 + 3) (.int .i64 xs[k].2.2.2) (by rw [flat_at rowCells 4 (fun _ => rfl) xs k 3 hlt (by omega)]; rfl); rwa [← Nat.add_assoc] at this
      have tt := trivial
      clear hc hc' hr hq
      go_wp2
      go_quiet (fail)
      go_wp2
      go_roundw
      case rel => exact ⟨k + 1, n + nq, by omega, by go_num, rfl⟩
      case measure => simp [intOf]; omega
    · clear hr hq
      go_wp2
      go_ret
      exact ⟨rfl, _, rfl⟩

theorem info_copyRows : (Tryz.prog.info? 96).map (fun i => (i.zero, i.size, i.bytes)) = some (some (.agg #[.int .i64 0, .int .i64 0, .int .i64 0, .int .i64 0]), 4, 32) := by kernel_rfl
def roomRows : List Value := [.int .i64 77777, .int .i64 0, .int .i64 0, .int .i64 0, .int .i64 77777, .int .i64 0, .int .i64 0, .int .i64 0]
end Go.Proofs.YtmnigoibbcigdaaGreat
/- A cell of a row of the call's own, written. -/
namespace Go.Proofs.YtmnigoibbcigdaaGreat
open Go.RowKit
set_option linter.unusedVariables false

theorem own_set {w : World} {base g : Nat} {e : TypeId} {size n cap : Nat} {xs : List Value} (h : w.ownsRow base e size (.slice (some ⟨g, 0, none⟩) n cap) n xs) (j : Nat) (u : Value) :
    (w.setCell ⟨g, j, none⟩ u).ownsRow base e size (.slice (some ⟨g, 0, none⟩) n cap) n (xs.set j u) := by
  refine ⟨by rw [List.length_set]; exact h.1, ?_⟩
  rcases h.2 with ⟨hv, _⟩ | ⟨g', cap', cur, hv, hg, hh, hnc, hcm, hcs, hx⟩
  · cases hv
  · injection hv with e1 e2 e3
    injection e1 with e1
    injection e1 with e1
    subst e1; subst e3
    have hB : Blk w g e cur := hh
    exact .inr ⟨g, cap, cur.setIfInBounds j u, rfl, hg, hB.set_ j u, hnc, hcm, by rw [Array.size_setIfInBounds]; exact hcs, by rw [Array.toList_setIfInBounds, List.take_set, hx]⟩
theorem own_frozen {w : World} {base g : Nat} {e : TypeId} {size n cap : Nat} {xs : List Value} (h : w.ownsRow base e size (.slice (some ⟨g, 0, none⟩) n cap) n xs) (j : Nat) : w.frozen? ⟨g, j, none⟩ = false := by
  rcases h.2 with ⟨hv, _⟩ | ⟨g', cap', cur, hv, hg, hh, hnc, hcm, hcs, hx⟩
  · cases hv
  · injection hv with e1 e2 e3
    injection e1 with e1
    injection e1 with e1
    subst e1
    have hB : Blk w g e cur := hh
    exact hB.frozen j
/-- the row's form where it is not empty -/
theorem own_some {w : World} {base : Nat} {e : TypeId} {size n cap : Nat} {A : Option Addr} {xs : List Value} (h : w.ownsRow base e size (.slice A n cap) n xs) (hn : 0 < n) : ∃ g, A = some ⟨g, 0, none⟩ ∧ base ≤ g ∧ g < w.heap.size := by
  obtain ⟨g, c, hv, hg, hlt⟩ := h.form hn
  injection hv with e1 e2 e3
  exact ⟨g, e1, hg, hlt⟩
theorem own_cell {w : World} {base g : Nat} {e : TypeId} {size n cap : Nat} {xs : List Value} (h : w.ownsRow base e size (.slice (some ⟨g, 0, none⟩) n cap) n xs) {j : Nat} {u : Value} (hu : xs[j]? = some u) : w.cell? ⟨g, j, none⟩ = some u := by
  have := h.cells (g := g) rfl j u hu
  rwa [add_mk, Nat.zero_add] at this
theorem flat_set {α : Type} (f : α → List Value) (size : Nat) (hf : ∀ x, (f x).length = size) (xs : List α) (k j : Nat) (y : α) (u : Value) (hk : k < xs.length) (hj : j < size) (hy : f y = (f xs[k]).set j u) : (xs.flatMap f).set (k * size + j) u = (xs.set k y).flatMap f := by
  induction xs generalizing k with
  | nil => simp at hk
  | cons x xs ih =>
    cases k with
    | zero =>
      rw [List.flatMap_cons, Nat.zero_mul, Nat.zero_add, List.set_append, if_pos (by rw [hf]; exact hj), List.set_cons_zero, List.flatMap_cons, hy]; rfl
    | succ k =>
      rw [List.flatMap_cons, List.set_append, if_neg (by rw [hf, Nat.add_mul]; omega), hf, show (k + 1) * size + j - size = k * size + j from by rw [Nat.add_mul]; omega, List.set_cons_succ, List.flatMap_cons, ih k (by simpa using hk) (by simpa using hy)]
end Go.Proofs.YtmnigoibbcigdaaGreat
/- Rows of the call's own: cut, drawn out into their room, written over cell by cell; copy, append in place and clear on elements of several cells. Of no program. (The runs of copy and clear are worked out after the kit's laws at one cell.) -/
namespace Go.Proofs.YtmnigoibbcigdaaGreat
open Go.RowKit
set_option linter.unusedVariables false

section
variable {w : World} {base g : Nat} {e : TypeId} {size n cap : Nat} {xs : List Value}
theorem own_parts (h : w.ownsRow base e size (.slice (some ⟨g, 0, none⟩) n cap) n xs) : ∃ cur, base ≤ g ∧ Blk w g e cur ∧ n ≤ cap ∧ cap ≤ maxLen ∧ cur.size = cap * size ∧ cur.toList.take (n * size) = xs := by
  rcases h.2 with ⟨hv, _⟩ | ⟨g', cap', cur, hv, hg, hh, hnc, hcm, hcs, hx⟩
  · cases hv
  · injection hv with e1 e2 e3
    injection e1 with e1
    injection e1 with e1
    subst e1; subst e3
    exact ⟨cur, hg, hh, hnc, hcm, hcs, hx⟩
theorem own_of_parts {cur : Array Value} (hg : base ≤ g) (hh : Blk w g e cur) (hnc : n ≤ cap) (hcm : cap ≤ maxLen) (hcs : cur.size = cap * size) (hx : cur.toList.take (n * size) = xs) : w.ownsRow base e size (.slice (some ⟨g, 0, none⟩) n cap) n xs := by
  refine ⟨?_, .inr ⟨g, cap, cur, rfl, hg, hh, hnc, hcm, hcs, hx⟩⟩
  rw [← hx, List.length_take, Array.length_toList, hcs]
  exact Nat.min_eq_left (Nat.mul_le_mul_right _ hnc)
theorem own_cut (h : w.ownsRow base e size (.slice (some ⟨g, 0, none⟩) n cap) n xs) (i : Nat) (hi : i ≤ n) : w.ownsRow base e size (.slice (some ⟨g, 0, none⟩) i cap) i (xs.take (i * size)) := by
  obtain ⟨cur, hg, hh, hnc, hcm, hcs, hx⟩ := own_parts h
  refine own_of_parts hg hh (by omega) hcm hcs ?_
  rw [← hx, List.take_take, Nat.min_eq_left (Nat.mul_le_mul_right _ hi)]
theorem own_extend (h : w.ownsRow base e size (.slice (some ⟨g, 0, none⟩) n cap) n xs) (m : Nat) (hm : n + m ≤ cap) : ∃ ys : List Value, ys.length = m * size ∧ w.ownsRow base e size (.slice (some ⟨g, 0, none⟩) (n + m) cap) (n + m) (xs ++ ys) := by
  obtain ⟨cur, hg, hh, hnc, hcm, hcs, hx⟩ := own_parts h
  have hle : (n + m) * size ≤ cap * size := Nat.mul_le_mul_right _ hm
  have hadd : (n + m) * size = n * size + m * size := Nat.add_mul _ _ _
  refine ⟨(cur.toList.take ((n + m) * size)).drop (n * size), ?_, ?_⟩
  · rw [List.length_drop, List.length_take, Array.length_toList, hcs]; omega
  · refine own_of_parts hg hh hm hcm hcs ?_
    have := List.take_append_drop (n * size) (cur.toList.take ((n + m) * size))
    rw [List.take_take, Nat.min_eq_left (by omega), hx] at this
    exact this.symm
theorem own_some_cell (h : w.ownsRow base e size (.slice (some ⟨g, 0, none⟩) n cap) n xs) (j : Nat) (hj : j < cap * size) : (w.cell? ⟨g, j, none⟩).isSome = true := by
  obtain ⟨cur, hg, hh, hnc, hcm, hcs, hx⟩ := own_parts h
  rw [hh.cell, Array.getElem?_eq_getElem (by omega)]; rfl
def setL : List Value → Nat → List Value → List Value
  | xs, _, [] => xs
  | xs, o, v :: r => setL (xs.set o v) (o + 1) r
theorem setL_len (vs : List Value) (xs : List Value) (o : Nat) : (setL xs o vs).length = xs.length := by
  induction vs generalizing xs o with
  | nil => rfl
  | cons v r ih => rw [setL, ih, List.length_set]
theorem setL_eq (vs : List Value) (xs : List Value) (o : Nat) (h : o + vs.length ≤ xs.length) : setL xs o vs = xs.take o ++ vs ++ xs.drop (o + vs.length) := by
  induction vs generalizing xs o with
  | nil => simp [setL]
  | cons v r ih =>
    rw [List.length_cons] at h
    rw [setL, ih _ _ (by rw [List.length_set]; omega), List.length_cons, show o + (r.length + 1) = o + 1 + r.length from by omega,
      List.drop_set_of_lt (by omega), List.take_succ_eq_append_getElem (by rw [List.length_set]; omega), List.getElem_set_self, List.take_set_of_le (by omega)]
    simp
theorem setL_past (vs : List Value) (xs : List Value) (o : Nat) (h : xs.length ≤ o) : setL xs o vs = xs := by
  induction vs generalizing xs o with
  | nil => rfl
  | cons v r ih => rw [setL, List.set_eq_of_length_le h, ih _ _ (by omega)]
theorem ins_cells (xs ys zs : List Value) (a K : Nat) (hy : ys.length = K) (hz : zs.length = K) (ha : a ≤ xs.length) : setL (setL (xs ++ zs) (a + K) (xs.drop a)) a ys = xs.take a ++ (ys ++ xs.drop a) := by
  have h1 : setL (xs ++ zs) (a + K) (xs.drop a) = (xs ++ zs).take (a + K) ++ xs.drop a := by
    have hd : (xs ++ zs).drop (a + K + (xs.drop a).length) = [] := List.drop_eq_nil_of_le (by rw [List.length_append, List.length_drop, hz]; omega)
    rw [setL_eq _ _ _ (by rw [List.length_append, List.length_drop, hz]; omega), hd, List.append_nil]
  have hl : ((xs ++ zs).take (a + K)).length = a + K := by rw [List.length_take, List.length_append, hz]; omega
  rw [h1, setL_eq _ _ _ (by rw [List.length_append, hl, hy]; omega), List.take_append_of_le_length (by omega), List.take_take, Nat.min_eq_left (by omega), List.take_append_of_le_length ha, hy, List.drop_left' hl, List.append_assoc]
theorem del_cells (xs : List Value) (a K : Nat) (ha : a + K ≤ xs.length) : (setL xs a (xs.drop (a + K))).take (xs.length - K) = xs.take a ++ xs.drop (a + K) := by
  have hl : (xs.take a).length = a := by rw [List.length_take]; omega
  rw [setL_eq _ _ _ (by rw [List.length_drop]; omega)]
  refine List.take_left' ?_
  rw [List.length_append, hl, List.length_drop]; omega
theorem ins_cells2 (xs ys zz : List Value) (a K : Nat) (hy : ys.length = K) (ha : a ≤ xs.length) (hz : zz.length = xs.length - a + K) : setL (setL (xs.take a ++ zz) a ys) (a + K) (xs.drop a) = xs.take a ++ (ys ++ xs.drop a) := by
  have hl : (xs.take a).length = a := by rw [List.length_take]; omega
  have h1 : setL (xs.take a ++ zz) a ys = xs.take a ++ (ys ++ zz.drop K) := by
    rw [setL_eq _ _ _ (by rw [List.length_append, hl, hy, hz]; omega), List.take_left' hl, hy, List.drop_append, List.drop_eq_nil_of_le (by omega), List.nil_append, hl, show a + K - a = K from by omega, List.append_assoc]
  have h2 : (xs.take a ++ ys).length = a + K := by rw [List.length_append, hl, hy]
  have h3 : (xs.take a ++ (ys ++ zz.drop K)).length = a + K + (xs.drop a).length := by rw [← List.append_assoc, List.length_append, h2, List.length_drop, List.length_drop, hz]; omega
  rw [h1, setL_eq _ _ _ (by rw [h3]; exact Nat.le_refl _)]
  have h4 : (xs.take a ++ (ys ++ zz.drop K)).drop (a + K + (xs.drop a).length) = [] := List.drop_eq_nil_of_le (by rw [h3]; exact Nat.le_refl _)
  rw [h4, List.append_nil, ← List.append_assoc, List.take_left' h2, List.append_assoc]
theorem own_setCells (vs : List Value) (o : Nat) (h : w.ownsRow base e size (.slice (some ⟨g, 0, none⟩) n cap) n xs) : (w.setCells g o vs).ownsRow base e size (.slice (some ⟨g, 0, none⟩) n cap) n (setL xs o vs) := by
  induction vs generalizing w xs o with
  | nil => exact h
  | cons v r ih => exact ih (o + 1) (own_set h o v)
theorem size_setCells (vs : List Value) (w : World) (o : Nat) : (w.setCells g o vs).heap.size = w.heap.size := by
  induction vs generalizing w o with
  | nil => rfl
  | cons v r ih => rw [World.setCells, ih]; simp
theorem only_setCells (vs : List Value) (w : World) (o : Nat) : Only (fun k => k = g) w (w.setCells g o vs) := by
  induction vs generalizing w o with
  | nil => exact Only.refl _ _
  | cons v r ih => exact ((Only.refl (fun k => k = g) w).setCell (fun _ => rfl) _).trans (ih _ _) (fun _ _ h => h)
theorem Blk.shape {cur : Array Value} (h : Blk w g e cur) : w.shape? g = some (e, cur.size) := by unfold Blk at h; unfold World.shape?; rw [h]
end

section
variable {P : Program}
/-- copy on elements of several cells: all is read before anything is written -/
theorem run_copy_k (w : World) (dT sT ty elem : TypeId) (size : Nat) (b o dLen dCap : Nat) (a : Addr) (sLen sCap : Nat) (cs : List Value)
    (hu : P.underlying dT = some (.slice elem)) (hs : (P.info? elem).map (·.size) = some size) (hn : cs.length = Nat.min sLen dLen * size)
    (hsrc : ∀ j v, cs[j]? = some v → w.cell? (a.add j) = some v) (hc : ∀ j, j < cs.length → (w.cell? ⟨b, o + j, none⟩).isSome = true) (hf : ∀ j, j < cs.length → w.frozen? ⟨b, o + j, none⟩ = false) (h1 : ∀ v ∈ cs, v.oneCell' = true) :
    (Builtin.copy_ #[dT, sT] ty #[.slice (some ⟨b, o, none⟩) dLen dCap, .slice (some a) sLen sCap]).run P w = .ok (goInt (Nat.min sLen dLen)) (w.setCells b o cs) := by
  have hl := run_loadCells_list (P := P) w a cs hsrc
  have hst := run_storeCells_cells (P := P) b o cs 0 w (by simpa using hc) (by simpa using hf) h1
  cases hq : P.info? elem with
  | none => simp [hq] at hs
  | some i =>
    have hi : i.size = size := by simpa [hq] using hs
    simp [Builtin.copy_, run_underlying hu, Builtin.lenOf, Builtin.firstCells, sizeOf, typeInfo, hq, hi, ← hn, hl, hst]
theorem wp_copy_at (w : World) {o : Oper} {a : Act} {K : Act → World → Prop} {Q : Exit → Act → World → Prop} (d s : Operand) (t t' : TypeId)
    (ho : o.op = .call { callee := .builtin .copy, args := #[d, s], argTypes := #[t, t'] }) (v u : Value) (hd : a.eval d = v) (hs : a.eval s = u) {v' : Value} {w' : World}
    (hr : (Builtin.copy_ #[t, t'] o.type #[v, u]).run P w = .ok v' w') (h : K (a.put o.dst v') w') : o.wp P a w K Q := by
  unfold Oper.wp execOp
  simp only [ho, resolve, invoke, builtin, Sem.run_bind, Sem.run_pure, Result.andThen_ok, List.map_toArray, List.map_cons, List.map_nil, hd, hs, hr]
  exact h
theorem wpList_copy_at (w : World) {ops : Array Oper} {rest : List Oper} {o : Oper} {a : Act} {Q : Exit → Act → World → Prop} (hgd : o.guard = none) (d s : Operand) (t t' : TypeId)
    (ho : o.op = .call { callee := .builtin .copy, args := #[d, s], argTypes := #[t, t'] }) (v u : Value) (hd : a.eval d = v) (hs : a.eval s = u) {v' : Value} {w' : World}
    (hr : (Builtin.copy_ #[t, t'] o.type #[v, u]).run P w = .ok v' w') (h : wpList P ops Q rest (a.put o.dst v') w') : wpList P ops Q (o :: rest) a w :=
  wpList_plain hgd fun _ hK => wp_copy_at w d s t t' ho v u hd hs hr (hK _ _ h)
theorem step_copy_at {ops : Array Oper} {o : Oper} {a : Act} {w : World} {K : Act → World → Prop} {Q : Exit → Act → World → Prop} {E : Prop}
    (hg : o.guard = none) (d x : Operand) (dT sT : TypeId) (hop : o.op = Op.call { callee := Callee.builtin Builtin.copy, args := #[d, x], argTypes := #[dT, sT] })
    (v u : Value) (hd : a.eval d = v) (hx : a.eval x = u) {v' : Value} {w' : World} (hr : (Builtin.copy_ #[dT, sT] o.type #[v, u]).run P w = .ok v' w') (hK : K (a.put o.dst v') w') :
    if Region.wanted o (yielded ops a.tmps) = true then Oper.wp P o a w K Q else E := by
  have hw : Region.wanted o (yielded ops a.tmps) = true := by simp [Region.wanted, hg]
  rw [if_pos hw]
  unfold Oper.wp
  simp [execOp, hop, resolve, invoke, builtin, hd, hx, hr, Result.andThen]
  exact hK
theorem step_append_at {ops : Array Oper} {o : Oper} {a : Act} {w : World} {K : Act → World → Prop} {Q : Exit → Act → World → Prop} {E : Prop}
    (hg : o.guard = none) (d x : Operand) (dT sT : TypeId) (hop : o.op = Op.call { callee := Callee.builtin Builtin.append, args := #[d, x], argTypes := #[dT, sT] })
    (v u : Value) (hd : a.eval d = v) (hx : a.eval x = u) {v' : Value} {w' : World} (hr : (Builtin.append_ #[dT, sT] o.type #[v, u]).run P w = .ok v' w') (hK : K (a.put o.dst v') w') :
    if Region.wanted o (yielded ops a.tmps) = true then Oper.wp P o a w K Q else E := by
  have hw : Region.wanted o (yielded ops a.tmps) = true := by simp [Region.wanted, hg]
  rw [if_pos hw]
  unfold Oper.wp
  simp [execOp, hop, resolve, invoke, builtin, hd, hx, hr, Result.andThen]
  exact hK
/-- append in place -/
theorem run_append_room (w : World) (t t' ty e : TypeId) (i : TypeInfo) (ht : P.underlying t = some (.slice e)) (ht' : P.underlying t' = some (.slice e)) (hi : P.info? e = some i) (b n c : Nat) (a : Addr) (m mc : Nat) (cs : List Value)
    (hroom : n + m ≤ c) (hl : cs.length = m * i.size) (hsrc : ∀ j v, cs[j]? = some v → w.cell? (a.add j) = some v) (hc : ∀ j, j < cs.length → (w.cell? ⟨b, n * i.size + j, none⟩).isSome = true) (hf : ∀ j, j < cs.length → w.frozen? ⟨b, n * i.size + j, none⟩ = false) (h1 : ∀ v ∈ cs, v.oneCell' = true) :
    (Builtin.append_ #[t, t'] ty #[.slice (some ⟨b, 0, none⟩) n c, .slice (some a) m mc]).run P w = .ok (.slice (some ⟨b, 0, none⟩) (n + m) c) (w.setCells b (n * i.size) cs) := by
  have hld := run_loadCells_list (P := P) w a cs hsrc
  have hst := run_storeCells_cells (P := P) b (n * i.size) cs 0 w (by simpa using hc) (by simpa using hf) h1
  have hz : (⟨b, 0, none⟩ : Addr).add (n * i.size) = ⟨b, n * i.size, none⟩ := by rw [add_mk, Nat.zero_add]
  rw [hl] at hld
  simp [Builtin.append_, run_underlying ht, run_underlying ht', sizeOf, typeInfo, hi, Builtin.lenOf, Builtin.firstCells, hroom, hld, hz, hst]
theorem run_clear_k (w : World) (t e ty : TypeId) (z : Value) (size : Nat) (ht : P.underlying t = some (.slice e)) (hv : ∀ w, (zeroValue e).run P w = .ok z w) (hzs : z.cells.size = size) (h1 : ∀ v ∈ z.cells, v.oneCell' = true) (b o n c : Nat) (hn : 0 < n) (hsz : 0 < size)
    (hc : ∀ j, j < n * size → (w.cell? ⟨b, o + j, none⟩).isSome = true) (hf : ∀ j, j < n * size → w.frozen? ⟨b, o + j, none⟩ = false) :
    (Builtin.clear_ #[t] ty #[.slice (some ⟨b, o, none⟩) n c]).run P w = .ok (.tuple #[]) (w.setCells b o (Builtin.zeroCells z.cells n).toList) := by
  have hlen : (Builtin.zeroCells z.cells n).toList.length = n * size := by simp [Builtin.zeroCells, hzs]
  have hst := run_storeCells_cells (P := P) b o (Builtin.zeroCells z.cells n).toList 0 w (by rw [hlen]; simpa using hc) (by rw [hlen]; simpa using hf) (by
    intro v hv'
    unfold Builtin.zeroCells at hv'
    simp only [Array.toList_map, List.mem_map] at hv'
    obtain ⟨j, _, rfl⟩ := hv'
    have hlt : j % z.cells.size < z.cells.size := Nat.mod_lt _ (by omega)
    rw [getElem!_pos z.cells _ hlt]
    exact h1 _ (Array.getElem_mem hlt))
  simp only [Nat.add_zero] at hst
  obtain ⟨m, rfl⟩ : ∃ m, n = m + 1 := ⟨n - 1, by omega⟩
  simp [Builtin.clear_, run_underlying ht, hv, hst]
end
end Go.Proofs.YtmnigoibbcigdaaGreat
