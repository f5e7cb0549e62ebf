/- QueryMerges, plain. -/
import Derived.Test.YthdbmgjlegpbaaaK10
namespace Go.Proofs.Ythdbmgjlegpbaaa
set_option linter.unusedVariables false
namespace Qm
open St Ig
theorem cb_less : ∀ (a b : List UInt8), Lib.compareBytes a b < 0 → Op.bytesLess a b = true
  | [], [] => fun h => by simp [Lib.compareBytes] at h
  | [], _ :: _ => fun _ => by simp [Op.bytesLess]
  | _ :: _, [] => fun h => by simp [Lib.compareBytes] at h
  | a :: x, b :: y => fun h => by
    unfold Lib.compareBytes at h
    split at h
    · rename_i h1; simp [Op.bytesLess, h1]
    · split at h
      · omega
      · rename_i h1 h2
        have e : a = b := UInt8.le_antisymm (UInt8.not_lt.1 h2) (UInt8.not_lt.1 h1)
        subst e
        simp [Op.bytesLess, cb_less x y h]
theorem lt_cases {p q : Pt.Point} (h : Pt.cmpP p q < 0) : (Op.bytesLess p.1.toList q.1.toList = true ∧ ¬ p.1.toList = q.1.toList) ∨ (p.1 = q.1 ∧ p.2.1 < q.2.1) := by
  rcases (cmp_iff p q).1 h with h | h
  · left
    rw [Lib.toList_data, Lib.toList_data]
    exact ⟨cb_less _ _ h, fun e => by rw [e, cb_self] at h; omega⟩
  · exact .inr h
theorem merge_sorted (a b : List Pt.Point) : Sorted (mergeP a b) := setAll_sorted sorted_nil _
theorem merge_len (a b : List Pt.Point) : (mergeP a b).length ≤ a.length + b.length := by
  have := setAll_len [] (a ++ b)
  rw [List.length_append, List.length_nil, Nat.zero_add] at this
  exact this
/-- p is the newest so far that is like b[i] -/
def newest (b : List Pt.Point) (i k : Nat) (p : Pt.Point) : Prop := ∃ q, b[i]? = some q ∧ (fl q (b.take k)).getLast? = some p
theorem newest_like {b : List Pt.Point} {i k : Nat} {p q : Pt.Point} (h : newest b i k p) (hq : b[i]? = some q) : Pt.cmpP p q = 0 := by
  obtain ⟨q', hq', hl⟩ := h
  rw [hq] at hq'; cases hq'
  exact (mem_fl.1 (List.mem_of_getLast? hl)).2
theorem newest_start {b : List Pt.Point} {i : Nat} {q : Pt.Point} (hq : b[i]? = some q) : newest b i (i + 1) q := by
  obtain ⟨h, rfl⟩ := List.getElem?_eq_some_iff.1 hq
  refine ⟨_, hq, ?_⟩
  rw [List.take_succ_eq_append_getElem h, fl_append, fl_cons, if_pos (cmp_self _)]
  simp [fl]
theorem like_iff {p q : Pt.Point} : Pt.cmpP p q = 0 ↔ p.1 = q.1 ∧ p.2.1 = q.2.1 := by
  constructor
  · exact cmp_same
  · rintro ⟨h1, h2⟩
    obtain ⟨pn, pt, pv⟩ := p
    obtain ⟨qn, qt, qv⟩ := q
    dsimp only at h1 h2
    subst h1; subst h2
    exact cmp_self (pn, pt, pv)
theorem newest_yes {b : List Pt.Point} {i k : Nat} {p q : Pt.Point} (h : newest b i k p) (hk : b[k]? = some q) (h1 : q.1 = p.1) (h2 : q.2.1 = p.2.1) : newest b i (k + 1) q := by
  have hc : Pt.cmpP q p = 0 := like_iff.2 ⟨h1, h2⟩
  obtain ⟨r, hr, hl⟩ := id h
  have hpr := newest_like h hr
  obtain ⟨hk', rfl⟩ := List.getElem?_eq_some_iff.1 hk
  refine ⟨r, hr, ?_⟩
  rw [List.take_succ_eq_append_getElem hk', fl_append, fl_cons, if_pos (by rw [cmp_left hc]; exact hpr)]
  simp [fl]
theorem newest_no {b : List Pt.Point} {i k : Nat} {p q : Pt.Point} (h : newest b i k p) (hk : b[k]? = some q) (hn : ¬ (q.1 = p.1 ∧ q.2.1 = p.2.1)) : newest b i (k + 1) p := by
  obtain ⟨r, hr, hl⟩ := id h
  have hpr := newest_like h hr
  obtain ⟨hk', rfl⟩ := List.getElem?_eq_some_iff.1 hk
  refine ⟨r, hr, ?_⟩
  rw [List.take_succ_eq_append_getElem hk', fl_append, fl_cons, if_neg (fun e => hn (like_iff.1 (by rw [cmp_right hpr]; exact e)))]
  simpa [fl] using hl
theorem newest_end {a b : List Pt.Point} {i k : Nat} {p : Pt.Point} (h : newest b i k p) (hk : b.length ≤ k) : p ∈ mergeP a b := by
  obtain ⟨r, hr, hl⟩ := h
  rw [List.take_of_length_le hk] at hl
  have hm := mem_fl.1 (List.mem_of_getLast? hl)
  rw [mergeP, set_mem]
  have e : fl p (a ++ b) = fl r a ++ fl r b := by
    have : ∀ l, fl p l = fl r l := fun l => by
      unfold fl
      refine List.filter_congr fun x _ => ?_
      rw [cmp_right hm.2]
    rw [this, fl_append]
  rw [e, List.getLast?_append, hl]; rfl
def same (q p : Pt.Point) : Bool := decide (q.1 = p.1) && (decide (q.2.1 = p.2.1) && decide (q.2.2 = p.2.2))
theorem same_iff {q p : Pt.Point} : same q p = true ↔ q = p := by
  obtain ⟨a, b, c⟩ := q
  obtain ⟨a', b', c'⟩ := p
  simp [same]
def hasB (m : List Pt.Point) (p : Pt.Point) : Bool := m.any fun q => same q p
theorem has_step {m : List Pt.Point} {k : Nat} {p q : Pt.Point} (hk : m[k]? = some q) : hasB (m.take (k + 1)) p = (hasB (m.take k) p || same q p) := by
  obtain ⟨h, rfl⟩ := List.getElem?_eq_some_iff.1 hk
  unfold hasB
  rw [List.take_succ_eq_append_getElem h, List.any_append]
  simp
theorem has_end {m : List Pt.Point} {k : Nat} {p : Pt.Point} (h : p ∈ m) (hk : m.length ≤ k) : hasB (m.take k) p = true := by
  rw [List.take_of_length_le hk]
  exact List.any_eq_true.2 ⟨p, h, same_iff.2 rfl⟩
end Qm
end Go.Proofs.Ythdbmgjlegpbaaa
