/- QueryAlike, plain: a Last is the Range of one time; a Merge of a merged list is that list. -/
import Derived.Test.YthdbmgjlegpbaaaKRfLast
import Derived.Test.YthdbmgjlegpbaaaKRfRange
namespace Go.Proofs.Ythdbmgjlegpbaaa
set_option linter.unusedVariables false
namespace Qm
open Ig St
theorem setP_nil (p : Pt.Point) : setP [] p = [p] := by rw [← Rf.res_set p sorted_nil]; rfl
theorem setP_one {q p : Pt.Point} (h1 : q.1 = p.1) (h2 : q.2.1 = p.2.1) : setP [q] p = [p] := by
  rw [← Rf.res_set p (by rw [sorted_pair]; exact List.pairwise_singleton _ _)]
  have hl : Rf.like p q = true := by unfold Rf.like; simp [h1, h2]
  unfold Rf.res Rf.st
  rw [List.foldl_cons, List.foldl_nil]
  unfold Rf.step
  simp [hl]
theorem set_alike (s : ByteArray) (t : Int) (l : List Pt.Point) (h : ∀ p ∈ l, p.1 = s ∧ p.2.1 = t) : setAll [] l = l.getLast?.toList := by
  have key : ∀ n, ∀ l : List Pt.Point, l.length = n → (∀ p ∈ l, p.1 = s ∧ p.2.1 = t) → setAll [] l = l.getLast?.toList := fun n => by
    induction n with
    | zero => intro l hl _; obtain rfl := List.eq_nil_of_length_eq_zero hl; rfl
    | succ n ih =>
      intro l hl h
      obtain ⟨ys, y, rfl⟩ : ∃ ys y, l = ys ++ [y] := ⟨l.dropLast, l.getLast (by intro e; rw [e] at hl; cases hl), (List.dropLast_concat_getLast _).symm⟩
      have hy := ih ys (by rw [List.length_append] at hl; simpa using hl) fun p hp => h p (List.mem_append_left _ hp)
      rw [Rf.set_snoc, hy]
      have hyy := h y (by simp)
      have e : (ys ++ [y]).getLast? = some y := by simp
      rw [e]
      cases hg : ys.getLast? with
      | none => exact setP_nil y
      | some q =>
        have hq := h q (List.mem_append_left _ (List.mem_of_getLast? hg))
        exact setP_one (by rw [hq.1, hyy.1]) (by rw [hq.2, hyy.2])
  exact key _ l rfl h
theorem gone_hit (s : ByteArray) (t : Int) (p : Pt.Point) : (!gone s t t p) = Qr.hit s t p := by
  unfold gone Qr.hit
  by_cases h1 : p.1 = s
  · by_cases h2 : p.2.1 = t
    · simp [h1, h2]
    · have : (decide (p.2.1 < t) || decide (t < p.2.1)) = true := by simp; omega
      rw [this]; simp [h2]
  · simp [h1]
theorem keep_hit (s : ByteArray) (t : Int) (l : List Pt.Point) : keepL (gone s t t) l = l.filter (Qr.hit s t) := by
  unfold keepL
  exact List.filter_congr fun p _ => gone_hit s t p
theorem newest_last (s : ByteArray) (t : Int) (l : List Pt.Point) : Qr.newest s t l = (l.filter (Qr.hit s t)).getLast?.map (·.2.2) := by
  unfold Qr.newest
  rw [← List.head?_filter, List.filter_reverse, List.head?_reverse]
theorem last_keep (s : ByteArray) (t : Int) (L : List (List Pt.Point)) : Qr.lastIn s t L = (keepL (gone s t t) L.flatten).getLast?.map (·.2.2) := by
  have key : ∀ n, ∀ L : List (List Pt.Point), L.length = n → Qr.lastIn s t L = (keepL (gone s t t) L.flatten).getLast?.map (·.2.2) := fun n => by
    induction n with
    | zero => intro L hl; obtain rfl := List.eq_nil_of_length_eq_zero hl; rfl
    | succ n ih =>
      intro L hl
      obtain ⟨ys, y, rfl⟩ : ∃ ys y, L = ys ++ [y] := ⟨L.dropLast, L.getLast (by intro e; rw [e] at hl; cases hl), (List.dropLast_concat_getLast _).symm⟩
      have hy := ih ys (by rw [List.length_append] at hl; simpa using hl)
      rw [lastIn_snoc, hy, newest_last, List.flatten_append, keepL_append, List.flatten_cons, List.flatten_nil, List.append_nil, keep_hit s t y, List.getLast?_append]
      cases (y.filter (Qr.hit s t)).getLast? <;> simp
  exact key _ L rfl
theorem keep_like (s : ByteArray) (t : Int) (l : List Pt.Point) : ∀ p ∈ keepL (gone s t t) l, p.1 = s ∧ p.2.1 = t := by
  intro p hp
  rw [keep_hit] at hp
  have := (List.mem_filter.1 hp).2
  unfold Qr.hit at this
  simpa using this
/-- the one point, if any -/
theorem alike (segs : List ByteArray) (o : List Pt.Point) (s : ByteArray) (t : Int) (h : Qr.okS segs = true) : ∃ q : Option Pt.Point, rangeR segs o s t t = (q.toList, 0) ∧ Qr.lastR segs o s t = ((q.map (·.2.2)).getD 0, q.isSome, 0) := by
  refine ⟨(keepL (gone s t t) (segs.map Qr.ptsOf ++ [o]).flatten).getLast?, ?_, ?_⟩
  · unfold rangeR
    rw [if_pos h, fold_flat, set_alike s t _ (keep_like s t _)]
  · unfold Qr.lastR
    rw [if_pos h, last_keep, Option.isSome_map]
theorem merge_nil_left {m : List Pt.Point} (h : Sorted m) : mergeP [] m = m := set_id h
theorem merge_nil_right {m : List Pt.Point} (h : Sorted m) : mergeP m [] = m := by unfold mergeP; rw [List.append_nil, set_id h]
theorem merge_self {m : List Pt.Point} (h : Sorted m) : mergeP m m = m := by
  refine sorted_ext (setAll_sorted sorted_nil _) h fun x => ?_
  have h1 := set_mem (m ++ m) x
  have h2 := set_mem m x
  rw [set_id h] at h2
  rw [h2]
  unfold mergeP
  rw [h1, fl_append, List.getLast?_append]
  cases (fl x m).getLast? <;> simp
end Qm
end Go.Proofs.Ythdbmgjlegpbaaa
