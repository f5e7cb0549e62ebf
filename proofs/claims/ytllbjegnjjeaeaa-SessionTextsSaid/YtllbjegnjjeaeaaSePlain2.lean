/- Sessions in plain words, more: what an entry leaves of a table; a table there and back (chapter 10). No program in sight. -/
import Derived.Test.YtllbjegnjjeaeaaSePlain
namespace Go.Proofs.Ytllbjegnjjeaeaa.Se
open Go.Proofs.Ytllbjegnjjeaeaa
set_option linter.unusedVariables false

theorem pair_of {rows : List Row} (h : mayB rows = true) : rows.Pairwise fun a b => a.1 < b.1 := by
  rw [List.pairwise_iff_getElem]
  exact fun i j hi hj hij => may_lt h i j hij hj
theorem may_of_pair {rows : List Row} (hl : rows.length ≤ 4) (h : rows.Pairwise fun a b => a.1 < b.1) : mayB rows = true := by
  rw [List.pairwise_iff_getElem] at h
  exact may_of hl fun i hi => h i (i + 1) (by omega) hi (by omega)
theorem mem_ins {rows : List Row} {t : Int} {r : Row} (h : r ∈ ins rows t) : r ∈ rows ∨ r = new t := by
  unfold ins at h
  rcases List.mem_append.1 h with h | h
  · exact .inl (List.mem_of_mem_take h)
  · rcases List.mem_cons.1 h with h | h
    · exact .inr h
    · exact .inl (List.mem_of_mem_drop h)
theorem ins_pair {rows : List Row} {t : Int} (h : mayB rows = true) (hn : ¬ idx rows t < rows.length) : (ins rows t).Pairwise fun a b => a.1 < b.1 := by
  have hp := pair_of h
  have hne : ∀ r ∈ rows, r.1 ≠ t := by
    intro r hr e
    apply hn
    unfold idx
    rw [List.findIdx_lt_length]
    exact ⟨r, hr, by simpa using e⟩
  unfold ins
  rw [List.pairwise_append, List.pairwise_cons]
  refine ⟨hp.sublist (List.take_sublist _ _), ⟨?_, hp.sublist (List.drop_sublist _ _)⟩, ?_⟩
  · intro r hr
    show t < r.1
    obtain ⟨j, hj, rfl⟩ := List.getElem_of_mem hr
    rw [List.length_drop] at hj
    rw [List.getElem_drop]
    have hb := lo_behind (rows := rows) (t := t) (by omega)
    have hn1 := hne (rows[lo rows t + j]) (List.getElem_mem _)
    by_cases e : j = 0
    · subst e
      have hn0 := hne (rows[lo rows t]) (List.getElem_mem _)
      simp only [Nat.add_zero]
      omega
    · have := may_lt h (lo rows t) (lo rows t + j) (by omega) (by omega)
      omega
  · intro a ha b hb
    obtain ⟨i, hi, rfl⟩ := List.getElem_of_mem ha
    rw [List.length_take] at hi
    rw [List.getElem_take]
    have h1 := lo_ahead (rows := rows) (t := t) i (by omega)
    rcases List.mem_cons.1 hb with rfl | hb
    · exact h1
    · obtain ⟨j, hj, rfl⟩ := List.getElem_of_mem hb
      rw [List.length_drop] at hj
      rw [List.getElem_drop]
      exact may_lt h i (lo rows t + j) (by omega) (by omega)
theorem leastK_le (rows : List Row) (k : Nat) : leastK rows k ≤ k - 1 := by
  induction k with
  | zero => simp [leastK]
  | succ k ih => rw [leastK]; split <;> omega
theorem least_lt {rows : List Row} (h : 0 < rows.length) : leastK rows rows.length < rows.length := by
  have := leastK_le rows rows.length; omega
theorem open_may {rows : List Row} {t : Int} (h : mayB rows = true) (hn : ¬ idx rows t < rows.length) : mayB (openR rows t) = true := by
  have hp := ins_pair h hn
  have hl := ins_len rows t
  have hr := may_len h
  unfold openR
  split
  · rename_i h4
    exact may_of_pair h4 hp
  · have hlt := least_lt (rows := ins rows t) (by omega)
    refine may_of_pair ?_ (hp.sublist (List.eraseIdx_sublist _ _))
    rw [List.length_eraseIdx_of_lt hlt]; omega
theorem open_mem {rows : List Row} {t : Int} {r : Row} (h : r ∈ openR rows t) : r ∈ rows ∨ r = new t := by
  unfold openR at h
  split at h
  · exact mem_ins h
  · exact mem_ins (List.mem_of_mem_eraseIdx h)
theorem at_lt {rows : List Row} {s : Int} (h : idx rows s < rows.length) : at_ rows s = rows[idx rows s] := by unfold at_; exact getD_lt h
theorem set_may {rows : List Row} {s n t : Int} (h : mayB rows = true) (hi : idx rows s < rows.length) : mayB (rows.set (idx rows s) (s, n, t, t)) = true := by
  have he := idx_lt hi
  refine may_of (by rw [List.length_set]; exact may_len h) fun i hi2 => ?_
  rw [List.length_set] at hi2
  have hu := may_up h i hi2
  rw [List.getElem_set, List.getElem_set]
  by_cases e1 : idx rows s = i
  · subst e1
    rw [if_pos rfl, if_neg (by omega)]
    show s < _
    omega
  · rw [if_neg e1]
    by_cases e2 : idx rows s = i + 1
    · rw [if_pos e2]
      have hx : (rows[i + 1]'hi2).1 = s := by
        have : ∀ j (hj : j < rows.length), j = idx rows s → rows[j].1 = s := fun j hj e => by subst e; exact he
        exact this _ hi2 e2.symm
      show _ < s
      rw [hx] at hu
      exact hu
    · rw [if_neg e2]; exact hu
theorem apply_may {rows : List Row} {es en t : Int} (h : mayB rows = true) : mayB (applyR rows es en t).1 = true := by
  unfold applyR
  split
  · exact h
  · rename_i h1
    split
    · rename_i h2
      exact open_may h fun h3 => h1 (.inr (.inr ⟨h2, h3⟩))
    · split
      · exact h
      · rename_i h3
        split
        · exact h
        · exact set_may h (by
            by_cases h4 : idx rows es < rows.length
            · exact h4
            · exact absurd (.inl h4) h3)
theorem apply_effect {rows : List Row} {es en t : Int} (h : (applyR rows es en t).2.2 = true) : (applyR rows es en t).2.1 = t ∧ 1 ≤ t ∧ (applyR rows es en t).1.length ≤ 4 := by
  by_cases h1 : mayB rows = false ∨ t < 1 ∨ (es = 0 ∧ idx rows t < rows.length)
  · unfold applyR at h; rw [if_pos h1] at h; cases h
  · have hm : mayB rows = true := by
      cases hm : mayB rows with
      | true => rfl
      | false => exact absurd (.inl hm) h1
    have h4 := may_len (apply_may (es := es) (en := en) (t := t) hm)
    refine ⟨?_, by omega, h4⟩
    unfold applyR at h ⊢
    rw [if_neg h1] at h ⊢
    split
    · rfl
    · rename_i h2
      rw [if_neg h2] at h
      split
      · rename_i h3; rw [if_pos h3] at h; cases h
      · rename_i h3
        rw [if_neg h3] at h
        split
        · rename_i h5; rw [if_pos h5] at h; cases h
        · rfl
theorem apply_still {rows : List Row} {es en t : Int} (h : (applyR rows es en t).2.2 = false) : (applyR rows es en t).1 = rows := by
  unfold applyR at h ⊢
  split
  · rfl
  · rename_i h1
    rw [if_neg h1] at h
    split
    · rename_i h2; rw [if_pos h2] at h; cases h
    · rename_i h2
      rw [if_neg h2] at h
      split
      · rfl
      · rename_i h3
        rw [if_neg h3] at h
        split
        · rfl
        · rename_i h5; rw [if_neg h5] at h; cases h

/-! there and back -/
theorem rdN_at (s : ByteArray) (pre post : List UInt8) (x : Int) (hl : s.data.toList = pre ++ (Wr.putL x ++ post)) (hx : Wr.isNum x = true) : rdN s ((pre.length : Int), false) = (x, (((pre ++ Wr.putL x).length : Int), false)) := by
  have hg := Wr.getN_put pre post x hx
  rw [← hl] at hg
  have hb := (Wr.isNum_iff x).1 hx
  unfold rdN Pt.rdNum
  simp only
  rw [hg]
  simp only
  rw [if_neg (by rintro (k | k | k | k); exact k rfl; omega; omega; cases k), List.length_append, Int.natCast_add]
theorem rdRow_at (s : ByteArray) (pre post : List UInt8) (r : Row) (hl : s.data.toList = pre ++ (rowL r ++ post)) (hr : fitsB r = true) : rdRow s ((pre.length : Int), false) = (r, (((pre ++ rowL r).length : Int), false)) := by
  unfold fitsB at hr
  simp only [Bool.and_eq_true] at hr
  obtain ⟨⟨⟨h0, h1⟩, h2⟩, h3⟩ := hr
  unfold rowL at hl
  have g0 := rdN_at s pre (Wr.putL r.2.1 ++ (Wr.putL r.2.2.1 ++ (Wr.putL r.2.2.2 ++ post))) r.1 (by rw [hl]; simp) h0
  have g1 := rdN_at s (pre ++ Wr.putL r.1) (Wr.putL r.2.2.1 ++ (Wr.putL r.2.2.2 ++ post)) r.2.1 (by rw [hl]; simp) h1
  have g2 := rdN_at s (pre ++ Wr.putL r.1 ++ Wr.putL r.2.1) (Wr.putL r.2.2.2 ++ post) r.2.2.1 (by rw [hl]; simp) h2
  have g3 := rdN_at s (pre ++ Wr.putL r.1 ++ Wr.putL r.2.1 ++ Wr.putL r.2.2.1) post r.2.2.2 (by rw [hl]; simp) h3
  unfold rdRow rd1
  rw [g0]
  simp only
  rw [g1]
  simp only
  rw [g2]
  simp only
  rw [g3]
  unfold rowL
  simp only [List.append_assoc]
theorem rdK_put (s : ByteArray) (rows : List Row) (pre post : List UInt8) (hl : s.data.toList = pre ++ (rows.flatMap rowL ++ post)) (hr : rows.all fitsB = true) (k : Nat) (hk : k ≤ rows.length) :
    rdK s ((pre.length : Int), false) k = (rows.take k, (((pre ++ (rows.take k).flatMap rowL).length : Int), false)) := by
  induction k with
  | zero => simp [rdK]
  | succ k ih =>
    have hlt : k < rows.length := by omega
    have hfit : fitsB rows[k] = true := List.all_eq_true.1 hr _ (List.getElem_mem _)
    have hsp : rows.flatMap rowL = (rows.take k).flatMap rowL ++ (rowL rows[k] ++ (rows.drop (k + 1)).flatMap rowL) := by
      conv => lhs; rw [← List.take_append_drop k rows, List.drop_eq_getElem_cons hlt]
      rw [List.flatMap_append, List.flatMap_cons]
    have h1 := rdRow_at s (pre ++ (rows.take k).flatMap rowL) ((rows.drop (k + 1)).flatMap rowL ++ post) rows[k] (by rw [hl, hsp]; simp) hfit
    have hsn : (rows.take (k + 1)).flatMap rowL = (rows.take k).flatMap rowL ++ rowL rows[k] := by rw [List.take_succ_eq_append_getElem hlt, List.flatMap_append]; simp
    rw [rdK, ih (by omega)]
    simp only
    rw [h1, hsn, List.take_succ_eq_append_getElem hlt]
    simp only [List.append_assoc]
theorem get_put {rows : List Row} (hm : mayB rows = true) (hf : rows.all fitsB = true) : getR ⟨(rowsL rows).toArray⟩ = (rows, 0) := by
  have h4 := may_len hm
  have hl : (⟨(rowsL rows).toArray⟩ : ByteArray).data.toList = Wr.putL (rows.length : Int) ++ (rows.flatMap rowL ++ []) := by simp [rowsL]
  have hsz : ((⟨(rowsL rows).toArray⟩ : ByteArray).size : Int) = ((Wr.putL (rows.length : Int) ++ rows.flatMap rowL).length : Int) := by
    rw [← Wr.len_list, hl]; simp
  generalize (⟨(rowsL rows).toArray⟩ : ByteArray) = s at *
  have hg := Wr.getN_put [] (rows.flatMap rowL ++ []) (rows.length : Int) ((Wr.isNum_iff _).2 (by omega))
  rw [List.nil_append, ← hl] at hg
  have h0 : Pt.rdNum s 0 4 (0, false) = ((rows.length : Int), (((Wr.putL (rows.length : Int)).length : Int), false)) := by
    unfold Pt.rdNum
    simp only [List.length_nil, Int.natCast_zero, Int.zero_add] at hg ⊢
    rw [hg]
    simp only
    rw [if_neg (by rintro (k | k | k | k); exact k rfl; omega; omega; cases k)]
  have hk := rdK_put s rows (Wr.putL (rows.length : Int)) [] hl hf rows.length (Nat.le_refl _)
  rw [List.take_length] at hk
  unfold getR
  rw [h0]
  simp only [Int.toNat_natCast]
  rw [hk, if_pos ⟨rfl, hsz.symm, hm⟩]
theorem put_ok {rows : List Row} (hm : mayB rows = true) (hf : rows.all fitsB = true) : putR rows = (⟨(rowsL rows).toArray⟩, 0) := by unfold putR; rw [if_pos ⟨hm, hf⟩]
theorem put_no {rows : List Row} (h : mayB rows = false ∨ rows.all fitsB = false) : putR rows = (⟨#[]⟩, 1000) := by
  unfold putR; rw [if_neg]
  rintro ⟨h1, h2⟩
  rcases h with h | h
  · rw [h] at h1; cases h1
  · rw [h] at h2; cases h2
theorem rowL_len (r : Row) : (rowL r).length ≤ 32 := by
  have h1 := Wr.putL_len r.1
  have h2 := Wr.putL_len r.2.1
  have h3 := Wr.putL_len r.2.2.1
  have h4 := Wr.putL_len r.2.2.2
  unfold rowL; simp only [List.length_append]; omega
theorem rows_le (rows : List Row) : (rows.flatMap rowL).length ≤ 32 * rows.length := by
  induction rows with
  | nil => simp
  | cons r rows ih => rw [List.flatMap_cons, List.length_append, List.length_cons]; have := rowL_len r; omega
/-- a reader that is bad stays bad -/
theorem rdN_bad (s : ByteArray) (a : Int) : rdN s (a, true) = (0, (a, true)) := by
  unfold rdN Pt.rdNum; rw [if_pos (.inr (.inr (.inr rfl)))]
theorem rdRow_bad (s : ByteArray) (a : Int) : rdRow s (a, true) = ((0, 0, 0, 0), (a, true)) := by
  unfold rdRow rd1; simp only [rdN_bad]
theorem rdK_bad (s : ByteArray) (st : Pt.St) (k m : Nat) (h : (rdK s st k).2.2 = true) (hm : k ≤ m) : (rdK s st m).2.2 = true := by
  induction m with
  | zero => obtain rfl : k = 0 := by omega
            exact h
  | succ m ih =>
    by_cases e : k = m + 1
    · subst e; exact h
    · have := ih (by omega)
      generalize hq : rdK s st m = q at *
      obtain ⟨l, a, b⟩ := q
      simp only at this
      subst this
      rw [rdK, hq]; simp only; rw [rdRow_bad]
end Go.Proofs.Ytllbjegnjjeaeaa.Se
