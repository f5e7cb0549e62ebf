/- Joined texts: SePlain2, SameRows, OwnSet, OwnRow, SeMay, IgMach, IgMach2. -/
import Derived.Test.YtapdlmiioljpgaaK1
import Derived.Test.YtapdlmiioljpgaaK3
import Derived.Test.YtapdlmiioljpgaaProg
import Derived.Deep.QuietTactic
import Derived.BigQuiet
import Derived.Laws.IdiomCopy
import Derived.Lib.AppendZerosOnto
import Derived.Lib.Overlaps
import Derived.Lib.SliceRun
/- Sessions in plain words, more: what an entry leaves of a table; a table there and back (chapter 10). No program in sight. -/
namespace Go.Proofs.Ytapdlmiioljpgaa.Se
open Go.Proofs.Ytapdlmiioljpgaa
set_option linter.unusedVariables false

theorem pair_of {rows : List Row} (h : mayB rows = true) : rows.Pairwise fun a b => a.1 < b.1 := by
  rw [List.pairwise_iff_getElem]
  exact fun i j hi hj hij => may_lt h i j hij hj
theorem may_of_pair {rows : List Row} (hl : rows.length ≤ 4) (h : rows.Pairwise fun a b => a.1 < b.1) : mayB rows = true := by
  rw [List.pairwise_iff_getElem] at h
  exact may_of hl fun i hi => h i (i + 1) (by omega) hi (by omega)
theorem mem_ins {rows : List Row} {t : Int} {r : Row} (h : r ∈ ins rows t) : r ∈ rows ∨ r = new t := by
  unfold ins at h
  rcases List.mem_append.1 h with h | h
  · exact .inl (List.mem_of_mem_take h)
  · rcases List.mem_cons.1 h with h | h
    · exact .inr h
    · exact .inl (List.mem_of_mem_drop h)
theorem ins_pair {rows : List Row} {t : Int} (h : mayB rows = true) (hn : ¬ idx rows t < rows.length) : (ins rows t).Pairwise fun a b => a.1 < b.1 := by
  have hp := pair_of h
  have hne : ∀ r ∈ rows, r.1 ≠ t := by
    intro r hr e
    apply hn
    unfold idx
    rw [List.findIdx_lt_length]
    exact ⟨r, hr, by simpa using e⟩
  unfold ins
  rw [List.pairwise_append, List.pairwise_cons]
  refine ⟨hp.sublist (List.take_sublist _ _), ⟨?_, hp.sublist (List.drop_sublist _ _)⟩, ?_⟩
  · intro r hr
    show t < r.1
    obtain ⟨j, hj, rfl⟩ := List.getElem_of_mem hr
    rw [List.length_drop] at hj
    rw [List.getElem_drop]
    have hb := lo_behind (rows := rows) (t := t) (by omega)
    have hn1 := hne (rows[lo rows t + j]) (List.getElem_mem _)
    by_cases e : j = 0
    · subst e
      have hn0 := hne (rows[lo rows t]) (List.getElem_mem _)
      simp only [Nat.add_zero]
      omega
    · have := may_lt h (lo rows t) (lo rows t + j) (by omega) (by omega)
      omega
  · intro a ha b hb
    obtain ⟨i, hi, rfl⟩ := List.getElem_of_mem ha
    rw [List.length_take] at hi
    rw [List.getElem_take]
    have h1 := lo_ahead (rows := rows) (t := t) i (by omega)
    rcases List.mem_cons.1 hb with rfl | hb
    · exact h1
    · obtain ⟨j, hj, rfl⟩ := List.getElem_of_mem hb
      rw [List.length_drop] at hj
      rw [List.getElem_drop]
      exact may_lt h i (lo rows t + j) (by omega) (by omega)
theorem leastK_le (rows : List Row) (k : Nat) : leastK rows k ≤ k - 1 := by
  induction k with
  | zero => simp [leastK]
  | succ k ih => rw [leastK]; split <;> omega
theorem least_lt {rows : List Row} (h : 0 < rows.length) : leastK rows rows.length < rows.length := by
  have := leastK_le rows rows.length; omega
theorem open_may {rows : List Row} {t : Int} (h : mayB rows = true) (hn : ¬ idx rows t < rows.length) : mayB (openR rows t) = true := by
  have hp := ins_pair h hn
  have hl := ins_len rows t
  have hr := may_len h
  unfold openR
  split
  · rename_i h4
    exact may_of_pair h4 hp
  · have hlt := least_lt (rows := ins rows t) (by omega)
    refine may_of_pair ?_ (hp.sublist (List.eraseIdx_sublist _ _))
    rw [List.length_eraseIdx_of_lt hlt]; omega
theorem open_mem {rows : List Row} {t : Int} {r : Row} (h : r ∈ openR rows t) : r ∈ rows ∨ r = new t := by
  unfold openR at h
  split at h
  · exact mem_ins h
  · exact mem_ins (List.mem_of_mem_eraseIdx h)
theorem at_lt {rows : List Row} {s : Int} (h : idx rows s < rows.length) : at_ rows s = rows[idx rows s] := by unfold at_; exact getD_lt h
theorem set_may {rows : List Row} {s n t : Int} (h : mayB rows = true) (hi : idx rows s < rows.length) : mayB (rows.set (idx rows s) (s, n, t, t)) = true := by
  have he := idx_lt hi
  refine may_of (by rw [List.length_set]; exact may_len h) fun i hi2 => ?_
  rw [List.length_set] at hi2
  have hu := may_up h i hi2
  rw [List.getElem_set, List.getElem_set]
  by_cases e1 : idx rows s = i
  · subst e1
    rw [if_pos rfl, if_neg (by omega)]
    show s < _
    omega
  · rw [if_neg e1]
    by_cases e2 : idx rows s = i + 1
    · rw [if_pos e2]
      have hx : (rows[i + 1]'hi2).1 = s := by
        have : ∀ j (hj : j < rows.length), j = idx rows s → rows[j].1 = s := fun j hj e => by subst e; exact he
        exact this _ hi2 e2.symm
      show _ < s
      rw [hx] at hu
      exact hu
    · rw [if_neg e2]; exact hu
theorem apply_may {rows : List Row} {es en t : Int} (h : mayB rows = true) : mayB (applyR rows es en t).1 = true := by
  unfold applyR
  split
  · exact h
  · rename_i h1
    split
    · rename_i h2
      exact open_may h fun h3 => h1 (.inr (.inr ⟨h2, h3⟩))
    · split
      · exact h
      · rename_i h3
        split
        · exact h
        · exact set_may h (by
            by_cases h4 : idx rows es < rows.length
            · exact h4
            · exact absurd (.inl h4) h3)
theorem apply_effect {rows : List Row} {es en t : Int} (h : (applyR rows es en t).2.2 = true) : (applyR rows es en t).2.1 = t ∧ 1 ≤ t ∧ (applyR rows es en t).1.length ≤ 4 := by
  by_cases h1 : mayB rows = false ∨ t < 1 ∨ (es = 0 ∧ idx rows t < rows.length)
  · unfold applyR at h; rw [if_pos h1] at h; cases h
  · have hm : mayB rows = true := by
      cases hm : mayB rows with
      | true => rfl
      | false => exact absurd (.inl hm) h1
    have h4 := may_len (apply_may (es := es) (en := en) (t := t) hm)
    refine ⟨?_, by omega, h4⟩
    unfold applyR at h ⊢
    rw [if_neg h1] at h ⊢
    split
    · rfl
    · rename_i h2
      rw [if_neg h2] at h
      split
      · rename_i h3; rw [if_pos h3] at h; cases h
      · rename_i h3
        rw [if_neg h3] at h
        split
        · rename_i h5; rw [if_pos h5] at h; cases h
        · rfl
theorem apply_still {rows : List Row} {es en t : Int} (h : (applyR rows es en t).2.2 = false) : (applyR rows es en t).1 = rows := by
  unfold applyR at h ⊢
  split
  · rfl
  · rename_i h1
    rw [if_neg h1] at h
    split
    · rename_i h2; rw [if_pos h2] at h; cases h
    · rename_i h2
      rw [if_neg h2] at h
      split
      · rfl
      · rename_i h3
        rw [if_neg h3] at h
        split
        · rfl
        · rename_i h5; rw [if_neg h5] at h; cases h

/-! there and back -/
theorem rdN_at (s : ByteArray) (pre post : List UInt8) (x : Int) (hl : s.data.toList = pre ++ (Wr.putL x ++ post)) (hx : Wr.isNum x = true) : rdN s ((pre.length : Int), false) = (x, (((pre ++ Wr.putL x).length : Int), false)) := by
  have hg := Wr.getN_put pre post x hx
  rw [← hl] at hg
  have hb := (Wr.isNum_iff x).1 hx
  unfold rdN Pt.rdNum
  simp only
  rw [hg]
  simp only
  rw [if_neg (by rintro (k | k | k | k); exact k rfl; omega; omega; cases k), List.length_append, Int.natCast_add]
theorem rdRow_at (s : ByteArray) (pre post : List UInt8) (r : Row) (hl : s.data.toList = pre ++ (rowL r ++ post)) (hr : fitsB r = true) : rdRow s ((pre.length : Int), false) = (r, (((pre ++ rowL r).length : Int), false)) := by
  unfold fitsB at hr
  simp only [Bool.and_eq_true] at hr
  obtain ⟨⟨⟨h0, h1⟩, h2⟩, h3⟩ := hr
  unfold rowL at hl
  have g0 := rdN_at s pre (Wr.putL r.2.1 ++ (Wr.putL r.2.2.1 ++ (Wr.putL r.2.2.2 ++ post))) r.1 (by rw [hl]; simp) h0
  have g1 := rdN_at s (pre ++ Wr.putL r.1) (Wr.putL r.2.2.1 ++ (Wr.putL r.2.2.2 ++ post)) r.2.1 (by rw [hl]; simp) h1
  have g2 := rdN_at s (pre ++ Wr.putL r.1 ++ Wr.putL r.2.1) (Wr.putL r.2.2.2 ++ post) r.2.2.1 (by rw [hl]; simp) h2
  have g3 := rdN_at s (pre ++ Wr.putL r.1 ++ Wr.putL r.2.1 ++ Wr.putL r.2.2.1) post r.2.2.2 (by rw [hl]; simp) h3
  unfold rdRow rd1
  rw [g0]
  simp only
  rw [g1]
  simp only
  rw [g2]
  simp only
  rw [g3]
  unfold rowL
  simp only [List.append_assoc]
theorem rdK_put (s : ByteArray) (rows : List Row) (pre post : List UInt8) (hl : s.data.toList = pre ++ (rows.flatMap rowL ++ post)) (hr : rows.all fitsB = true) (k : Nat) (hk : k ≤ rows.length) :
    rdK s ((pre.length : Int), false) k = (rows.take k, (((pre ++ (rows.take k).flatMap rowL).length : Int), false)) := by
  induction k with
  | zero => simp [rdK]
  | succ k ih =>
    have hlt : k < rows.length := by omega
    have hfit : fitsB rows[k] = true := List.all_eq_true.1 hr _ (List.getElem_mem _)
    have hsp : rows.flatMap rowL = (rows.take k).flatMap rowL ++ (rowL rows[k] ++ (rows.drop (k + 1)).flatMap rowL) := by
      conv => lhs; rw [← List.take_append_drop k rows, List.drop_eq_getElem_cons hlt]
      rw [List.flatMap_append, List.flatMap_cons]
    have h1 := rdRow_at s (pre ++ (rows.take k).flatMap rowL) ((rows.drop (k + 1)).flatMap rowL ++ post) rows[k] (by rw [hl, hsp]; simp) hfit
    have hsn : (rows.take (k + 1)).flatMap rowL = (rows.take k).flatMap rowL ++ rowL rows[k] := by rw [List.take_succ_eq_append_getElem hlt, List.flatMap_append]; simp
    rw [rdK, ih (by omega)]
    simp only
    rw [h1, hsn, List.take_succ_eq_append_getElem hlt]
    simp only [List.append_assoc]
theorem get_put {rows : List Row} (hm : mayB rows = true) (hf : rows.all fitsB = true) : getR ⟨(rowsL rows).toArray⟩ = (rows, 0) := by
  have h4 := may_len hm
  have hl : (⟨(rowsL rows).toArray⟩ : ByteArray).data.toList = Wr.putL (rows.length : Int) ++ (rows.flatMap rowL ++ []) := by simp [rowsL]
  have hsz : ((⟨(rowsL rows).toArray⟩ : ByteArray).size : Int) = ((Wr.putL (rows.length : Int) ++ rows.flatMap rowL).length : Int) := by
    rw [← Wr.len_list, hl]; simp
  generalize (⟨(rowsL rows).toArray⟩ : ByteArray) = s at *
  have hg := Wr.getN_put [] (rows.flatMap rowL ++ []) (rows.length : Int) ((Wr.isNum_iff _).2 (by omega))
  rw [List.nil_append, ← hl] at hg
  have h0 : Pt.rdNum s 0 4 (0, false) = ((rows.length : Int), (((Wr.putL (rows.length : Int)).length : Int), false)) := by
    unfold Pt.rdNum
    simp only [List.length_nil, Int.natCast_zero, Int.zero_add] at hg ⊢
    rw [hg]
    simp only
    rw [if_neg (by rintro (k | k | k | k); exact k rfl; omega; omega; cases k)]
  have hk := rdK_put s rows (Wr.putL (rows.length : Int)) [] hl hf rows.length (Nat.le_refl _)
  rw [List.take_length] at hk
  unfold getR
  rw [h0]
  simp only [Int.toNat_natCast]
  rw [hk, if_pos ⟨rfl, hsz.symm, hm⟩]
theorem put_ok {rows : List Row} (hm : mayB rows = true) (hf : rows.all fitsB = true) : putR rows = (⟨(rowsL rows).toArray⟩, 0) := by unfold putR; rw [if_pos ⟨hm, hf⟩]
theorem put_no {rows : List Row} (h : mayB rows = false ∨ rows.all fitsB = false) : putR rows = (⟨#[]⟩, 1000) := by
  unfold putR; rw [if_neg]
  rintro ⟨h1, h2⟩
  rcases h with h | h
  · rw [h] at h1; cases h1
  · rw [h] at h2; cases h2
theorem rowL_len (r : Row) : (rowL r).length ≤ 32 := by
  have h1 := Wr.putL_len r.1
  have h2 := Wr.putL_len r.2.1
  have h3 := Wr.putL_len r.2.2.1
  have h4 := Wr.putL_len r.2.2.2
  unfold rowL; simp only [List.length_append]; omega
theorem rows_le (rows : List Row) : (rows.flatMap rowL).length ≤ 32 * rows.length := by
  induction rows with
  | nil => simp
  | cons r rows ih => rw [List.flatMap_cons, List.length_append, List.length_cons]; have := rowL_len r; omega
/-- a reader that is bad stays bad -/
theorem rdN_bad (s : ByteArray) (a : Int) : rdN s (a, true) = (0, (a, true)) := by
  unfold rdN Pt.rdNum; rw [if_pos (.inr (.inr (.inr rfl)))]
theorem rdRow_bad (s : ByteArray) (a : Int) : rdRow s (a, true) = ((0, 0, 0, 0), (a, true)) := by
  unfold rdRow rd1; simp only [rdN_bad]
theorem rdK_bad (s : ByteArray) (st : Pt.St) (k m : Nat) (h : (rdK s st k).2.2 = true) (hm : k ≤ m) : (rdK s st m).2.2 = true := by
  induction m with
  | zero => obtain rfl : k = 0 := by omega
            exact h
  | succ m ih =>
    by_cases e : k = m + 1
    · subst e; exact h
    · have := ih (by omega)
      generalize hq : rdK s st m = q at *
      obtain ⟨l, a, b⟩ := q
      simp only at this
      subst this
      rw [rdK, hq]; simp only; rw [rdRow_bad]
end Go.Proofs.Ytapdlmiioljpgaa.Se
/- The helpers of cachetlaw0 on slices (Same, Copy, Lend, Kept): what they answer where the lists are one. Printed by gen_same.py. -/
namespace Go.Proofs.Ytapdlmiioljpgaa
open Go.RowKit
set_option linter.unusedVariables false

def rowCells (f : Int × Int × Int × Int) : List Value := [.int .i64 f.1, .int .i64 f.2.1, .int .i64 f.2.2.1, .int .i64 f.2.2.2]
set_option maxRecDepth 100000 in
set_option maxHeartbeats 400000 in
theorem sameRows_true (A B : Option Addr) (c d : Nat) (xs : List (Int × Int × Int × Int)) (w : World) (b1 b2 : Nat) (hr : Reads w b1 4 A xs.length (xs.flatMap rowCells)) (hq : Reads w b2 4 B xs.length (xs.flatMap rowCells)) (hn : xs.length ≤ 140737488355328) :
    Calls Try.prog 28 #[.slice A xs.length c, .slice B xs.length d] w fun e w' => e = .returned (.bool true) ∧ ∃ n, w' = w.drewN n := by
  have hl : ((xs.length : Int) != (xs.length : Int)) = false := by simp
  go_enter Try.func28, Try.ntmps28
  go_wp2
  go_loopw [5] (fun i wr => ∃ k n : Nat, k ≤ xs.length ∧ i = .int .i64 (k : Int) ∧ wr = w.drewN n) (fun i _ => xs.length - (intOf i).toNat)
  case atStart => exact ⟨0, 0, Nat.zero_le _, rfl, rfl⟩
  case round =>
    obtain ⟨k, n, hk, rfl, rfl⟩ := hrel
    by_cases hlt : k < xs.length
    · obtain ⟨b, off, rfl, hbl, hc⟩ := hr.2 (by omega)
      obtain ⟨b', off', rfl, hbl', hc'⟩ := hq.2 (by omega)
      have hcell0 : w.cell? ⟨b, off + k * 4, none⟩ = some (.int .i64 xs[k].1) := by have := hc (k * 4 + 0) (.int .i64 xs[k].1) (by rw [flat_at rowCells 4 (fun _ => rfl) xs k 0 hlt (by omega)]; rfl); rwa [← Nat.add_assoc] at this
      have hcell1 : w.cell? ⟨b, off + k * 4 + 1, none⟩ = some (.int .i64 xs[k].2.1) := by have := hc (k * 4 + 1) (.int .i64 xs[k].2.1) (by rw [flat_at rowCells 4 (fun _ => rfl) xs k 1 hlt (by omega)]; rfl); rwa [← Nat.add_assoc] at this
      have hcell2 : w.cell? ⟨b, off + k * 4 + 2, none⟩ = some (.int .i64 xs[k].2.2.1) := by have := hc (k * 4 + 2) (.int .i64 xs[k].2.2.1) (by rw [flat_at rowCells 4 (fun _ => rfl) xs k 2 hlt (by omega)]; rfl); rwa [← Nat.add_assoc] at this
      have hcell3 : w.cell? ⟨b, off + k * 4 + 3, none⟩ = some (.int .i64 xs[k].2.2.2) := by have := hc (k * 4 + 3) (.int .i64 xs[k].2.2.2) (by rw [flat_at rowCells 4 (fun _ => rfl) xs k 3 hlt (by omega)]; rfl); rwa [← Nat.add_assoc] at this
      have hcelq0 : w.cell? ⟨b', off' + k * 4, none⟩ = some (.int .i64 xs[k].1) := by have := hc' (k * 4 + 0) (.int .i64 xs[k].1) (by rw [flat_at rowCells 4 (fun _ => rfl) xs k 0 hlt (by omega)]; rfl); rwa [← Nat.add_assoc] at this
      have hcelq1 : w.cell? ⟨b', off' + k * 4 + 1, none⟩ = some (.int .i64 xs[k].2.1) := by have := hc' (k * 4 + 1) (.int .i64 xs[k].2.1) (by rw [flat_at rowCells 4 (fun _ => rfl) xs k 1 hlt (by omega)]; rfl); rwa [← Nat.add_assoc] at this
      have hcelq2 : w.cell? ⟨b', off' + k * 4 + 2, none⟩ = some (.int .i64 xs[k].2.2.1) := by have := hc' (k * 4 + 2) (.int .i64 xs[k].2.2.1) (by rw [flat_at rowCells 4 (fun _ => rfl) xs k 2 hlt (by omega)]; rfl); rwa [← Nat.add_assoc] at this
      have hcelq3 : w.cell? ⟨b', off' + k * 4 + 3, none⟩ = some (.int .i64 xs[k].2.2.2) := by have := hc' (k * 4 + 3) (.int .i64 xs[k].2.2.2) (by rw [flat_at rowCells 4 (fun _ => rfl) xs k 3 hlt (by omega)]; rfl); rwa [← Nat.add_assoc] at this
      have tt := trivial
      clear hc hc' hr hq
      go_wp2
      go_quiet (fail)
      go_wp2
      go_roundw
      case rel => exact ⟨k + 1, n + nq, by omega, by go_num, rfl⟩
      case measure => simp [intOf]; omega
    · clear hr hq
      go_wp2
      go_ret
      exact ⟨rfl, _, rfl⟩

theorem info_copyRows : (Try.prog.info? 109).map (fun i => (i.zero, i.size, i.bytes)) = some (some (.agg #[.int .i64 0, .int .i64 0, .int .i64 0, .int .i64 0]), 4, 32) := by kernel_rfl
set_option maxRecDepth 100000 in
set_option maxHeartbeats 400000 in
theorem copyRows_any (A : Option Addr) (c : Nat) (xs : List (Int × Int × Int × Int)) (w : World) (b1 : Nat) (hr : Reads w b1 4 A xs.length (xs.flatMap rowCells)) (hB : b1 ≤ w.heap.size) (hn : xs.length * 32 ≤ 140737488355328) :
    Calls Try.prog 71 #[.slice A xs.length c] w fun e w' => ∃ v, e = .returned v ∧ w'.ownsRow w.heap.size 109 4 v xs.length (xs.flatMap rowCells) ∧ Below w.heap.size w w' := by
  obtain ⟨i0, hi, hz0, hz1, hz2⟩ := info_parts info_copyRows
  have hown0 := own_empty w w.heap.size 109 4 (Nat.le_refl _)
  have hr1 := hr.alloc hB (.cells #[] 109)
  have hb0 : Below w.heap.size w (w.alloc (.cells #[] 109)) := (Below.refl _ _).alloc (Nat.le_refl _) _
  go_enter Try.func71, Try.ntmps71
  go_wp2_with (at_builtin; refine wpList_append_all _ rfl _ _ 41 rfl w.heap.size 109 i0 _ 4 32 Try.underlying41 hi hz0 hz1 hz2 rfl (by decide) _ 0 [] (by rfl) hown0 b1 A xs.length c (xs.flatMap rowCells) (by rfl) hr1 (fun u hu => by simp only [List.mem_flatMap, rowCells, List.mem_cons, List.not_mem_nil, or_false] at hu; obtain ⟨x, _, hu⟩ := hu; rcases hu with rfl | rfl | rfl | rfl <;> rfl) (by unfold maxLen; omega) (by omega) w hb0 (by simp) ?_; intro v1 w1 hown1 hb1 _)
  go_ret
  exact ⟨_, rfl, by simpa using hown1, hb1⟩

def roomRows : List Value := [.int .i64 77777, .int .i64 0, .int .i64 0, .int .i64 0, .int .i64 77777, .int .i64 0, .int .i64 0, .int .i64 0]
set_option maxRecDepth 100000 in
set_option maxHeartbeats 400000 in
theorem lendRows_any (A : Option Addr) (c : Nat) (xs : List (Int × Int × Int × Int)) (w : World) (b1 : Nat) (hr : Reads w b1 4 A xs.length (xs.flatMap rowCells)) (hB : b1 ≤ w.heap.size) (hn : xs.length * 32 ≤ 140737488351232) :
    Calls Try.prog 25 #[.slice A xs.length c] w fun e w' => ∃ g cap, e = .returned (.slice (some ⟨g, 0, none⟩) xs.length cap) ∧ w.heap.size ≤ g ∧ xs.length + 2 ≤ cap ∧ cap ≤ maxLen ∧
      w'.ownsRow w.heap.size 109 4 (.slice (some ⟨g, 0, none⟩) (xs.length + 2) cap) (xs.length + 2) ((xs.flatMap rowCells) ++ roomRows) ∧ Below w.heap.size w w' := by
  obtain ⟨i0, hi, hz0, hz1, hz2⟩ := info_parts info_copyRows
  go_enter Try.func25, Try.ntmps25
  go_wp2_with fail
  refine (copyRows_any A c xs w b1 hr hB (by omega)).mono ?_
  rintro e w1 ⟨v, rfl, hown, hb⟩
  go_wp2_with (at_builtin; refine wpList_pushes _ rfl _ _ 41 rfl w.heap.size 109 i0 _ 4 32 Try.underlying41 hi hz0 hz1 hz2 rfl (by decide) _ xs.length _ (by rfl) hown 2 roomRows (by rfl) rfl (by simp [roomRows, Value.oneCell']) (by unfold maxLen; omega) (by omega) w hb hb.size ?_; intro v2 w2 hown2 hb2; obtain ⟨g, cap, hv, hg, hlt⟩ := hown2.form (by omega); subst hv; obtain ⟨hcap, hmax⟩ := own_cap hown2; have hc1 : xs.length ≤ cap := by omega)
  go_ret
  exact ⟨g, cap, rfl, hg, hcap, hmax, hown2, hb2⟩

set_option maxRecDepth 100000 in
set_option maxHeartbeats 400000 in
theorem keptRows_true (A : Option Addr) (g c cap : Nat) (xs : List (Int × Int × Int × Int)) (w : World) (b1 b2 : Nat) (hr : Reads w b1 4 (some ⟨g, 0, none⟩) (xs.length + 2) ((xs.flatMap rowCells) ++ roomRows)) (hq : Reads w b2 4 A xs.length (xs.flatMap rowCells)) (hcap : xs.length + 2 ≤ cap) (hn : xs.length ≤ 140737488355328) :
    Calls Try.prog 29 #[.slice (some ⟨g, 0, none⟩) xs.length cap, .slice A xs.length c] w fun e w' => e = .returned (.bool true) ∧ ∃ n, w' = w.drewN n := by
  have hLl : (xs.flatMap rowCells).length = xs.length * 4 := flat_length rowCells 4 (fun _ => rfl) xs
  have hr1 : Reads w b1 4 (some ⟨g, 0, none⟩) xs.length (xs.flatMap rowCells) := hr.head hLl
  obtain ⟨b, off, hbo, hbl, hcr⟩ := hr.2 (by omega)
  obtain ⟨rfl, rfl⟩ : g = b ∧ 0 = off := by injection hbo with hbo; injection hbo with h1 h2; exact ⟨h1, h2⟩
  have hm0 : w.cell? ⟨g, xs.length * 4, none⟩ = some (.int .i64 77777) := by have := hcr (xs.length * 4 + 0) (.int .i64 77777) (by rw [List.getElem?_append_right (by rw [hLl]; omega), hLl, Nat.add_sub_cancel_left]; try rfl); rw [Nat.zero_add] at this; first | exact this | (rw [← this]; congr 2 <;> first | rfl | omega)
  have hm1 : w.cell? ⟨g, xs.length * 4 + 1, none⟩ = some (.int .i64 0) := by have := hcr (xs.length * 4 + 1) (.int .i64 0) (by rw [List.getElem?_append_right (by rw [hLl]; omega), hLl, Nat.add_sub_cancel_left]; try rfl); rw [Nat.zero_add] at this; first | exact this | (rw [← this]; congr 2 <;> first | rfl | omega)
  have hm2 : w.cell? ⟨g, xs.length * 4 + 2, none⟩ = some (.int .i64 0) := by have := hcr (xs.length * 4 + 2) (.int .i64 0) (by rw [List.getElem?_append_right (by rw [hLl]; omega), hLl, Nat.add_sub_cancel_left]; try rfl); rw [Nat.zero_add] at this; first | exact this | (rw [← this]; congr 2 <;> first | rfl | omega)
  have hm3 : w.cell? ⟨g, xs.length * 4 + 3, none⟩ = some (.int .i64 0) := by have := hcr (xs.length * 4 + 3) (.int .i64 0) (by rw [List.getElem?_append_right (by rw [hLl]; omega), hLl, Nat.add_sub_cancel_left]; try rfl); rw [Nat.zero_add] at this; first | exact this | (rw [← this]; congr 2 <;> first | rfl | omega)
  have hm4 : w.cell? ⟨g, (xs.length + 1) * 4, none⟩ = some (.int .i64 77777) := by have := hcr (xs.length * 4 + 4) (.int .i64 77777) (by rw [List.getElem?_append_right (by rw [hLl]; omega), hLl, Nat.add_sub_cancel_left]; try rfl); rw [Nat.zero_add] at this; first | exact this | (rw [← this]; congr 2 <;> first | rfl | omega)
  have hm5 : w.cell? ⟨g, (xs.length + 1) * 4 + 1, none⟩ = some (.int .i64 0) := by have := hcr (xs.length * 4 + 5) (.int .i64 0) (by rw [List.getElem?_append_right (by rw [hLl]; omega), hLl, Nat.add_sub_cancel_left]; try rfl); rw [Nat.zero_add] at this; first | exact this | (rw [← this]; congr 2 <;> first | rfl | omega)
  have hm6 : w.cell? ⟨g, (xs.length + 1) * 4 + 2, none⟩ = some (.int .i64 0) := by have := hcr (xs.length * 4 + 6) (.int .i64 0) (by rw [List.getElem?_append_right (by rw [hLl]; omega), hLl, Nat.add_sub_cancel_left]; try rfl); rw [Nat.zero_add] at this; first | exact this | (rw [← this]; congr 2 <;> first | rfl | omega)
  have hm7 : w.cell? ⟨g, (xs.length + 1) * 4 + 3, none⟩ = some (.int .i64 0) := by have := hcr (xs.length * 4 + 7) (.int .i64 0) (by rw [List.getElem?_append_right (by rw [hLl]; omega), hLl, Nat.add_sub_cancel_left]; try rfl); rw [Nat.zero_add] at this; first | exact this | (rw [← this]; congr 2 <;> first | rfl | omega)
  clear hcr hr hbo hLl
  go_enter Try.func29, Try.ntmps29
  go_wp2_with fail
  refine (sameRows_true _ _ cap c xs w b1 b2 hr1 hq hn).mono ?_
  rintro e w1 ⟨rfl, n1, rfl⟩
  clear hr1 hq
  go_wp2_with fail
  go_ret
  exact ⟨rfl, _, rfl⟩

end Go.Proofs.Ytapdlmiioljpgaa
/- A cell of a row of the call's own, written. -/
namespace Go.Proofs.Ytapdlmiioljpgaa
open Go.RowKit
set_option linter.unusedVariables false

theorem own_set {w : World} {base g : Nat} {e : TypeId} {size n cap : Nat} {xs : List Value} (h : w.ownsRow base e size (.slice (some ⟨g, 0, none⟩) n cap) n xs) (j : Nat) (u : Value) :
    (w.setCell ⟨g, j, none⟩ u).ownsRow base e size (.slice (some ⟨g, 0, none⟩) n cap) n (xs.set j u) := by
  refine ⟨by rw [List.length_set]; exact h.1, ?_⟩
  rcases h.2 with ⟨hv, _⟩ | ⟨g', cap', cur, hv, hg, hh, hnc, hcm, hcs, hx⟩
  · cases hv
  · injection hv with e1 e2 e3
    injection e1 with e1
    injection e1 with e1
    subst e1; subst e3
    have hB : Blk w g e cur := hh
    exact .inr ⟨g, cap, cur.setIfInBounds j u, rfl, hg, hB.set_ j u, hnc, hcm, by rw [Array.size_setIfInBounds]; exact hcs, by rw [Array.toList_setIfInBounds, List.take_set, hx]⟩
theorem own_frozen {w : World} {base g : Nat} {e : TypeId} {size n cap : Nat} {xs : List Value} (h : w.ownsRow base e size (.slice (some ⟨g, 0, none⟩) n cap) n xs) (j : Nat) : w.frozen? ⟨g, j, none⟩ = false := by
  rcases h.2 with ⟨hv, _⟩ | ⟨g', cap', cur, hv, hg, hh, hnc, hcm, hcs, hx⟩
  · cases hv
  · injection hv with e1 e2 e3
    injection e1 with e1
    injection e1 with e1
    subst e1
    have hB : Blk w g e cur := hh
    exact hB.frozen j
/-- the row's form where it is not empty -/
theorem own_some {w : World} {base : Nat} {e : TypeId} {size n cap : Nat} {A : Option Addr} {xs : List Value} (h : w.ownsRow base e size (.slice A n cap) n xs) (hn : 0 < n) : ∃ g, A = some ⟨g, 0, none⟩ ∧ base ≤ g ∧ g < w.heap.size := by
  obtain ⟨g, c, hv, hg, hlt⟩ := h.form hn
  injection hv with e1 e2 e3
  exact ⟨g, e1, hg, hlt⟩
theorem own_cell {w : World} {base g : Nat} {e : TypeId} {size n cap : Nat} {xs : List Value} (h : w.ownsRow base e size (.slice (some ⟨g, 0, none⟩) n cap) n xs) {j : Nat} {u : Value} (hu : xs[j]? = some u) : w.cell? ⟨g, j, none⟩ = some u := by
  have := h.cells (g := g) rfl j u hu
  rwa [add_mk, Nat.zero_add] at this
theorem flat_set {α : Type} (f : α → List Value) (size : Nat) (hf : ∀ x, (f x).length = size) (xs : List α) (k j : Nat) (y : α) (u : Value) (hk : k < xs.length) (hj : j < size) (hy : f y = (f xs[k]).set j u) : (xs.flatMap f).set (k * size + j) u = (xs.set k y).flatMap f := by
  induction xs generalizing k with
  | nil => simp at hk
  | cons x xs ih =>
    cases k with
    | zero =>
      rw [List.flatMap_cons, Nat.zero_mul, Nat.zero_add, List.set_append, if_pos (by rw [hf]; exact hj), List.set_cons_zero, List.flatMap_cons, hy]; rfl
    | succ k =>
      rw [List.flatMap_cons, List.set_append, if_neg (by rw [hf, Nat.add_mul]; omega), hf, show (k + 1) * size + j - size = k * size + j from by rw [Nat.add_mul]; omega, List.set_cons_succ, List.flatMap_cons, ih k (by simpa using hk) (by simpa using hy)]
end Go.Proofs.Ytapdlmiioljpgaa
/- Rows of the call's own: cut, drawn out into their room, written over cell by cell; copy, append in place and clear on elements of several cells. Of no program. (The runs of copy and clear are worked out after the kit's laws at one cell.) -/
namespace Go.Proofs.Ytapdlmiioljpgaa
open Go.RowKit
set_option linter.unusedVariables false

section
variable {w : World} {base g : Nat} {e : TypeId} {size n cap : Nat} {xs : List Value}
theorem own_parts (h : w.ownsRow base e size (.slice (some ⟨g, 0, none⟩) n cap) n xs) : ∃ cur, base ≤ g ∧ Blk w g e cur ∧ n ≤ cap ∧ cap ≤ maxLen ∧ cur.size = cap * size ∧ cur.toList.take (n * size) = xs := by
  rcases h.2 with ⟨hv, _⟩ | ⟨g', cap', cur, hv, hg, hh, hnc, hcm, hcs, hx⟩
  · cases hv
  · injection hv with e1 e2 e3
    injection e1 with e1
    injection e1 with e1
    subst e1; subst e3
    exact ⟨cur, hg, hh, hnc, hcm, hcs, hx⟩
theorem own_of_parts {cur : Array Value} (hg : base ≤ g) (hh : Blk w g e cur) (hnc : n ≤ cap) (hcm : cap ≤ maxLen) (hcs : cur.size = cap * size) (hx : cur.toList.take (n * size) = xs) : w.ownsRow base e size (.slice (some ⟨g, 0, none⟩) n cap) n xs := by
  refine ⟨?_, .inr ⟨g, cap, cur, rfl, hg, hh, hnc, hcm, hcs, hx⟩⟩
  rw [← hx, List.length_take, Array.length_toList, hcs]
  exact Nat.min_eq_left (Nat.mul_le_mul_right _ hnc)
theorem own_cut (h : w.ownsRow base e size (.slice (some ⟨g, 0, none⟩) n cap) n xs) (i : Nat) (hi : i ≤ n) : w.ownsRow base e size (.slice (some ⟨g, 0, none⟩) i cap) i (xs.take (i * size)) := by
  obtain ⟨cur, hg, hh, hnc, hcm, hcs, hx⟩ := own_parts h
  refine own_of_parts hg hh (by omega) hcm hcs ?_
  rw [← hx, List.take_take, Nat.min_eq_left (Nat.mul_le_mul_right _ hi)]
theorem own_extend (h : w.ownsRow base e size (.slice (some ⟨g, 0, none⟩) n cap) n xs) (m : Nat) (hm : n + m ≤ cap) : ∃ ys : List Value, ys.length = m * size ∧ w.ownsRow base e size (.slice (some ⟨g, 0, none⟩) (n + m) cap) (n + m) (xs ++ ys) := by
  obtain ⟨cur, hg, hh, hnc, hcm, hcs, hx⟩ := own_parts h
  have hle : (n + m) * size ≤ cap * size := Nat.mul_le_mul_right _ hm
  have hadd : (n + m) * size = n * size + m * size := Nat.add_mul _ _ _
  refine ⟨(cur.toList.take ((n + m) * size)).drop (n * size), ?_, ?_⟩
  · rw [List.length_drop, List.length_take, Array.length_toList, hcs]; omega
  · refine own_of_parts hg hh hm hcm hcs ?_
    have := List.take_append_drop (n * size) (cur.toList.take ((n + m) * size))
    rw [List.take_take, Nat.min_eq_left (by omega), hx] at this
    exact this.symm
theorem own_some_cell (h : w.ownsRow base e size (.slice (some ⟨g, 0, none⟩) n cap) n xs) (j : Nat) (hj : j < cap * size) : (w.cell? ⟨g, j, none⟩).isSome = true := by
  obtain ⟨cur, hg, hh, hnc, hcm, hcs, hx⟩ := own_parts h
  rw [hh.cell, Array.getElem?_eq_getElem (by omega)]; rfl
def setL : List Value → Nat → List Value → List Value
  | xs, _, [] => xs
  | xs, o, v :: r => setL (xs.set o v) (o + 1) r
theorem setL_len (vs : List Value) (xs : List Value) (o : Nat) : (setL xs o vs).length = xs.length := by
  induction vs generalizing xs o with
  | nil => rfl
  | cons v r ih => rw [setL, ih, List.length_set]
theorem setL_eq (vs : List Value) (xs : List Value) (o : Nat) (h : o + vs.length ≤ xs.length) : setL xs o vs = xs.take o ++ vs ++ xs.drop (o + vs.length) := by
  induction vs generalizing xs o with
  | nil => simp [setL]
  | cons v r ih =>
    rw [List.length_cons] at h
    rw [setL, ih _ _ (by rw [List.length_set]; omega), List.length_cons, show o + (r.length + 1) = o + 1 + r.length from by omega,
      List.drop_set_of_lt (by omega), List.take_succ_eq_append_getElem (by rw [List.length_set]; omega), List.getElem_set_self, List.take_set_of_le (by omega)]
    simp
theorem setL_past (vs : List Value) (xs : List Value) (o : Nat) (h : xs.length ≤ o) : setL xs o vs = xs := by
  induction vs generalizing xs o with
  | nil => rfl
  | cons v r ih => rw [setL, List.set_eq_of_length_le h, ih _ _ (by omega)]
theorem ins_cells (xs ys zs : List Value) (a K : Nat) (hy : ys.length = K) (hz : zs.length = K) (ha : a ≤ xs.length) : setL (setL (xs ++ zs) (a + K) (xs.drop a)) a ys = xs.take a ++ (ys ++ xs.drop a) := by
  have h1 : setL (xs ++ zs) (a + K) (xs.drop a) = (xs ++ zs).take (a + K) ++ xs.drop a := by
    have hd : (xs ++ zs).drop (a + K + (xs.drop a).length) = [] := List.drop_eq_nil_of_le (by rw [List.length_append, List.length_drop, hz]; omega)
    rw [setL_eq _ _ _ (by rw [List.length_append, List.length_drop, hz]; omega), hd, List.append_nil]
  have hl : ((xs ++ zs).take (a + K)).length = a + K := by rw [List.length_take, List.length_append, hz]; omega
  rw [h1, setL_eq _ _ _ (by rw [List.length_append, hl, hy]; omega), List.take_append_of_le_length (by omega), List.take_take, Nat.min_eq_left (by omega), List.take_append_of_le_length ha, hy, List.drop_left' hl, List.append_assoc]
theorem del_cells (xs : List Value) (a K : Nat) (ha : a + K ≤ xs.length) : (setL xs a (xs.drop (a + K))).take (xs.length - K) = xs.take a ++ xs.drop (a + K) := by
  have hl : (xs.take a).length = a := by rw [List.length_take]; omega
  rw [setL_eq _ _ _ (by rw [List.length_drop]; omega)]
  refine List.take_left' ?_
  rw [List.length_append, hl, List.length_drop]; omega
theorem ins_cells2 (xs ys zz : List Value) (a K : Nat) (hy : ys.length = K) (ha : a ≤ xs.length) (hz : zz.length = xs.length - a + K) : setL (setL (xs.take a ++ zz) a ys) (a + K) (xs.drop a) = xs.take a ++ (ys ++ xs.drop a) := by
  have hl : (xs.take a).length = a := by rw [List.length_take]; omega
  have h1 : setL (xs.take a ++ zz) a ys = xs.take a ++ (ys ++ zz.drop K) := by
    rw [setL_eq _ _ _ (by rw [List.length_append, hl, hy, hz]; omega), List.take_left' hl, hy, List.drop_append, List.drop_eq_nil_of_le (by omega), List.nil_append, hl, show a + K - a = K from by omega, List.append_assoc]
  have h2 : (xs.take a ++ ys).length = a + K := by rw [List.length_append, hl, hy]
  have h3 : (xs.take a ++ (ys ++ zz.drop K)).length = a + K + (xs.drop a).length := by rw [← List.append_assoc, List.length_append, h2, List.length_drop, List.length_drop, hz]; omega
  rw [h1, setL_eq _ _ _ (by rw [h3]; exact Nat.le_refl _)]
  have h4 : (xs.take a ++ (ys ++ zz.drop K)).drop (a + K + (xs.drop a).length) = [] := List.drop_eq_nil_of_le (by rw [h3]; exact Nat.le_refl _)
  rw [h4, List.append_nil, ← List.append_assoc, List.take_left' h2, List.append_assoc]
theorem own_setCells (vs : List Value) (o : Nat) (h : w.ownsRow base e size (.slice (some ⟨g, 0, none⟩) n cap) n xs) : (w.setCells g o vs).ownsRow base e size (.slice (some ⟨g, 0, none⟩) n cap) n (setL xs o vs) := by
  induction vs generalizing w xs o with
  | nil => exact h
  | cons v r ih => exact ih (o + 1) (own_set h o v)
theorem size_setCells (vs : List Value) (w : World) (o : Nat) : (w.setCells g o vs).heap.size = w.heap.size := by
  induction vs generalizing w o with
  | nil => rfl
  | cons v r ih => rw [World.setCells, ih]; simp
theorem only_setCells (vs : List Value) (w : World) (o : Nat) : Only (fun k => k = g) w (w.setCells g o vs) := by
  induction vs generalizing w o with
  | nil => exact Only.refl _ _
  | cons v r ih => exact ((Only.refl (fun k => k = g) w).setCell (fun _ => rfl) _).trans (ih _ _) (fun _ _ h => h)
theorem Blk.shape {cur : Array Value} (h : Blk w g e cur) : w.shape? g = some (e, cur.size) := by unfold Blk at h; unfold World.shape?; rw [h]
end

section
variable {P : Program}
/-- copy on elements of several cells: all is read before anything is written -/
theorem run_copy_k (w : World) (dT sT ty elem : TypeId) (size : Nat) (b o dLen dCap : Nat) (a : Addr) (sLen sCap : Nat) (cs : List Value)
    (hu : P.underlying dT = some (.slice elem)) (hs : (P.info? elem).map (·.size) = some size) (hn : cs.length = Nat.min sLen dLen * size)
    (hsrc : ∀ j v, cs[j]? = some v → w.cell? (a.add j) = some v) (hc : ∀ j, j < cs.length → (w.cell? ⟨b, o + j, none⟩).isSome = true) (hf : ∀ j, j < cs.length → w.frozen? ⟨b, o + j, none⟩ = false) (h1 : ∀ v ∈ cs, v.oneCell' = true) :
    (Builtin.copy_ #[dT, sT] ty #[.slice (some ⟨b, o, none⟩) dLen dCap, .slice (some a) sLen sCap]).run P w = .ok (goInt (Nat.min sLen dLen)) (w.setCells b o cs) := by
  have hl := run_loadCells_list (P := P) w a cs hsrc
  have hst := run_storeCells_cells (P := P) b o cs 0 w (by simpa using hc) (by simpa using hf) h1
  cases hq : P.info? elem with
  | none => simp [hq] at hs
  | some i =>
    have hi : i.size = size := by simpa [hq] using hs
    simp [Builtin.copy_, run_underlying hu, Builtin.lenOf, Builtin.firstCells, sizeOf, typeInfo, hq, hi, ← hn, hl, hst]
theorem wp_copy_at (w : World) {o : Oper} {a : Act} {K : Act → World → Prop} {Q : Exit → Act → World → Prop} (d s : Operand) (t t' : TypeId)
    (ho : o.op = .call { callee := .builtin .copy, args := #[d, s], argTypes := #[t, t'] }) (v u : Value) (hd : a.eval d = v) (hs : a.eval s = u) {v' : Value} {w' : World}
    (hr : (Builtin.copy_ #[t, t'] o.type #[v, u]).run P w = .ok v' w') (h : K (a.put o.dst v') w') : o.wp P a w K Q := by
  unfold Oper.wp execOp
  simp only [ho, resolve, invoke, builtin, Sem.run_bind, Sem.run_pure, Result.andThen_ok, List.map_toArray, List.map_cons, List.map_nil, hd, hs, hr]
  exact h
theorem wpList_copy_at (w : World) {ops : Array Oper} {rest : List Oper} {o : Oper} {a : Act} {Q : Exit → Act → World → Prop} (hgd : o.guard = none) (d s : Operand) (t t' : TypeId)
    (ho : o.op = .call { callee := .builtin .copy, args := #[d, s], argTypes := #[t, t'] }) (v u : Value) (hd : a.eval d = v) (hs : a.eval s = u) {v' : Value} {w' : World}
    (hr : (Builtin.copy_ #[t, t'] o.type #[v, u]).run P w = .ok v' w') (h : wpList P ops Q rest (a.put o.dst v') w') : wpList P ops Q (o :: rest) a w :=
  wpList_plain hgd fun _ hK => wp_copy_at w d s t t' ho v u hd hs hr (hK _ _ h)
theorem step_copy_at {ops : Array Oper} {o : Oper} {a : Act} {w : World} {K : Act → World → Prop} {Q : Exit → Act → World → Prop} {E : Prop}
    (hg : o.guard = none) (d x : Operand) (dT sT : TypeId) (hop : o.op = Op.call { callee := Callee.builtin Builtin.copy, args := #[d, x], argTypes := #[dT, sT] })
    (v u : Value) (hd : a.eval d = v) (hx : a.eval x = u) {v' : Value} {w' : World} (hr : (Builtin.copy_ #[dT, sT] o.type #[v, u]).run P w = .ok v' w') (hK : K (a.put o.dst v') w') :
    if Region.wanted o (yielded ops a.tmps) = true then Oper.wp P o a w K Q else E := by
  have hw : Region.wanted o (yielded ops a.tmps) = true := by simp [Region.wanted, hg]
  rw [if_pos hw]
  unfold Oper.wp
  simp [execOp, hop, resolve, invoke, builtin, hd, hx, hr, Result.andThen]
  exact hK
theorem step_append_at {ops : Array Oper} {o : Oper} {a : Act} {w : World} {K : Act → World → Prop} {Q : Exit → Act → World → Prop} {E : Prop}
    (hg : o.guard = none) (d x : Operand) (dT sT : TypeId) (hop : o.op = Op.call { callee := Callee.builtin Builtin.append, args := #[d, x], argTypes := #[dT, sT] })
    (v u : Value) (hd : a.eval d = v) (hx : a.eval x = u) {v' : Value} {w' : World} (hr : (Builtin.append_ #[dT, sT] o.type #[v, u]).run P w = .ok v' w') (hK : K (a.put o.dst v') w') :
    if Region.wanted o (yielded ops a.tmps) = true then Oper.wp P o a w K Q else E := by
  have hw : Region.wanted o (yielded ops a.tmps) = true := by simp [Region.wanted, hg]
  rw [if_pos hw]
  unfold Oper.wp
  simp [execOp, hop, resolve, invoke, builtin, hd, hx, hr, Result.andThen]
  exact hK
/-- append in place -/
theorem run_append_room (w : World) (t t' ty e : TypeId) (i : TypeInfo) (ht : P.underlying t = some (.slice e)) (ht' : P.underlying t' = some (.slice e)) (hi : P.info? e = some i) (b n c : Nat) (a : Addr) (m mc : Nat) (cs : List Value)
    (hroom : n + m ≤ c) (hl : cs.length = m * i.size) (hsrc : ∀ j v, cs[j]? = some v → w.cell? (a.add j) = some v) (hc : ∀ j, j < cs.length → (w.cell? ⟨b, n * i.size + j, none⟩).isSome = true) (hf : ∀ j, j < cs.length → w.frozen? ⟨b, n * i.size + j, none⟩ = false) (h1 : ∀ v ∈ cs, v.oneCell' = true) :
    (Builtin.append_ #[t, t'] ty #[.slice (some ⟨b, 0, none⟩) n c, .slice (some a) m mc]).run P w = .ok (.slice (some ⟨b, 0, none⟩) (n + m) c) (w.setCells b (n * i.size) cs) := by
  have hld := run_loadCells_list (P := P) w a cs hsrc
  have hst := run_storeCells_cells (P := P) b (n * i.size) cs 0 w (by simpa using hc) (by simpa using hf) h1
  have hz : (⟨b, 0, none⟩ : Addr).add (n * i.size) = ⟨b, n * i.size, none⟩ := by rw [add_mk, Nat.zero_add]
  rw [hl] at hld
  simp [Builtin.append_, run_underlying ht, run_underlying ht', sizeOf, typeInfo, hi, Builtin.lenOf, Builtin.firstCells, hroom, hld, hz, hst]
theorem run_clear_k (w : World) (t e ty : TypeId) (z : Value) (size : Nat) (ht : P.underlying t = some (.slice e)) (hv : ∀ w, (zeroValue e).run P w = .ok z w) (hzs : z.cells.size = size) (h1 : ∀ v ∈ z.cells, v.oneCell' = true) (b o n c : Nat) (hn : 0 < n) (hsz : 0 < size)
    (hc : ∀ j, j < n * size → (w.cell? ⟨b, o + j, none⟩).isSome = true) (hf : ∀ j, j < n * size → w.frozen? ⟨b, o + j, none⟩ = false) :
    (Builtin.clear_ #[t] ty #[.slice (some ⟨b, o, none⟩) n c]).run P w = .ok (.tuple #[]) (w.setCells b o (Builtin.zeroCells z.cells n).toList) := by
  have hlen : (Builtin.zeroCells z.cells n).toList.length = n * size := by simp [Builtin.zeroCells, hzs]
  have hst := run_storeCells_cells (P := P) b o (Builtin.zeroCells z.cells n).toList 0 w (by rw [hlen]; simpa using hc) (by rw [hlen]; simpa using hf) (by
    intro v hv'
    unfold Builtin.zeroCells at hv'
    simp only [Array.toList_map, List.mem_map] at hv'
    obtain ⟨j, _, rfl⟩ := hv'
    have hlt : j % z.cells.size < z.cells.size := Nat.mod_lt _ (by omega)
    rw [getElem!_pos z.cells _ hlt]
    exact h1 _ (Array.getElem_mem hlt))
  simp only [Nat.add_zero] at hst
  obtain ⟨m, rfl⟩ : ∃ m, n = m + 1 := ⟨n - 1, by omega⟩
  simp [Builtin.clear_, run_underlying ht, hv, hst]
end
end Go.Proofs.Ytapdlmiioljpgaa
/- Which tables may be, a session's place, copies: the walks through session.may, find and their reference (chapter 10). -/
namespace Go.Proofs.Ytapdlmiioljpgaa
open Go.RowKit
set_option linter.unusedVariables false

theorem info_srow : (Try.prog.info? 109).map (fun i => (i.zero, i.size, i.bytes)) = some (some (.agg #[.int .i64 0, .int .i64 0, .int .i64 0, .int .i64 0]), 4, 32) := by kernel_rfl
theorem row_cells {w wr : World} {B b off k : Nat} {ps : List Se.Row} (hlt : k < ps.length) (hc : ∀ j u, (ps.flatMap rowCells)[j]? = some u → w.cell? ⟨b, off + j, none⟩ = some u) (hk : ∀ p : Addr, p.block < B → wr.cell? p = w.cell? p) (hb : b < B) :
    wr.cell? ⟨b, off + k * 4, none⟩ = some (.int .i64 ps[k].1) ∧ wr.cell? ⟨b, off + k * 4 + 1, none⟩ = some (.int .i64 ps[k].2.1) ∧ wr.cell? ⟨b, off + k * 4 + 2, none⟩ = some (.int .i64 ps[k].2.2.1) ∧ wr.cell? ⟨b, off + k * 4 + 3, none⟩ = some (.int .i64 ps[k].2.2.2) := by
  refine ⟨?_, ?_, ?_, ?_⟩
  · rw [hk ⟨b, _, none⟩ hb]; have := hc (k * 4 + 0) (.int .i64 ps[k].1) (by rw [flat_at rowCells 4 (fun _ => rfl) ps k 0 hlt (by omega)]; rfl); rwa [← Nat.add_assoc] at this
  · rw [hk ⟨b, _, none⟩ hb]; have := hc (k * 4 + 1) (.int .i64 ps[k].2.1) (by rw [flat_at rowCells 4 (fun _ => rfl) ps k 1 hlt (by omega)]; rfl); rwa [← Nat.add_assoc] at this
  · rw [hk ⟨b, _, none⟩ hb]; have := hc (k * 4 + 2) (.int .i64 ps[k].2.2.1) (by rw [flat_at rowCells 4 (fun _ => rfl) ps k 2 hlt (by omega)]; rfl); rwa [← Nat.add_assoc] at this
  · rw [hk ⟨b, _, none⟩ hb]; have := hc (k * 4 + 3) (.int .i64 ps[k].2.2.2) (by rw [flat_at rowCells 4 (fun _ => rfl) ps k 3 hlt (by omega)]; rfl); rwa [← Nat.add_assoc] at this
theorem may_done {ps : List Se.Row} {k : Nat} (h4 : ps.length ≤ 4) (hk : ¬ k < ps.length) (hk2 : k ≤ ps.length) (ha : (List.range k).all (Se.upB ps) = true) : Se.mayB ps = true := by
  obtain rfl : k = ps.length := by omega
  unfold Se.mayB; rw [ha, decide_eq_true h4]; rfl
theorem up_yes {ps : List Se.Row} {j : Nat} (hj : j + 1 < ps.length) (h : ¬ ps[j + 1].1 ≤ (ps[j]'(by omega)).1) : Se.upB ps (j + 1) = true := by
  unfold Se.upB; rw [Nat.add_sub_cancel, Se.getD_lt (by omega), Se.getD_lt hj, decide_eq_false (by omega), decide_eq_true (by omega)]; rfl
theorem up_no {ps : List Se.Row} {j : Nat} (hj : j + 1 < ps.length) (h : ps[j + 1].1 ≤ (ps[j]'(by omega)).1) : Se.mayB ps = false := by
  refine Se.range_stop hj ?_
  unfold Se.upB; rw [Nat.add_sub_cancel, Se.getD_lt (by omega), Se.getD_lt hj, decide_eq_false (by omega), decide_eq_false (by omega)]; rfl
theorem may_long {ps : List Se.Row} (h : ¬ ps.length ≤ 4) : Se.mayB ps = false := by unfold Se.mayB; rw [decide_eq_false h]; rfl
theorem cell_keep {w : World} {p : Addr} {u : Value} (o : Obj) (h : w.cell? p = some u) : (w.alloc o).cell? p = some u := (World.cell?_alloc_lt w o p (World.block_lt_of_cell? w _ h)).trans h
/-- the world as it was, but for draws -/
def Drawn (w w' : World) : Prop := ∃ n, w' = w.drewN n
theorem Drawn.below {w w' : World} (h : Drawn w w') (B : Nat) : Below B w w' := by obtain ⟨n, rfl⟩ := h; exact below_drewN (Below.refl _ _) n
theorem Drawn.cell {w w' : World} (h : Drawn w w') (p : Addr) : w'.cell? p = w.cell? p := by obtain ⟨n, rfl⟩ := h; rfl

set_option maxRecDepth 100000 in
set_option maxHeartbeats 800000 in
theorem semay_any (A : Option Addr) (c : Nat) (ps : List Se.Row) (w : World) (B : Nat) (hr : Reads w B 4 A ps.length (ps.flatMap rowCells)) :
    Calls Try.prog 73 #[.slice A ps.length c] w fun e w' => e = .returned (.bool (Se.mayB ps)) ∧ Drawn w w' := by
  have HR := Lib.hid hr
  have HLong := Lib.hid (@may_long ps)
  have HNo := Lib.hid (fun j hj h => @up_no ps j hj h)
  have HDn := Lib.hid (fun k h4 hk hk2 ha => @may_done ps k h4 hk hk2 ha)
  clear hr
  generalize Se.mayB ps = res at *
  by_cases h4 : ps.length ≤ 4
  · go_enter Try.func73, Try.ntmps73
    go_wp2_with fail
    go_loopw [3, 9] (fun _ i wr => ∃ k n : Nat, k ≤ ps.length ∧ i = .int .i64 (k : Int) ∧ Hid ((List.range k).all (Se.upB ps) = true) ∧ wr = w.drewN n) (fun _ i _ => ps.length - (intOf i).toNat)
    case atStart => exact ⟨0, 0, Nat.zero_le _, rfl, Lib.hid (by simp), rfl⟩
    case round =>
      obtain ⟨k, n, hk, rfl, ha, rfl⟩ := hrel
      by_cases hlt : k < ps.length
      · by_cases hk0 : k = 0
        · subst hk0
          have hd : decide ((0 : Int) < 0) = false := by decide
          go_wp2_with fail
          go_quiet (fail)
          go_wp2_with fail
          go_roundw
          case rel => exact ⟨1, n + nq, by omega, by go_num, Lib.hid (by simp [Se.upB]), rfl⟩
          case measure => simp [intOf]; omega
        · obtain ⟨j, rfl⟩ : ∃ j, k = j + 1 := ⟨k - 1, by omega⟩
          obtain ⟨b, off, rfl, hbl, hc⟩ := HR.out.2 (by omega)
          have hc0 := (row_cells (wr := w) hlt hc (fun p hp => rfl) hbl).1
          have hp0 := (row_cells (wr := w) (show j < ps.length by omega) hc (fun p hp => rfl) hbl).1
          have hd : decide ((0 : Int) < (j : Int) + 1) = true := decide_eq_true (by omega)
          have hi0 : (0 : Int) ≤ (j : Int) := by omega
          have hi1 : (j : Int) < (ps.length : Int) := by omega
          have hU := Lib.hid (fun h => Se.range_step ha.out (up_yes hlt h))
          have hN := Lib.hid (fun h => HNo.out j hlt h)
          clear ha hc HNo HDn HLong HR
          generalize ps[j + 1].1 = x at *
          generalize (ps[j]'(by omega)).1 = y at *
          by_cases hxy : x ≤ y
          · have HRf : Hid (res = false) := hN.out hxy
            have hdx : decide (x ≤ y) = true := decide_eq_true hxy
            clear hU hN
            go_wp2_with fail
            go_quiet (fail)
            go_wp2_with fail
            go_ret
            exact ⟨ret_bool HRf.out.symm, n + nq, by rw [World.drewN_drewN]⟩
          · have HU := Lib.hid (hU.out hxy)
            have hdx : decide (x ≤ y) = false := decide_eq_false hxy
            clear hU hN
            go_wp2_with fail
            go_quiet (fail)
            go_wp2_with fail
            go_roundw
            case rel => exact ⟨j + 1 + 1, n + nq, by omega, by go_num, HU, rfl⟩
            case measure => simp [intOf]; omega
      · have HRt : Hid (res = true) := HDn.out k h4 hlt hk ha.out
        clear ha
        go_wp2_with fail
        go_ret
        exact ⟨ret_bool HRt.out.symm, _, rfl⟩
  · have HRf : Hid (res = false) := HLong.out h4
    go_enter Try.func73, Try.ntmps73
    go_wp2_with fail
    go_ret
    exact ⟨ret_bool HRf.out.symm, 0, rfl⟩

set_option maxRecDepth 100000 in
set_option maxHeartbeats 800000 in
theorem rtable_any (A : Option Addr) (c : Nat) (ps : List Se.Row) (w : World) (B : Nat) (hr : Reads w B 4 A ps.length (ps.flatMap rowCells)) (hn : ps.length ≤ 140737488355328) :
    Calls Try.prog 76 #[.slice A ps.length c] w fun e w' => e = .returned (.bool (Se.mayB ps)) ∧ Drawn w w' := by
  have HR := Lib.hid hr
  have HLong := Lib.hid (@may_long ps)
  have HNo := Lib.hid (fun j hj h => @up_no ps j hj h)
  have HDn := Lib.hid (fun k h4 hk hk2 ha => @may_done ps k h4 hk hk2 ha)
  have HZ : Hid (ps.length = 0 → Se.mayB ps = true) := fun h => by unfold Se.mayB; rw [h]; rfl
  clear hr
  generalize Se.mayB ps = res at *
  go_enter Try.func76, Try.ntmps76
  go_wp2_with fail
  go_loopw [3] (fun i wr => ∃ k n : Nat, (k ≤ ps.length ∨ k = 1) ∧ 1 ≤ k ∧ i = .int .i64 (k : Int) ∧ Hid (k ≤ ps.length → (List.range k).all (Se.upB ps) = true) ∧ wr = w.drewN n) (fun i _ => ps.length - (intOf i).toNat)
  case atStart => exact ⟨1, 0, .inr rfl, Nat.le_refl _, rfl, Lib.hid (fun _ => by simp [Se.upB]), rfl⟩
  case round =>
    obtain ⟨k, n, hk, hk1, rfl, ha, rfl⟩ := hrel
    by_cases hlt : k < ps.length
    · obtain ⟨j, rfl⟩ : ∃ j, k = j + 1 := ⟨k - 1, by omega⟩
      obtain ⟨b, off, rfl, hbl, hc⟩ := HR.out.2 (by omega)
      have hc0 := (row_cells (wr := w) hlt hc (fun p hp => rfl) hbl).1
      have hp0 := (row_cells (wr := w) (show j < ps.length by omega) hc (fun p hp => rfl) hbl).1
      have hi0 : (0 : Int) ≤ (j : Int) := by omega
      have hi1 : (j : Int) < (ps.length : Int) := by omega
      have hU := Lib.hid (fun h => Se.range_step (ha.out (by omega)) (up_yes hlt h))
      have hN := Lib.hid (fun h => HNo.out j hlt h)
      clear ha hc HNo HDn HLong HR HZ
      generalize ps[j + 1].1 = x at *
      generalize (ps[j]'(by omega)).1 = y at *
      by_cases hxy : x ≤ y
      · have HRf : Hid (res = false) := hN.out hxy
        have hdx : decide (x ≤ y) = true := decide_eq_true hxy
        clear hU hN
        go_wp2_with fail
        go_quiet (fail)
        go_wp2_with fail
        go_ret
        exact ⟨ret_bool HRf.out.symm, n + nq, by rw [World.drewN_drewN]⟩
      · have HU := Lib.hid (hU.out hxy)
        have hdx : decide (x ≤ y) = false := decide_eq_false hxy
        clear hU hN
        go_wp2_with fail
        go_quiet (fail)
        go_wp2_with fail
        go_roundw
        case rel => exact ⟨j + 1 + 1, n + nq, by omega, by omega, by go_num, Lib.hid (fun _ => HU.out), rfl⟩
        case measure => simp [intOf]; omega
    · have HRt : Hid (res = decide (ps.length ≤ 4)) := by
        show _ = _
        by_cases h4 : ps.length ≤ 4
        · rw [decide_eq_true h4]
          by_cases h0 : ps.length = 0
          · exact HZ.out h0
          · exact HDn.out k h4 hlt (by omega) (ha.out (by omega))
        · rw [decide_eq_false h4]; exact HLong.out h4
      clear ha
      go_wp2_with fail
      go_ret
      exact ⟨ret_bool (by rw [HRt.out]; first | rfl | (simp; omega)), _, rfl⟩

theorem find1_any (r : Se.Row) (s : Int) (g : Nat) (w : World) (hc : w.cell? ⟨g, 0, none⟩ = some (.int .i64 s)) :
    Calls Try.prog 112 #[.agg #[.int .i64 r.1, .int .i64 r.2.1, .int .i64 r.2.2.1, .int .i64 r.2.2.2], .pointer (some ⟨g, 0, none⟩)] w fun e w' => e = .returned (.bool (decide (r.1 = s))) ∧ Below w.heap.size w w' := by
  have hc1 := cell_keep (.cells #[.int .i64 r.1, .int .i64 r.2.1, .int .i64 r.2.2.1, .int .i64 r.2.2.2] 109) hc
  go_enter Try.func112, Try.ntmps112
  go_wp2
  go_ret
  exact ⟨ret_bool (by rw [Bool.eq_iff_iff]; simp), (Below.refl w.heap.size w).alloc (Nat.le_refl _) _⟩
theorem findV_at {ps : List Se.Row} {s : Int} {k : Nat} (hk : k < ps.length) (h : ps[k].1 = s) (hb : ∀ j (hj : j < ps.length), j < k → ps[j].1 ≠ s) : Se.findV ps s = (k : Int) := by
  have := Se.idx_first hk h (fun j hj => hb j (by omega) hj)
  unfold Se.findV; rw [this, if_pos hk]
theorem findV_none {ps : List Se.Row} {s : Int} {k : Nat} (hk : ¬ k < ps.length) (hb : ∀ j (hj : j < ps.length), j < k → ps[j].1 ≠ s) : Se.findV ps s = -1 := by
  have := Se.idx_none (rows := ps) (s := s) (fun j hj => hb j hj (by omega))
  unfold Se.findV; rw [this, if_neg (by omega)]
theorem find_step {ps : List Se.Row} {s : Int} {k : Nat} (hk : k < ps.length) (hb : ∀ j (hj : j < ps.length), j < k → ps[j].1 ≠ s) (h : ps[k].1 ≠ s) : ∀ j (hj : j < ps.length), j < k + 1 → ps[j].1 ≠ s := by
  intro j hj hjk
  by_cases e : j = k
  · subst e; exact h
  · exact hb j hj (by omega)
set_option maxRecDepth 100000 in
set_option maxHeartbeats 800000 in
theorem indexFuncR_any (A : Option Addr) (c : Nat) (ps : List Se.Row) (s : Int) (g : Nat) (w : World) (B : Nat) (hr : Reads w B 4 A ps.length (ps.flatMap rowCells)) (hB : B ≤ w.heap.size) (hn : ps.length ≤ 140737488355328) (hcs : w.cell? ⟨g, 0, none⟩ = some (.int .i64 s)) :
    Calls Try.prog 111 #[.slice A ps.length c, .func (.func 112) #[] #[.pointer (some ⟨g, 0, none⟩)]] w fun e w' => e = .returned (.int .i64 (Se.findV ps s)) ∧ Below w.heap.size w w' := by
  have HR := Lib.hid hr
  have hgl := World.block_lt_of_cell? w _ hcs
  have HC := fun W (hb : Below w.heap.size w W) => Lib.hid ((hb.cell (p := ⟨g, 0, none⟩) hgl).trans hcs)
  have HAt := Lib.hid (fun k hk h hb => @findV_at ps s k hk h hb)
  have HNo := Lib.hid (fun k hk hb => @findV_none ps s k hk hb)
  clear hr hcs
  generalize Se.findV ps s = res at *
  go_enter Try.func111, Try.ntmps111
  go_wp2_with fail
  go_loopw [5, 8] (fun _ i wr => ∃ k : Nat, k ≤ ps.length ∧ i = .int .i64 (k : Int) ∧ Hid (∀ j (hj : j < ps.length), j < k → ps[j].1 ≠ s) ∧ Hid (Below w.heap.size w wr)) (fun _ i _ => ps.length - (intOf i).toNat)
  case atStart => exact ⟨0, Nat.zero_le _, rfl, Lib.hid (fun _ _ h => absurd h (by omega)), Lib.hid (Below.refl _ _)⟩
  case round =>
    obtain ⟨k, hk, rfl, ha, hbw⟩ := hrel
    by_cases hlt : k < ps.length
    · obtain ⟨b, off, rfl, hbl, hc⟩ := HR.out.2 (by omega)
      obtain ⟨hc0, hc1, hc2, hc3⟩ := row_cells (wr := wr) hlt hc (fun p hp => hbw.out.cell (p := p) (by omega)) hbl
      have H1 := Lib.hid (find1_any ps[k] s g wr (HC wr hbw.out).out)
      have HS := Lib.hid (fun h => HAt.out k hlt h ha.out)
      have HG := Lib.hid (fun h => find_step hlt ha.out h)
      clear hc ha HC HAt HNo
      by_cases hm : ps[k].1 = s
      · have hF := Lib.hid (HS.out hm)
        rw [decide_eq_true hm] at H1
        clear HS HG hm
        go_wp2_with fail
        refine H1.out.mono ?_
        rintro e w1 ⟨rfl, hb1⟩
        go_wp2_with fail
        go_ret
        exact ⟨ret_int hF.out.symm, hbw.out.trans (hb1.mono hbw.out.size)⟩
      · have hF := Lib.hid (HG.out hm)
        rw [decide_eq_false hm] at H1
        clear HS HG hm
        go_wp2_with fail
        refine H1.out.mono ?_
        rintro e w1 ⟨rfl, hb1⟩
        go_wp2_with fail
        go_roundw
        case rel => exact ⟨k + 1, by omega, by go_num, hF, Lib.hid (hbw.out.trans (hb1.mono hbw.out.size))⟩
        case measure => simp [intOf]; omega
    · have hF := Lib.hid (HNo.out k hlt ha.out)
      clear ha HC HAt HNo
      go_wp2_with fail
      go_ret
      exact ⟨ret_int hF.out.symm, hbw.out⟩
theorem find_any (A : Option Addr) (c : Nat) (ps : List Se.Row) (s : Int) (w : World) (B : Nat) (hr : Reads w B 4 A ps.length (ps.flatMap rowCells)) (hB : B ≤ w.heap.size) (hn : ps.length ≤ 140737488355328) :
    Calls Try.prog 74 #[.slice A ps.length c, .int .i64 s] w fun e w' => e = .returned (.int .i64 (Se.findV ps s)) ∧ Below w.heap.size w w' := by
  have hb1 : Below w.heap.size w (w.alloc (.cells #[.int .i64 s] 3)) := (Below.refl _ _).alloc (Nat.le_refl _) _
  have H1 := Lib.hid (indexFuncR_any A c ps s w.heap.size (w.alloc (.cells #[.int .i64 s] 3)) B (hr.alloc hB _) (by simp; omega) hn (cell_new w _ _ 0))
  have Hb1 := Lib.hid hb1
  clear hr hb1
  generalize Se.findV ps s = res at *
  go_enter Try.func74, Try.ntmps74
  go_wp2_with fail
  refine H1.out.mono ?_
  rintro e w1 ⟨rfl, hb⟩
  go_wp2_with fail
  go_ret
  exact ⟨rfl, Hb1.out.trans (hb.mono Hb1.out.size)⟩
set_option maxRecDepth 100000 in
set_option maxHeartbeats 800000 in
theorem rat_any (A : Option Addr) (c : Nat) (ps : List Se.Row) (s : Int) (w : World) (B : Nat) (hr : Reads w B 4 A ps.length (ps.flatMap rowCells)) (hn : ps.length ≤ 140737488355328) :
    Calls Try.prog 77 #[.slice A ps.length c, .int .i64 s] w fun e w' => e = .returned (.int .i64 (Se.findV ps s)) ∧ w = w' := by
  have HR := Lib.hid hr
  have HAt := Lib.hid (fun k hk h hb => @findV_at ps s k hk h hb)
  have HNo := Lib.hid (fun k hk hb => @findV_none ps s k hk hb)
  clear hr
  generalize Se.findV ps s = res at *
  go_enter Try.func77, Try.ntmps77
  go_wp2_with fail
  go_loopw [5] (fun i wr => ∃ k : Nat, k ≤ ps.length ∧ i = .int .i64 (k : Int) ∧ Hid (∀ j (hj : j < ps.length), j < k → ps[j].1 ≠ s) ∧ wr = w) (fun i _ => ps.length - (intOf i).toNat)
  case atStart => exact ⟨0, Nat.zero_le _, rfl, Lib.hid (fun _ _ h => absurd h (by omega)), rfl⟩
  case round =>
    obtain ⟨k, hk, rfl, ha, rfl⟩ := hrel
    by_cases hlt : k < ps.length
    · obtain ⟨b, off, rfl, hbl, hc⟩ := HR.out.2 (by omega)
      have hc0 := (row_cells (wr := wr) hlt hc (fun p hp => rfl) hbl).1
      have HS := Lib.hid (fun h => HAt.out k hlt h ha.out)
      have HG := Lib.hid (fun h => find_step hlt ha.out h)
      clear hc ha HAt HNo HR
      generalize ps[k].1 = x at *
      by_cases hm : x = s
      · have hF := Lib.hid (HS.out hm)
        have hd : (x == s) = true := by simp [hm]
        clear HS HG hm
        go_wp2_with fail
        go_ret
        exact ⟨ret_int hF.out.symm, rfl⟩
      · have hF := Lib.hid (HG.out hm)
        have hd : (x == s) = false := by simp [hm]
        clear HS HG hm
        go_wp2_with fail
        go_roundw
        case rel => exact ⟨k + 1, by omega, by go_num, hF, by first | rfl | trivial⟩
        case measure => simp [intOf]; omega
    · have hF := Lib.hid (HNo.out k hlt ha.out)
      clear ha HAt HNo
      go_wp2_with fail
      go_ret
      exact ⟨ret_int hF.out.symm, rfl⟩
theorem rowCells_one (xs : List Se.Row) : ∀ u ∈ xs.flatMap rowCells, u.oneCell' = true := by
  intro u hu
  simp only [List.mem_flatMap, rowCells, List.mem_cons, List.not_mem_nil, or_false] at hu
  obtain ⟨x, _, hu⟩ := hu
  rcases hu with rfl | rfl | rfl | rfl <;> rfl
/-- a copy in the call's own memory -/
def OwnPost (w : World) (xs : List Se.Row) (e : Ending) (w' : World) : Prop := ∃ v, e = .returned v ∧ w'.ownsRow w.heap.size 109 4 v xs.length (xs.flatMap rowCells) ∧ Below w.heap.size w w'
set_option maxRecDepth 100000 in
set_option maxHeartbeats 400000 in
theorem rcopied_any (A : Option Addr) (c : Nat) (xs : List Se.Row) (w : World) (b1 : Nat) (hr : Reads w b1 4 A xs.length (xs.flatMap rowCells)) (hB : b1 ≤ w.heap.size) (hn : xs.length * 32 ≤ 140737488355328) :
    Calls Try.prog 78 #[.slice A xs.length c] w (OwnPost w xs) := by
  obtain ⟨i0, hi, hz0, hz1, hz2⟩ := info_parts info_srow
  have hown0 := own_empty w w.heap.size 109 4 (Nat.le_refl _)
  have hr1 := hr.alloc hB (.cells #[] 109)
  have hb0 : Below w.heap.size w (w.alloc (.cells #[] 109)) := (Below.refl _ _).alloc (Nat.le_refl _) _
  go_enter Try.func78, Try.ntmps78
  go_wp2_with (at_builtin; refine wpList_append_all _ rfl _ _ 41 rfl w.heap.size 109 i0 _ 4 32 Try.underlying41 hi hz0 hz1 hz2 rfl (by decide) _ 0 [] (by rfl) hown0 b1 A xs.length c (xs.flatMap rowCells) (by rfl) hr1 (rowCells_one xs) (by unfold maxLen; omega) (by omega) w hb0 (by simp) ?_; intro v1 w1 hown1 hb1 _)
  go_ret
  exact ⟨_, rfl, by simpa using hown1, hb1⟩
set_option maxRecDepth 100000 in
set_option maxHeartbeats 400000 in
theorem cloneR_any (A : Option Addr) (c : Nat) (xs : List Se.Row) (w : World) (b1 : Nat) (hr : Reads w b1 4 A xs.length (xs.flatMap rowCells)) (hB : b1 ≤ w.heap.size) (hn : xs.length * 32 ≤ 140737488355328) :
    Calls Try.prog 72 #[.slice A xs.length c] w (OwnPost w xs) := by
  cases A with
  | none =>
    have h0 : xs.length = 0 := by
      rcases Nat.eq_zero_or_pos xs.length with h | h
      · exact h
      · obtain ⟨b, off, e, _⟩ := hr.2 h
        cases e
    have hx : xs = [] := List.eq_nil_of_length_eq_zero h0
    subst hx
    have hnil := fun W => Lib.run_eql_slice_nil (P := Try.prog) W 41 109 none 0 c 0 0 Try.underlying41
    clear hr h0
    go_enter Try.func72, Try.ntmps72
    go_wp2_with fail
    go_ret
    exact ⟨_, rfl, own_nil _ _ _ _, Below.refl _ _⟩
  | some ad =>
    obtain ⟨i0, hi, hz0, hz1, hz2⟩ := info_parts info_srow
    have hown0 := own_empty w w.heap.size 109 4 (Nat.le_refl _)
    have hr1 := hr.alloc hB (.cells #[] 109)
    have hb0 : Below w.heap.size w (w.alloc (.cells #[] 109)) := (Below.refl _ _).alloc (Nat.le_refl _) _
    have hnil := fun W => Lib.run_eql_slice_nil (P := Try.prog) W 41 109 (some ad) xs.length c 0 0 Try.underlying41
    go_enter Try.func72, Try.ntmps72
    go_wp2_with (at_builtin; refine wpList_append_all _ rfl _ _ 41 rfl w.heap.size 109 i0 _ 4 32 Try.underlying41 hi hz0 hz1 hz2 rfl (by decide) _ 0 [] (by rfl) hown0 b1 (some ad) xs.length c (xs.flatMap rowCells) (by rfl) hr1 (rowCells_one xs) (by unfold maxLen; omega) (by omega) w hb0 (by simp) ?_; intro v1 w1 hown1 hb1 _)
    go_ret
    exact ⟨_, rfl, by simpa using hown1, hb1⟩
end Go.Proofs.Ytapdlmiioljpgaa
/- The machine in memory; what it tells (chapter 11). -/
namespace Go.Proofs.Ytapdlmiioljpgaa
open Go.RowKit
set_option linter.unusedVariables false

structure Ig.M where
  at_ : Int
  rows : List Se.Row
  opn : List Pt.Point
  digs : List Int
  seals : List (Int × ByteArray)
/-- the machine M lies in block g, its four slices in rows of its own -/
structure Mach (w : World) (base g : Nat) (m : Ig.M) (vr vo vd vs : Value) : Prop where
  blk : Blk w g 128 #[.int .i64 m.at_, vr, vo, vd, vs]
  low : base ≤ g
  rows : w.ownsRow base 109 4 vr m.rows.length (m.rows.flatMap rowCells)
  opn : w.ownsRow base 88 3 vo m.opn.length (m.opn.flatMap pointCells)
  digs : w.ownsRow base 75 1 vd m.digs.length (m.digs.flatMap digCells)
  seals : w.ownsRow base 74 2 vs m.seals.length (m.seals.flatMap fileCells)
/-- the machine's blocks -/
def Foot (g : Nat) (vr vo vd vs : Value) (k : Nat) : Prop := k = g ∨ vr.ownBlock = some k ∨ vo.ownBlock = some k ∨ vd.ownBlock = some k ∨ vs.ownBlock = some k
section
variable {w w' : World} {base g : Nat} {m : Ig.M} {vr vo vd vs : Value}
theorem Mach.only (h : Mach w base g m vr vo vd vs) {S : Nat → Prop} (ho : Only S w w') (hs : ∀ k, Foot g vr vo vd vs k → ¬ S k) : Mach w' base g m vr vo vd vs :=
  ⟨h.blk.only ho (hs g (.inl rfl)), h.low, own_only h.rows ho (fun k hk => hs k (.inr (.inl hk))), own_only h.opn ho (fun k hk => hs k (.inr (.inr (.inl hk)))), own_only h.digs ho (fun k hk => hs k (.inr (.inr (.inr (.inl hk))))), own_only h.seals ho (fun k hk => hs k (.inr (.inr (.inr (.inr hk)))))⟩
theorem Mach.below (h : Mach w base g m vr vo vd vs) (hb : Below w.heap.size w w') : Mach w' base g m vr vo vd vs := h.only (Only.new (fun _ => False) hb) (fun _ _ q => q)
theorem Mach.lt (h : Mach w base g m vr vo vd vs) {k : Nat} (hk : Foot g vr vo vd vs k) : base ≤ k ∧ k < w.heap.size := by
  rcases hk with rfl | hk | hk | hk | hk
  · exact ⟨h.low, h.blk.lt⟩
  · exact own_lt h.rows hk
  · exact own_lt h.opn hk
  · exact own_lt h.digs hk
  · exact own_lt h.seals hk
theorem Mach.cells (h : Mach w base g m vr vo vd vs) : w.cell? ⟨g, 0, none⟩ = some (.int .i64 m.at_) ∧ w.cell? ⟨g, 1, none⟩ = some vr ∧ w.cell? ⟨g, 2, none⟩ = some vo ∧ w.cell? ⟨g, 3, none⟩ = some vd ∧ w.cell? ⟨g, 4, none⟩ = some vs :=
  ⟨h.blk.cell 0, h.blk.cell 1, h.blk.cell 2, h.blk.cell 3, h.blk.cell 4⟩
end
section
variable {w : World} {base g : Nat} {m : Ig.M} {vr vo vd vs : Value}
set_option maxRecDepth 100000 in
theorem machAt_any (h : Mach w base g m vr vo vd vs) : Calls Try.prog 40 #[.pointer (some ⟨g, 0, none⟩)] w fun e w' => e = .returned (.int .i64 m.at_) ∧ w = w' := by
  obtain ⟨c0, c1, c2, c3, c4⟩ := h.cells
  clear h
  go_enter Try.func40, Try.ntmps40
  go_wp2_with fail
  go_ret
  exact ⟨rfl, rfl⟩
set_option maxRecDepth 100000 in
theorem machOpen_any (h : Mach w base g m vr vo vd vs) (hn : m.opn.length * 32 ≤ 140737488355328) : Calls Try.prog 41 #[.pointer (some ⟨g, 0, none⟩)] w (OwnPPost w m.opn) := by
  obtain ⟨c0, c1, c2, c3, c4⟩ := h.cells
  obtain ⟨A, c, rfl, hnc, hr⟩ := own_slice h.opn
  have HC := Lib.hid (cloneP_any A c m.opn w w.heap.size hr (Nat.le_refl _) hn)
  clear h hr
  go_enter Try.func41, Try.ntmps41
  go_wp2_with fail
  refine HC.out.mono ?_
  rintro e w1 ⟨v, rfl, hown, hb⟩
  obtain ⟨A1, c1, rfl, _, _⟩ := own_slice hown
  go_wp2_with fail
  go_ret
  exact ⟨_, rfl, hown, hb⟩
set_option maxRecDepth 100000 in
theorem machRows_any (h : Mach w base g m vr vo vd vs) (hn : m.rows.length * 32 ≤ 140737488355328) : Calls Try.prog 46 #[.pointer (some ⟨g, 0, none⟩)] w (OwnPost w m.rows) := by
  obtain ⟨c0, c1, c2, c3, c4⟩ := h.cells
  obtain ⟨A, c, rfl, hnc, hr⟩ := own_slice h.rows
  have HC := Lib.hid (cloneR_any A c m.rows w w.heap.size hr (Nat.le_refl _) hn)
  clear h hr
  go_enter Try.func46, Try.ntmps46
  go_wp2_with fail
  refine HC.out.mono ?_
  rintro e w1 ⟨v, rfl, hown, hb⟩
  obtain ⟨A1, c1, rfl, _, _⟩ := own_slice hown
  go_wp2_with fail
  go_ret
  exact ⟨_, rfl, hown, hb⟩
set_option maxRecDepth 100000 in
theorem machDigs_any (h : Mach w base g m vr vo vd vs) (hn : m.digs.length * 8 ≤ 140737488355328) : Calls Try.prog 45 #[.pointer (some ⟨g, 0, none⟩)] w (OwnDPost w m.digs) := by
  obtain ⟨c0, c1, c2, c3, c4⟩ := h.cells
  obtain ⟨A, c, rfl, hnc, hr⟩ := own_slice h.digs
  have HC := Lib.hid (cloneD_any A c m.digs w w.heap.size hr (Nat.le_refl _) hn)
  clear h hr
  go_enter Try.func45, Try.ntmps45
  go_wp2_with fail
  refine HC.out.mono ?_
  rintro e w1 ⟨v, rfl, hown, hb⟩
  obtain ⟨A1, c1, rfl, _, _⟩ := own_slice hown
  go_wp2_with fail
  go_ret
  exact ⟨_, rfl, hown, hb⟩
set_option maxRecDepth 100000 in
theorem machSeals_any (h : Mach w base g m vr vo vd vs) (hn : m.seals.length * 24 ≤ 140737488355328) : Calls Try.prog 47 #[.pointer (some ⟨g, 0, none⟩)] w (OwnFPost w m.seals) := by
  obtain ⟨c0, c1, c2, c3, c4⟩ := h.cells
  obtain ⟨A, c, rfl, hnc, hr⟩ := own_slice h.seals
  have HC := Lib.hid (cloneF_any A c m.seals w w.heap.size hr (Nat.le_refl _) hn)
  clear h hr
  go_enter Try.func47, Try.ntmps47
  go_wp2_with fail
  refine HC.out.mono ?_
  rintro e w1 ⟨v, rfl, hown, hb⟩
  obtain ⟨A1, c1, rfl, _, _⟩ := own_slice hown
  go_wp2_with fail
  go_ret
  exact ⟨_, rfl, hown, hb⟩
end
def Ig.m0 : Ig.M := ⟨0, [], [], [], []⟩
set_option maxRecDepth 100000 in
theorem machNew_any (w : World) : Calls Try.prog 43 #[] w fun e w' => e = .returned (.pointer (some ⟨w.heap.size, 0, none⟩)) ∧ Mach w' w.heap.size w.heap.size Ig.m0 (.slice none 0 0) (.slice none 0 0) (.slice none 0 0) (.slice none 0 0) ∧ Below w.heap.size w w' := by
  have hP := Blk.new w 128 #[.int .i64 0, .slice none 0 0, .slice none 0 0, .slice none 0 0, .slice none 0 0]
  go_enter Try.func43, Try.ntmps43
  go_wp2_with fail
  go_ret
  exact ⟨rfl, ⟨hP, Nat.le_refl _, own_nil _ _ _ _, own_nil _ _ _ _, own_nil _ _ _ _, own_nil _ _ _ _⟩, (Below.refl _ _).alloc (Nat.le_refl _) _⟩
end Go.Proofs.Ytapdlmiioljpgaa
/- A field of the machine is written (chapter 11). -/
namespace Go.Proofs.Ytapdlmiioljpgaa
open Go.RowKit
set_option linter.unusedVariables false

section
variable {w w' : World} {base g : Nat} {m : Ig.M} {vr vo vd vs : Value}
theorem only_cell (w : World) (g j : Nat) (u : Value) : Only (fun k => k = g) w (w.setCell ⟨g, j, none⟩ u) := (Only.refl (fun k => k = g) w).setCell (p := ⟨g, j, none⟩) (fun _ => rfl) u
/-- a row of the machine's lies in another block than the machine -/
theorem Mach.apart (h : Mach w base g m vr vo vd vs) {e : TypeId} {b size n : Nat} {v : Value} {xs : List Value} (hv : w.ownsRow b e size v n xs) (hne : e ≠ 128) : ∀ k, v.ownBlock = some k → ¬ k = g := fun k hk e' => by
  subst e'; exact own_blk_ne hv h.blk hne hk
theorem Mach.setAt (h : Mach w base g m vr vo vd vs) (x : Int) : Mach (w.setCell ⟨g, 0, none⟩ (.int .i64 x)) base g { m with at_ := x } vr vo vd vs :=
  ⟨h.blk.set_ 0 _, h.low, own_only h.rows (only_cell w g 0 _) (h.apart h.rows (by decide)), own_only h.opn (only_cell w g 0 _) (h.apart h.opn (by decide)), own_only h.digs (only_cell w g 0 _) (h.apart h.digs (by decide)), own_only h.seals (only_cell w g 0 _) (h.apart h.seals (by decide))⟩
theorem Mach.setRows (h : Mach w base g m vr vo vd vs) {v : Value} {R : List Se.Row} (hv : w.ownsRow base 109 4 v R.length (R.flatMap rowCells)) : Mach (w.setCell ⟨g, 1, none⟩ v) base g { m with rows := R } v vo vd vs :=
  ⟨h.blk.set_ 1 _, h.low, own_only hv (only_cell w g 1 _) (h.apart hv (by decide)), own_only h.opn (only_cell w g 1 _) (h.apart h.opn (by decide)), own_only h.digs (only_cell w g 1 _) (h.apart h.digs (by decide)), own_only h.seals (only_cell w g 1 _) (h.apart h.seals (by decide))⟩
/-- the buffer's row was worked on, then the field is written -/
theorem Mach.setOpen (h : Mach w base g m vr vo vd vs) (ho : Only (fun k => vo.ownBlock = some k) w w') {v : Value} {P : List Pt.Point} (hv : w'.ownsRow base 88 3 v P.length (P.flatMap pointCells)) : Mach (w'.setCell ⟨g, 2, none⟩ v) base g { m with opn := P } vr v vd vs := by
  have hb : Blk w' g 128 #[.int .i64 m.at_, vr, vo, vd, vs] := h.blk.only ho (fun e => h.apart h.opn (by decide) g e rfl)
  have ne : ∀ {e : TypeId} {size n : Nat} {u : Value} {xs : List Value}, w.ownsRow base e size u n xs → e ≠ 88 → ∀ k, u.ownBlock = some k → ¬ vo.ownBlock = some k := fun hu hne k hk q => by
    rcases own_own_ne hu h.opn hne with z | z
    · rw [z] at hk; cases hk
    · exact z (hk.trans q.symm)
  have hr := own_only h.rows ho (ne h.rows (by decide))
  have hd := own_only h.digs ho (ne h.digs (by decide))
  have hs := own_only h.seals ho (ne h.seals (by decide))
  have ap : ∀ {e : TypeId} {size n : Nat} {u : Value} {xs : List Value}, w'.ownsRow base e size u n xs → e ≠ 128 → ∀ k, u.ownBlock = some k → ¬ k = g := fun hu hne k hk q => by
    subst q; exact own_blk_ne hu hb hne hk
  exact ⟨hb.set_ 2 _, h.low, own_only hr (only_cell w' g 2 _) (ap hr (by decide)), own_only hv (only_cell w' g 2 _) (ap hv (by decide)), own_only hd (only_cell w' g 2 _) (ap hd (by decide)), own_only hs (only_cell w' g 2 _) (ap hs (by decide))⟩
theorem Mach.setDigs (h : Mach w base g m vr vo vd vs) (ho : Only (fun k => vd.ownBlock = some k) w w') {v : Value} {D : List Int} (hv : w'.ownsRow base 75 1 v D.length (D.flatMap digCells)) : Mach (w'.setCell ⟨g, 3, none⟩ v) base g { m with digs := D } vr vo v vs := by
  have hb : Blk w' g 128 #[.int .i64 m.at_, vr, vo, vd, vs] := h.blk.only ho (fun e => h.apart h.digs (by decide) g e rfl)
  have ne : ∀ {e : TypeId} {size n : Nat} {u : Value} {xs : List Value}, w.ownsRow base e size u n xs → e ≠ 75 → ∀ k, u.ownBlock = some k → ¬ vd.ownBlock = some k := fun hu hne k hk q => by
    rcases own_own_ne hu h.digs hne with z | z
    · rw [z] at hk; cases hk
    · exact z (hk.trans q.symm)
  have hr := own_only h.rows ho (ne h.rows (by decide))
  have hp := own_only h.opn ho (ne h.opn (by decide))
  have hs := own_only h.seals ho (ne h.seals (by decide))
  have ap : ∀ {e : TypeId} {size n : Nat} {u : Value} {xs : List Value}, w'.ownsRow base e size u n xs → e ≠ 128 → ∀ k, u.ownBlock = some k → ¬ k = g := fun hu hne k hk q => by
    subst q; exact own_blk_ne hu hb hne hk
  exact ⟨hb.set_ 3 _, h.low, own_only hr (only_cell w' g 3 _) (ap hr (by decide)), own_only hp (only_cell w' g 3 _) (ap hp (by decide)), own_only hv (only_cell w' g 3 _) (ap hv (by decide)), own_only hs (only_cell w' g 3 _) (ap hs (by decide))⟩
theorem Mach.setSeals (h : Mach w base g m vr vo vd vs) (ho : Only (fun k => vs.ownBlock = some k) w w') {v : Value} {F : List (Int × ByteArray)} (hv : w'.ownsRow base 74 2 v F.length (F.flatMap fileCells)) : Mach (w'.setCell ⟨g, 4, none⟩ v) base g { m with seals := F } vr vo vd v := by
  have hb : Blk w' g 128 #[.int .i64 m.at_, vr, vo, vd, vs] := h.blk.only ho (fun e => h.apart h.seals (by decide) g e rfl)
  have ne : ∀ {e : TypeId} {size n : Nat} {u : Value} {xs : List Value}, w.ownsRow base e size u n xs → e ≠ 74 → ∀ k, u.ownBlock = some k → ¬ vs.ownBlock = some k := fun hu hne k hk q => by
    rcases own_own_ne hu h.seals hne with z | z
    · rw [z] at hk; cases hk
    · exact z (hk.trans q.symm)
  have hr := own_only h.rows ho (ne h.rows (by decide))
  have hp := own_only h.opn ho (ne h.opn (by decide))
  have hd := own_only h.digs ho (ne h.digs (by decide))
  have ap : ∀ {e : TypeId} {size n : Nat} {u : Value} {xs : List Value}, w'.ownsRow base e size u n xs → e ≠ 128 → ∀ k, u.ownBlock = some k → ¬ k = g := fun hu hne k hk q => by
    subst q; exact own_blk_ne hu hb hne hk
  exact ⟨hb.set_ 4 _, h.low, own_only hr (only_cell w' g 4 _) (ap hr (by decide)), own_only hp (only_cell w' g 4 _) (ap hp (by decide)), own_only hd (only_cell w' g 4 _) (ap hd (by decide)), own_only hv (only_cell w' g 4 _) (ap hv (by decide))⟩
end
end Go.Proofs.Ytapdlmiioljpgaa
