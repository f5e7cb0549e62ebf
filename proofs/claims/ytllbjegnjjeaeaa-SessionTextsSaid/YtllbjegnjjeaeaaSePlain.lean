/- Sessions in plain words (chapter 10). No program in sight. -/
import Derived.Test.YtllbjegnjjeaeaaPtBack
namespace Go.Proofs.Ytllbjegnjjeaeaa.Se
open Go.Proofs.Ytllbjegnjjeaeaa
set_option linter.unusedVariables false

abbrev Row := Int × Int × Int × Int
def z0 : Row := (0, 0, 0, 0)
def upB (rows : List Row) (i : Nat) : Bool := decide (i = 0) || decide ((rows.getD (i - 1) z0).1 < (rows.getD i z0).1)
def mayB (rows : List Row) : Bool := decide (rows.length ≤ 4) && (List.range rows.length).all (upB rows)
def idx (rows : List Row) (s : Int) : Nat := rows.findIdx fun r => decide (r.1 = s)
def findV (rows : List Row) (s : Int) : Int := if idx rows s < rows.length then (idx rows s : Int) else -1
def lo (rows : List Row) (t : Int) : Nat := rows.findIdx fun r => decide (t ≤ r.1)
def new (t : Int) : Row := (t, 0, t, t)
def ins (rows : List Row) (t : Int) : List Row := rows.take (lo rows t) ++ new t :: rows.drop (lo rows t)
def leastK (rows : List Row) : Nat → Nat
  | 0 => 0
  | k + 1 => if (rows.getD k z0).2.2.2 < (rows.getD (leastK rows k) z0).2.2.2 then k else leastK rows k
def openR (rows : List Row) (t : Int) : List Row := if (ins rows t).length ≤ 4 then ins rows t else (ins rows t).eraseIdx (leastK (ins rows t) (ins rows t).length)
def at_ (rows : List Row) (s : Int) : Row := rows.getD (idx rows s) z0
def applyR (rows : List Row) (es en t : Int) : List Row × Int × Bool :=
  if mayB rows = false ∨ t < 1 ∨ (es = 0 ∧ idx rows t < rows.length) then (rows, -1, false)
  else if es = 0 then (openR rows t, t, true)
  else if ¬ idx rows es < rows.length ∨ en < (at_ rows es).2.1 then (rows, -1, false)
  else if en = (at_ rows es).2.1 then (rows, (at_ rows es).2.2.1, false)
  else (rows.set (idx rows es) (es, en, t, t), t, true)
def askR (rows : List Row) (s num last : Int) : Int × Int :=
  if s = 0 then (0, -1)
  else if ¬ idx rows s < rows.length then (if 1 ≤ s ∧ s ≤ last then (4, -1) else (5, -1))
  else if num < (at_ rows s).2.1 then (3, -1)
  else if num = (at_ rows s).2.1 then (0, (at_ rows s).2.2.1)
  else (0, -1)
def fitsB (r : Row) : Bool := Wr.isNum r.1 && Wr.isNum r.2.1 && Wr.isNum r.2.2.1 && Wr.isNum r.2.2.2
def rowL (r : Row) : List UInt8 := Wr.putL r.1 ++ Wr.putL r.2.1 ++ Wr.putL r.2.2.1 ++ Wr.putL r.2.2.2
def rowsL (rows : List Row) : List UInt8 := Wr.putL (rows.length : Int) ++ rows.flatMap rowL
def putR (rows : List Row) : ByteArray × Int := if mayB rows = true ∧ rows.all fitsB = true then (⟨(rowsL rows).toArray⟩, 0) else (⟨#[]⟩, 1000)
abbrev rdN (s : ByteArray) (st : Pt.St) : Int × Pt.St := Pt.rdNum s (-9007199254740992) 9007199254740992 st
def rd1 (s : ByteArray) (st : Pt.St) : Pt.St := (rdN s st).2
def rdRow (s : ByteArray) (st : Pt.St) : Row × Pt.St := (((rdN s st).1, (rdN s (rd1 s st)).1, (rdN s (rd1 s (rd1 s st))).1, (rdN s (rd1 s (rd1 s (rd1 s st)))).1), rd1 s (rd1 s (rd1 s (rd1 s st))))
def rdK (s : ByteArray) (st : Pt.St) : Nat → List Row × Pt.St
  | 0 => ([], st)
  | k + 1 => ((rdK s st k).1 ++ [(rdRow s (rdK s st k).2).1], (rdRow s (rdK s st k).2).2)
def getR (s : ByteArray) : List Row × Int :=
  if (rdK s (Pt.rdNum s 0 4 (0, false)).2 (Pt.rdNum s 0 4 (0, false)).1.toNat).2.2 = false ∧ (rdK s (Pt.rdNum s 0 4 (0, false)).2 (Pt.rdNum s 0 4 (0, false)).1.toNat).2.1 = (s.size : Int) ∧ mayB (rdK s (Pt.rdNum s 0 4 (0, false)).2 (Pt.rdNum s 0 4 (0, false)).1.toNat).1 = true
  then ((rdK s (Pt.rdNum s 0 4 (0, false)).2 (Pt.rdNum s 0 4 (0, false)).1.toNat).1, 0) else ([], 1001)

/-! tables -/
theorem getD_lt {rows : List Row} {k : Nat} (hk : k < rows.length) : rows.getD k z0 = rows[k] := by
  rw [List.getD_eq_getElem?_getD, List.getElem?_eq_getElem hk]; rfl
theorem range_step {rows : List Row} {k : Nat} (ha : (List.range k).all (upB rows) = true) (h : upB rows k = true) : (List.range (k + 1)).all (upB rows) = true := by
  rw [List.range_succ, List.all_append, ha]; simp [h]
theorem range_stop {rows : List Row} {k : Nat} (hk : k < rows.length) (h : upB rows k = false) : mayB rows = false := by
  unfold mayB
  have : (List.range rows.length).all (upB rows) = false := by
    rw [List.all_eq_false]; exact ⟨k, List.mem_range.2 hk, by rw [h]; simp⟩
  rw [this, Bool.and_false]
theorem may_len {rows : List Row} (h : mayB rows = true) : rows.length ≤ 4 := by
  unfold mayB at h; simp at h; exact h.1
theorem may_up {rows : List Row} (h : mayB rows = true) (i : Nat) (hi : i + 1 < rows.length) : (rows[i]'(by omega)).1 < rows[i + 1].1 := by
  unfold mayB at h
  rw [Bool.and_eq_true, List.all_eq_true] at h
  have := h.2 (i + 1) (List.mem_range.2 hi)
  unfold upB at this
  rw [Nat.add_sub_cancel, getD_lt (by omega), getD_lt hi] at this
  simpa using this
theorem may_lt {rows : List Row} (h : mayB rows = true) (i j : Nat) (hij : i < j) (hj : j < rows.length) : (rows[i]'(by omega)).1 < rows[j].1 := by
  induction j with
  | zero => omega
  | succ j ih =>
    have hs := may_up h j hj
    by_cases e : i = j
    · subst e; exact hs
    · exact Int.lt_trans (ih (by omega) (by omega)) hs
theorem may_of {rows : List Row} (hl : rows.length ≤ 4) (h : ∀ i (hi : i + 1 < rows.length), (rows[i]'(by omega)).1 < rows[i + 1].1) : mayB rows = true := by
  unfold mayB
  rw [Bool.and_eq_true, List.all_eq_true]
  refine ⟨decide_eq_true hl, fun i hi => ?_⟩
  rw [List.mem_range] at hi
  unfold upB
  cases i with
  | zero => rfl
  | succ i => rw [Nat.add_sub_cancel, getD_lt (by omega), getD_lt hi]; simpa using h i hi

/-! places -/
theorem idx_le (rows : List Row) (s : Int) : idx rows s ≤ rows.length := List.findIdx_le_length
theorem idx_lt {rows : List Row} {s : Int} (h : idx rows s < rows.length) : rows[idx rows s].1 = s := by
  have := List.findIdx_getElem (w := h)
  exact of_decide_eq_true this
theorem idx_first {rows : List Row} {s : Int} {k : Nat} (hk : k < rows.length) (h : rows[k].1 = s) (hb : ∀ j (hj : j < k), (rows[j]'(by omega)).1 ≠ s) : idx rows s = k := by
  unfold idx
  rw [List.findIdx_eq hk]
  exact ⟨by simpa using h, fun j hj => by simpa using hb j hj⟩
theorem idx_none {rows : List Row} {s : Int} (h : ∀ j (hj : j < rows.length), rows[j].1 ≠ s) : idx rows s = rows.length := by
  unfold idx
  rw [List.findIdx_eq_length]
  intro w hw
  obtain ⟨j, hj, rfl⟩ := List.getElem_of_mem hw
  simpa using h j hj
theorem lo_le (rows : List Row) (t : Int) : lo rows t ≤ rows.length := List.findIdx_le_length
/-- the place is where all ahead are less and the rest is not -/
theorem lo_of {rows : List Row} {t : Int} {k : Nat} (hk : k ≤ rows.length) (ha : ∀ j (hj : j < k), (rows[j]'(by omega)).1 < t) (hb : ∀ h : k < rows.length, t ≤ rows[k].1) : lo rows t = k := by
  unfold lo
  by_cases h : k < rows.length
  · rw [List.findIdx_eq h]
    exact ⟨by simpa using hb h, fun j hj => by simpa using ha j hj⟩
  · obtain rfl : k = rows.length := by omega
    rw [List.findIdx_eq_length]
    intro w hw
    obtain ⟨j, hj, rfl⟩ := List.getElem_of_mem hw
    simpa using ha j hj
theorem lo_ahead {rows : List Row} {t : Int} (j : Nat) (hj : j < lo rows t) : (rows[j]'(by have := lo_le rows t; omega)).1 < t := by
  have := List.not_of_lt_findIdx hj
  simpa using this
theorem lo_behind {rows : List Row} {t : Int} (h : lo rows t < rows.length) : t ≤ rows[lo rows t].1 := by
  have := List.findIdx_getElem (w := h)
  exact of_decide_eq_true this
theorem ins_len (rows : List Row) (t : Int) : (ins rows t).length = rows.length + 1 := by
  unfold ins
  have := lo_le rows t
  simp; omega
end Go.Proofs.Ytllbjegnjjeaeaa.Se
