/- Columns in plain words: numbers and texts as bytes, and back (chapter 12). No program in sight. -/
import Derived.Test.YthdbmgjlegpbaaaPtBack
namespace Go.Proofs.Ythdbmgjlegpbaaa.Cl
open Go.Proofs.Ythdbmgjlegpbaaa
set_option linter.unusedVariables false

def intsD : Int → List Int → List UInt8
  | _, [] => []
  | last, x :: xs => Wr.putL (x - last) ++ intsD x xs
def intsB (xs : List Int) : ByteArray := if xs.all Pt.smallB then ⟨(intsD 0 xs).toArray⟩ else ⟨#[]⟩
def goInts (l : List UInt8) : Nat → Int → Int → Option (List Int × Int)
  | 0, _, a => some ([], a)
  | n + 1, last, a =>
    if (Wr.getN l a).2.2 = 0 ∧ Pt.smallB (last + (Wr.getN l a).1) = true then
      (goInts l n (last + (Wr.getN l a).1) (Wr.getN l a).2.1).map fun r => ((last + (Wr.getN l a).1) :: r.1, r.2)
    else none
def getInts (s : ByteArray) (a many : Int) : List Int × Int × Int :=
  if many < 0 ∨ 65536 < many ∨ a < 0 ∨ (s.size : Int) < a then ([], 0, 1200) else
    match goInts s.data.toList many.toNat 0 a with
    | none => ([], 0, 1200)
    | some r => (r.1, r.2, 0)

theorem zig_le (x : Int) (m : Nat) (h1 : -(m : Int) ≤ x) (h2 : x ≤ (m : Int)) : Wr.zig x ≤ 2 * m := by
  unfold Wr.zig; split <;> omega
theorem putL_five (x : Int) (h1 : -8589934592 ≤ x) (h2 : x ≤ 8589934592) : (Wr.putL x).length ≤ 5 := by
  unfold Wr.putL
  split
  · have := zig_le x 8589934592 (by omega) (by omega)
    exact Wr.vb_len 9 (Wr.zig x) 4 (by simp; omega)
  · simp
theorem putL_seven (k : Nat) (h : k ≤ 140737488355328) : (Wr.putL (k : Int)).length ≤ 7 := by
  unfold Wr.putL
  split
  · have := zig_le (k : Int) k (by omega) (by omega)
    exact Wr.vb_len 9 (Wr.zig k) 6 (by simp; omega)
  · simp
theorem putL_one (x : Int) (h1 : -64 ≤ x) (h2 : x ≤ 63) : (Wr.putL x).length = 1 := by
  have hn : Wr.isNum x = true := (Wr.isNum_iff x).2 (by omega)
  unfold Wr.putL
  rw [if_pos hn]
  have : Wr.zig x < 128 := by unfold Wr.zig; split <;> omega
  rw [Wr.vb_small _ _ this]; rfl
theorem intsD_len (last : Int) (xs : List Int) (hl : Pt.smallB last = true) (h : xs.all Pt.smallB = true) : (intsD last xs).length ≤ 5 * xs.length := by
  induction xs generalizing last with
  | nil => simp [intsD]
  | cons x xs ih =>
    rw [List.all_cons, Bool.and_eq_true] at h
    have h1 := ih x h.1 h.2
    have hs := (Pt.smallB_iff _).1 h.1
    have hl' := (Pt.smallB_iff _).1 hl
    have h2 : (Wr.putL (x - last)).length ≤ 5 := putL_five (x - last) (by omega) (by omega)
    rw [intsD, List.length_append, List.length_cons]; omega
/-- one step more -/
theorem goInts_more (l : List UInt8) (n : Nat) (last a d to : Int) (h : Wr.getN l a = (d, to, 0)) (hs : Pt.smallB (last + d) = true) : goInts l (n + 1) last a = (goInts l n (last + d) to).map fun r => ((last + d) :: r.1, r.2) := by
  rw [goInts, h, if_pos ⟨rfl, hs⟩]
theorem goInts_stop (l : List UInt8) (n : Nat) (last a : Int) (h : (Wr.getN l a).2.2 ≠ 0 ∨ Pt.smallB (last + (Wr.getN l a).1) = false) : goInts l (n + 1) last a = none := by
  rw [goInts, if_neg]
  rintro ⟨h1, h2⟩
  rcases h with h | h
  · exact h h1
  · rw [h] at h2; cases h2
theorem goInts_put (l : List UInt8) (xs : List Int) (pre post : List UInt8) (last : Int) (hl : l = pre ++ (intsD last xs ++ post)) (hs : Pt.smallB last = true) (h : xs.all Pt.smallB = true) :
    goInts l xs.length last (pre.length : Int) = some (xs, (pre.length : Int) + ((intsD last xs).length : Int)) := by
  induction xs generalizing pre last with
  | nil => simp [goInts, intsD]
  | cons x xs ih =>
    rw [List.all_cons, Bool.and_eq_true] at h
    have hx := (Pt.smallB_iff _).1 h.1
    have hl' := (Pt.smallB_iff _).1 hs
    rw [intsD, List.append_assoc] at hl
    have hg : Wr.getN l (pre.length : Int) = (x - last, (pre.length : Int) + ((Wr.putL (x - last)).length : Int), 0) := by
      rw [hl]; exact Wr.getN_put _ _ _ ((Wr.isNum_iff _).2 (by omega))
    have e : last + (x - last) = x := by omega
    have h2 := ih (pre ++ Wr.putL (x - last)) x (by rw [hl]; simp) h.1 h.2
    rw [List.length_append, Int.natCast_add] at h2
    rw [List.length_cons, goInts_more l _ last _ _ _ hg (by rw [e]; exact h.1), e, h2, intsD, List.length_append]
    simp only [Option.map_some, Int.natCast_add, Int.add_assoc]

/-! texts -/
def idx (ws : List ByteArray) (x : ByteArray) : Nat := ws.findIdx fun w => decide (w = x)
def txGo : List ByteArray → List ByteArray → List ByteArray × List Nat
  | ws, [] => (ws, [])
  | ws, x :: xs =>
    if idx ws x < ws.length then ((txGo ws xs).1, idx ws x :: (txGo ws xs).2)
    else ((txGo (ws ++ [x]) xs).1, ws.length :: (txGo (ws ++ [x]) xs).2)
def wordsL (ws : List ByteArray) : List UInt8 := ws.flatMap fun w => (Wr.textB w).data.toList
def placesL (ks : List Nat) : List UInt8 := ks.flatMap fun (k : Nat) => Wr.putL (k : Int)
def textsL (xs : List ByteArray) : List UInt8 := Wr.putL ((txGo [] xs).1.length : Int) ++ wordsL (txGo [] xs).1 ++ placesL (txGo [] xs).2
def shortB (xs : List ByteArray) : Bool := xs.all fun x => decide (x.size ≤ 12)
def textsB (xs : List ByteArray) : ByteArray := if shortB xs then ⟨(textsL xs).toArray⟩ else ⟨#[]⟩
theorem idx_le (ws : List ByteArray) (x : ByteArray) : idx ws x ≤ ws.length := List.findIdx_le_length
theorem idx_lt {ws : List ByteArray} {x : ByteArray} (h : idx ws x < ws.length) : ws[idx ws x] = x := by
  have := List.findIdx_getElem (w := h)
  exact of_decide_eq_true this
theorem idx_first {ws : List ByteArray} {x : ByteArray} {k : Nat} (hk : k < ws.length) (h : ws[k] = x) (hb : ∀ j (hj : j < k), ws[j]'(by omega) ≠ x) : idx ws x = k := by
  unfold idx
  rw [List.findIdx_eq hk]
  exact ⟨by simpa using h, fun j hj => by simpa using hb j hj⟩
theorem idx_none {ws : List ByteArray} {x : ByteArray} (h : ∀ j (hj : j < ws.length), ws[j] ≠ x) : idx ws x = ws.length := by
  unfold idx
  rw [List.findIdx_eq_length]
  intro w hw
  obtain ⟨j, hj, rfl⟩ := List.getElem_of_mem hw
  simpa using h j hj

def rdWords (s : ByteArray) : Nat → List ByteArray → Int → Option (List ByteArray × Int)
  | 0, ws, a => some (ws, a)
  | n + 1, ws, a => if (Wr.getT s a 12).2.2 = 0 ∧ ¬ idx ws (Wr.getT s a 12).1 < ws.length then rdWords s n (ws ++ [(Wr.getT s a 12).1]) (Wr.getT s a 12).2.1 else none
def rdPlaces (l : List UInt8) (ws : List ByteArray) : Nat → Nat → Int → Option (List ByteArray × Nat × Int)
  | 0, used, a => some ([], used, a)
  | n + 1, used, a =>
    if (Wr.getN l a).2.2 = 0 ∧ 0 ≤ (Wr.getN l a).1 ∧ (Wr.getN l a).1 < (ws.length : Int) ∧ (Wr.getN l a).1 ≤ (used : Int) then
      (rdPlaces l ws n (if (Wr.getN l a).1 = (used : Int) then used + 1 else used) (Wr.getN l a).2.1).map fun r => (ws.getD (Wr.getN l a).1.toNat ⟨#[]⟩ :: r.1, r.2)
    else none
def getTexts (s : ByteArray) (a many : Int) : List ByteArray × Int × Int :=
  if many < 0 ∨ 65536 < many ∨ a < 0 ∨ (s.size : Int) < a then ([], 0, 1200) else
    if (Wr.getN s.data.toList a).2.2 ≠ 0 ∨ (Wr.getN s.data.toList a).1 < 0 ∨ many < (Wr.getN s.data.toList a).1 then ([], 0, 1200) else
      match rdWords s (Wr.getN s.data.toList a).1.toNat [] (Wr.getN s.data.toList a).2.1 with
      | none => ([], 0, 1200)
      | some (ws, b) =>
        match rdPlaces s.data.toList ws many.toNat 0 b with
        | none => ([], 0, 1200)
        | some (l, u, c) => if u = ws.length then (l, c, 0) else ([], 0, 1200)
end Go.Proofs.Ythdbmgjlegpbaaa.Cl
