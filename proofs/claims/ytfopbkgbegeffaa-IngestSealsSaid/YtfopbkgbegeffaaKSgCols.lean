/- A segment's columns, read: plain, and the walk through segment.columns. -/
import Derived.Test.YtfopbkgbegeffaaK9
import Derived.Test.YtfopbkgbegeffaaK10
import Derived.Deep.RegionHeld3
import Derived.Deep.AppendLies
import Derived.Deep.DrawnRows
namespace Go.Proofs.Ytfopbkgbegeffaa
open Go.RowKit
set_option linter.unusedVariables false

def Sg.zip (n : Nat) (N : List ByteArray) (T V : List Int) : List Pt.Point := (List.range n).map fun i => (N.getD i ⟨#[]⟩, T.getD i 0, V.getD i 0)
abbrev Sg.no : Int × List Pt.Point × Bool := (0, [], false)
def Sg.colsR (s : ByteArray) : Int × List Pt.Point × Bool :=
  if (Pt.rdNum s 0 64 (Pt.rdNum s 1 512 (4, false)).2).2.2 = true ∨ s.extract 0 4 ≠ Sg.mark then Sg.no else
    if (Cl.getTexts s (Pt.rdNum s 0 64 (Pt.rdNum s 1 512 (4, false)).2).2.1 (Pt.rdNum s 0 64 (Pt.rdNum s 1 512 (4, false)).2).1).2.2 ≠ 0 ∨
      (Cl.getInts s (Cl.getTexts s (Pt.rdNum s 0 64 (Pt.rdNum s 1 512 (4, false)).2).2.1 (Pt.rdNum s 0 64 (Pt.rdNum s 1 512 (4, false)).2).1).2.1 (Pt.rdNum s 0 64 (Pt.rdNum s 1 512 (4, false)).2).1).2.2 ≠ 0 ∨
      (Cl.getInts s (Cl.getInts s (Cl.getTexts s (Pt.rdNum s 0 64 (Pt.rdNum s 1 512 (4, false)).2).2.1 (Pt.rdNum s 0 64 (Pt.rdNum s 1 512 (4, false)).2).1).2.1 (Pt.rdNum s 0 64 (Pt.rdNum s 1 512 (4, false)).2).1).2.1 (Pt.rdNum s 0 64 (Pt.rdNum s 1 512 (4, false)).2).1).2.2 ≠ 0 ∨
      (Cl.getInts s (Cl.getInts s (Cl.getTexts s (Pt.rdNum s 0 64 (Pt.rdNum s 1 512 (4, false)).2).2.1 (Pt.rdNum s 0 64 (Pt.rdNum s 1 512 (4, false)).2).1).2.1 (Pt.rdNum s 0 64 (Pt.rdNum s 1 512 (4, false)).2).1).2.1 (Pt.rdNum s 0 64 (Pt.rdNum s 1 512 (4, false)).2).1).2.1 ≠ (s.size : Int) then Sg.no else
      ((Pt.rdNum s 1 512 (4, false)).1,
        Sg.zip (Pt.rdNum s 0 64 (Pt.rdNum s 1 512 (4, false)).2).1.toNat (Cl.getTexts s (Pt.rdNum s 0 64 (Pt.rdNum s 1 512 (4, false)).2).2.1 (Pt.rdNum s 0 64 (Pt.rdNum s 1 512 (4, false)).2).1).1 (Cl.getInts s (Cl.getTexts s (Pt.rdNum s 0 64 (Pt.rdNum s 1 512 (4, false)).2).2.1 (Pt.rdNum s 0 64 (Pt.rdNum s 1 512 (4, false)).2).1).2.1 (Pt.rdNum s 0 64 (Pt.rdNum s 1 512 (4, false)).2).1).1 (Cl.getInts s (Cl.getInts s (Cl.getTexts s (Pt.rdNum s 0 64 (Pt.rdNum s 1 512 (4, false)).2).2.1 (Pt.rdNum s 0 64 (Pt.rdNum s 1 512 (4, false)).2).1).2.1 (Pt.rdNum s 0 64 (Pt.rdNum s 1 512 (4, false)).2).1).2.1 (Pt.rdNum s 0 64 (Pt.rdNum s 1 512 (4, false)).2).1).1,
        Sg.riseB (Sg.zip (Pt.rdNum s 0 64 (Pt.rdNum s 1 512 (4, false)).2).1.toNat (Cl.getTexts s (Pt.rdNum s 0 64 (Pt.rdNum s 1 512 (4, false)).2).2.1 (Pt.rdNum s 0 64 (Pt.rdNum s 1 512 (4, false)).2).1).1 (Cl.getInts s (Cl.getTexts s (Pt.rdNum s 0 64 (Pt.rdNum s 1 512 (4, false)).2).2.1 (Pt.rdNum s 0 64 (Pt.rdNum s 1 512 (4, false)).2).1).2.1 (Pt.rdNum s 0 64 (Pt.rdNum s 1 512 (4, false)).2).1).1 (Cl.getInts s (Cl.getInts s (Cl.getTexts s (Pt.rdNum s 0 64 (Pt.rdNum s 1 512 (4, false)).2).2.1 (Pt.rdNum s 0 64 (Pt.rdNum s 1 512 (4, false)).2).1).2.1 (Pt.rdNum s 0 64 (Pt.rdNum s 1 512 (4, false)).2).1).2.1 (Pt.rdNum s 0 64 (Pt.rdNum s 1 512 (4, false)).2).1).1))
section
variable {s : ByteArray} {r : Int} {st1 : Pt.St} {n : Nat} {a : Int} (h1 : Pt.rdNum s 1 512 (4, false) = (r, st1)) 
theorem cols_bad {nI : Int} {st2 : Pt.St} (h1 : Pt.rdNum s 1 512 (4, false) = (r, st1)) (h2 : Pt.rdNum s 0 64 st1 = (nI, st2)) (h : st2.2 = true ∨ s.extract 0 4 ≠ Sg.mark) : Sg.colsR s = Sg.no := by
  unfold Sg.colsR; rw [h1]; simp only; rw [h2]; simp only; rw [if_pos h]
variable {N : List ByteArray} {T V : List Int} {b c d : Int} {e f g : Int}
theorem cols_no (h1 : Pt.rdNum s 1 512 (4, false) = (r, st1)) (h2 : Pt.rdNum s 0 64 st1 = ((n : Int), (a, false))) (h3 : Cl.getTexts s a (n : Int) = (N, b, e)) (h4 : Cl.getInts s b (n : Int) = (T, c, f)) (h5 : Cl.getInts s c (n : Int) = (V, d, g)) (h : e ≠ 0 ∨ f ≠ 0 ∨ g ≠ 0 ∨ d ≠ (s.size : Int)) : Sg.colsR s = Sg.no := by
  unfold Sg.colsR; rw [h1]; simp only; rw [h2]; simp only; rw [h3]; simp only; rw [h4]; simp only; rw [h5]; simp only
  by_cases hq : false = true ∨ s.extract 0 4 ≠ Sg.mark
  · rw [if_pos hq]
  · rw [if_neg hq, if_pos h]
theorem cols_yes (h1 : Pt.rdNum s 1 512 (4, false) = (r, st1)) (h2 : Pt.rdNum s 0 64 st1 = ((n : Int), (a, false))) (hm : s.extract 0 4 = Sg.mark) (h3 : Cl.getTexts s a (n : Int) = (N, b, 0)) (h4 : Cl.getInts s b (n : Int) = (T, c, 0)) (h5 : Cl.getInts s c (n : Int) = (V, (s.size : Int), 0)) : Sg.colsR s = (r, Sg.zip n N T V, Sg.riseB (Sg.zip n N T V)) := by
  unfold Sg.colsR; rw [h1]; simp only; rw [h2]; simp only; rw [h3]; simp only; rw [h4]; simp only; rw [h5]; simp only
  rw [if_neg (by simp [hm]), if_neg (by simp), Int.toNat_natCast]
end
theorem zip_len (n : Nat) (N : List ByteArray) (T V : List Int) : (Sg.zip n N T V).length = n := by simp [Sg.zip]
theorem zip_snoc (k : Nat) (N : List ByteArray) (T V : List Int) (h1 : k < N.length) (h2 : k < T.length) (h3 : k < V.length) : Sg.zip (k + 1) N T V = Sg.zip k N T V ++ [(N[k], T[k], V[k])] := by
  unfold Sg.zip
  rw [List.range_succ, List.map_append]
  simp [List.getD_eq_getElem?_getD, List.getElem?_eq_getElem h1, List.getElem?_eq_getElem h2, List.getElem?_eq_getElem h3]

theorem getInts_wf (s : ByteArray) (a m : Int) : ∀ x ∈ (Cl.getInts s a m).1, Pt.smallB x = true := by
  have key : ∀ (l : List UInt8) (n : Nat) (last a : Int) (r : List Int × Int), Cl.goInts l n last a = some r → ∀ x ∈ r.1, Pt.smallB x = true := by
    intro l n
    induction n with
    | zero => intro last a r h; simp [Cl.goInts] at h; rw [← h]; simp
    | succ n ih =>
      intro last a r h
      rw [Cl.goInts] at h
      split at h
      · rename_i hc
        rw [Option.map_eq_some_iff] at h
        obtain ⟨q, hq, rfl⟩ := h
        intro x hx
        rcases List.mem_cons.1 hx with rfl | hx
        · exact hc.2
        · exact ih _ _ q hq x hx
      · cases h
  unfold Cl.getInts
  split
  · simp
  · split
    · simp
    · rename_i hr
      exact key _ _ _ _ _ hr
theorem goInts_len' (l : List UInt8) (n : Nat) (last a : Int) (r : List Int × Int) (h : Cl.goInts l n last a = some r) : r.1.length = n := by
  induction n generalizing last a r with
  | zero => simp [Cl.goInts] at h; rw [← h]; rfl
  | succ n ih =>
    rw [Cl.goInts] at h
    split at h
    · rw [Option.map_eq_some_iff] at h
      obtain ⟨q, hq, rfl⟩ := h
      simp [ih _ _ q hq]
    · cases h
theorem getInts_ok_len {s : ByteArray} {a : Int} {n : Nat} {T : List Int} {c : Int} (h : Cl.getInts s a (n : Int) = (T, c, 0)) : T.length = n ∧ 0 ≤ a ∧ a ≤ (s.size : Int) := by
  unfold Cl.getInts at h
  split at h
  · simp at h
  · rename_i hc
    split at h
    · simp at h
    · rename_i r hr
      have := goInts_len' _ _ _ _ _ hr
      rw [Int.toNat_natCast] at this
      simp only [Prod.mk.injEq] at h
      rw [← h.1]; exact ⟨this, by omega, by omega⟩
theorem rdPlaces_len' (l : List UInt8) (ws : List ByteArray) (n used : Nat) (a : Int) (r : List ByteArray × Nat × Int) (h : Cl.rdPlaces l ws n used a = some r) : r.1.length = n := by
  induction n generalizing used a r with
  | zero => simp [Cl.rdPlaces] at h; rw [← h]; rfl
  | succ n ih =>
    rw [Cl.rdPlaces] at h
    split at h
    · rw [Option.map_eq_some_iff] at h
      obtain ⟨q, hq, rfl⟩ := h
      simp [ih _ _ q hq]
    · cases h
theorem getTexts_ok_len {s : ByteArray} {a : Int} {n : Nat} {N : List ByteArray} {c : Int} (h : Cl.getTexts s a (n : Int) = (N, c, 0)) : N.length = n := by
  unfold Cl.getTexts at h
  split at h
  · simp at h
  · split at h
    · simp at h
    · split at h
      · simp at h
      · split at h
        · simp at h
        · rename_i hr
          split at h
          · have := rdPlaces_len' _ _ _ _ _ _ hr
            rw [Int.toNat_natCast] at this
            simp only [Prod.mk.injEq] at h
            rw [← h.1]; exact this
          · simp at h
theorem getInts_at (s : ByteArray) (a m : Int) (hs : s.size ≤ 4611686018427387904) (ha : -9223372036854775808 ≤ a ∧ a ≤ 9223372036854775807) : -9223372036854775808 ≤ (Cl.getInts s a m).2.1 ∧ (Cl.getInts s a m).2.1 ≤ 9223372036854775807 := by
  have key : ∀ (n : Nat) (last a : Int) (r : List Int × Int), (-9223372036854775808 ≤ a ∧ a ≤ 9223372036854775807) → Cl.goInts s.data.toList n last a = some r → -9223372036854775808 ≤ r.2 ∧ r.2 ≤ 9223372036854775807 := by
    intro n
    induction n with
    | zero => intro last a r ha h; simp [Cl.goInts] at h; rw [← h]; exact ha
    | succ n ih =>
      intro last a r ha h
      rw [Cl.goInts] at h
      split at h
      · rw [Option.map_eq_some_iff] at h
        obtain ⟨q, hq, rfl⟩ := h
        exact ih _ _ q (getN_bd' s a hs).1 hq
      · cases h
  unfold Cl.getInts
  split
  · simp
  · split
    · simp
    · rename_i hr
      exact key _ _ _ _ ha hr
theorem getTexts_at (s : ByteArray) (a m : Int) (hs : s.size ≤ 4611686018427387904) : -9223372036854775808 ≤ (Cl.getTexts s a m).2.1 ∧ (Cl.getTexts s a m).2.1 ≤ 9223372036854775807 := by
  have key : ∀ (ws : List ByteArray) (n used : Nat) (a : Int) (r : List ByteArray × Nat × Int), (-9223372036854775808 ≤ a ∧ a ≤ 9223372036854775807) → Cl.rdPlaces s.data.toList ws n used a = some r → -9223372036854775808 ≤ r.2.2 ∧ r.2.2 ≤ 9223372036854775807 := by
    intro ws n
    induction n with
    | zero => intro used a r ha h; simp [Cl.rdPlaces] at h; rw [← h]; exact ha
    | succ n ih =>
      intro used a r ha h
      rw [Cl.rdPlaces] at h
      split at h
      · rw [Option.map_eq_some_iff] at h
        obtain ⟨q, hq, rfl⟩ := h
        exact ih _ _ q (getN_bd' s a hs).1 hq
      · cases h
  have key2 : ∀ (n : Nat) (ws : List ByteArray) (a : Int) (r : List ByteArray × Int), (-9223372036854775808 ≤ a ∧ a ≤ 9223372036854775807) → Cl.rdWords s n ws a = some r → -9223372036854775808 ≤ r.2 ∧ r.2 ≤ 9223372036854775807 := by
    intro n
    induction n with
    | zero => intro ws a r ha h; simp [Cl.rdWords] at h; rw [← h]; exact ha
    | succ n ih =>
      intro ws a r ha h
      rw [Cl.rdWords] at h
      split at h
      · have := Pt.getT_at s a 12
        exact ih _ _ r (by omega) h
      · cases h
  unfold Cl.getTexts
  split
  · simp
  · split
    · simp
    · split
      · simp
      · rename_i hw
        split
        · simp
        · rename_i hr
          split
          · exact key _ _ _ _ _ (key2 _ _ _ _ (getN_bd' s a hs).1 hw) hr
          · simp
theorem zip_wf {n : Nat} {N : List ByteArray} {T V : List Int} (hT : ∀ x ∈ T, Pt.smallB x = true) (hV : ∀ x ∈ V, Pt.smallB x = true) : ∀ p ∈ Sg.zip n N T V, Pt.wf p := by
  intro p hp
  unfold Sg.zip at hp
  rw [List.mem_map] at hp
  obtain ⟨i, _, rfl⟩ := hp
  have sm : ∀ (L : List Int), (∀ x ∈ L, Pt.smallB x = true) → -2147483648 ≤ L.getD i 0 ∧ L.getD i 0 ≤ 2147483647 := by
    intro L hL
    rw [List.getD_eq_getElem?_getD]
    cases h : L[i]? with
    | none => simp
    | some y => exact (Pt.smallB_iff y).1 (hL y (List.mem_of_getElem? h))
  have h1 := sm T hT
  have h2 := sm V hV
  exact ⟨⟨show -9223372036854775808 ≤ T.getD i 0 by omega, show T.getD i 0 ≤ 9223372036854775807 by omega⟩, ⟨show -9223372036854775808 ≤ V.getD i 0 by omega, show V.getD i 0 ≤ 9223372036854775807 by omega⟩⟩
end Go.Proofs.Ytfopbkgbegeffaa
