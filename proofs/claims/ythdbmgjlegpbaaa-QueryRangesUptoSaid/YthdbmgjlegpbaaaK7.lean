/- Joined texts: SgCols, SgCols2, SgGet, QrLast, QrLast2. -/
import Derived.Test.YthdbmgjlegpbaaaK1
import Derived.Test.YthdbmgjlegpbaaaK2
import Derived.Test.YthdbmgjlegpbaaaK6
import Derived.Deep.RegionHeld3
import Derived.Deep.AppendLies
import Derived.Deep.DrawnRows
import Derived.Scope
import Derived.ControlIn
/- A segment's columns, read: plain, and the walk through segment.columns. -/
namespace Go.Proofs.Ythdbmgjlegpbaaa
open Go.RowKit
set_option linter.unusedVariables false

def Sg.zip (n : Nat) (N : List ByteArray) (T V : List Int) : List Pt.Point := (List.range n).map fun i => (N.getD i ⟨#[]⟩, T.getD i 0, V.getD i 0)
abbrev Sg.no : Int × List Pt.Point × Bool := (0, [], false)
def Sg.colsR (s : ByteArray) : Int × List Pt.Point × Bool :=
  if (Pt.rdNum s 0 64 (Pt.rdNum s 1 512 (4, false)).2).2.2 = true ∨ s.extract 0 4 ≠ Sg.mark then Sg.no else
    if (Cl.getTexts s (Pt.rdNum s 0 64 (Pt.rdNum s 1 512 (4, false)).2).2.1 (Pt.rdNum s 0 64 (Pt.rdNum s 1 512 (4, false)).2).1).2.2 ≠ 0 ∨
      (Cl.getInts s (Cl.getTexts s (Pt.rdNum s 0 64 (Pt.rdNum s 1 512 (4, false)).2).2.1 (Pt.rdNum s 0 64 (Pt.rdNum s 1 512 (4, false)).2).1).2.1 (Pt.rdNum s 0 64 (Pt.rdNum s 1 512 (4, false)).2).1).2.2 ≠ 0 ∨
      (Cl.getInts s (Cl.getInts s (Cl.getTexts s (Pt.rdNum s 0 64 (Pt.rdNum s 1 512 (4, false)).2).2.1 (Pt.rdNum s 0 64 (Pt.rdNum s 1 512 (4, false)).2).1).2.1 (Pt.rdNum s 0 64 (Pt.rdNum s 1 512 (4, false)).2).1).2.1 (Pt.rdNum s 0 64 (Pt.rdNum s 1 512 (4, false)).2).1).2.2 ≠ 0 ∨
      (Cl.getInts s (Cl.getInts s (Cl.getTexts s (Pt.rdNum s 0 64 (Pt.rdNum s 1 512 (4, false)).2).2.1 (Pt.rdNum s 0 64 (Pt.rdNum s 1 512 (4, false)).2).1).2.1 (Pt.rdNum s 0 64 (Pt.rdNum s 1 512 (4, false)).2).1).2.1 (Pt.rdNum s 0 64 (Pt.rdNum s 1 512 (4, false)).2).1).2.1 ≠ (s.size : Int) then Sg.no else
      ((Pt.rdNum s 1 512 (4, false)).1,
        Sg.zip (Pt.rdNum s 0 64 (Pt.rdNum s 1 512 (4, false)).2).1.toNat (Cl.getTexts s (Pt.rdNum s 0 64 (Pt.rdNum s 1 512 (4, false)).2).2.1 (Pt.rdNum s 0 64 (Pt.rdNum s 1 512 (4, false)).2).1).1 (Cl.getInts s (Cl.getTexts s (Pt.rdNum s 0 64 (Pt.rdNum s 1 512 (4, false)).2).2.1 (Pt.rdNum s 0 64 (Pt.rdNum s 1 512 (4, false)).2).1).2.1 (Pt.rdNum s 0 64 (Pt.rdNum s 1 512 (4, false)).2).1).1 (Cl.getInts s (Cl.getInts s (Cl.getTexts s (Pt.rdNum s 0 64 (Pt.rdNum s 1 512 (4, false)).2).2.1 (Pt.rdNum s 0 64 (Pt.rdNum s 1 512 (4, false)).2).1).2.1 (Pt.rdNum s 0 64 (Pt.rdNum s 1 512 (4, false)).2).1).2.1 (Pt.rdNum s 0 64 (Pt.rdNum s 1 512 (4, false)).2).1).1,
        Sg.riseB (Sg.zip (Pt.rdNum s 0 64 (Pt.rdNum s 1 512 (4, false)).2).1.toNat (Cl.getTexts s (Pt.rdNum s 0 64 (Pt.rdNum s 1 512 (4, false)).2).2.1 (Pt.rdNum s 0 64 (Pt.rdNum s 1 512 (4, false)).2).1).1 (Cl.getInts s (Cl.getTexts s (Pt.rdNum s 0 64 (Pt.rdNum s 1 512 (4, false)).2).2.1 (Pt.rdNum s 0 64 (Pt.rdNum s 1 512 (4, false)).2).1).2.1 (Pt.rdNum s 0 64 (Pt.rdNum s 1 512 (4, false)).2).1).1 (Cl.getInts s (Cl.getInts s (Cl.getTexts s (Pt.rdNum s 0 64 (Pt.rdNum s 1 512 (4, false)).2).2.1 (Pt.rdNum s 0 64 (Pt.rdNum s 1 512 (4, false)).2).1).2.1 (Pt.rdNum s 0 64 (Pt.rdNum s 1 512 (4, false)).2).1).2.1 (Pt.rdNum s 0 64 (Pt.rdNum s 1 512 (4, false)).2).1).1))
section
variable {s : ByteArray} {r : Int} {st1 : Pt.St} {n : Nat} {a : Int} (h1 : Pt.rdNum s 1 512 (4, false) = (r, st1)) 
theorem cols_bad {nI : Int} {st2 : Pt.St} (h1 : Pt.rdNum s 1 512 (4, false) = (r, st1)) (h2 : Pt.rdNum s 0 64 st1 = (nI, st2)) (h : st2.2 = true ∨ s.extract 0 4 ≠ Sg.mark) : Sg.colsR s = Sg.no := by
  unfold Sg.colsR; rw [h1]; simp only; rw [h2]; simp only; rw [if_pos h]
variable {N : List ByteArray} {T V : List Int} {b c d : Int} {e f g : Int}
theorem cols_no (h1 : Pt.rdNum s 1 512 (4, false) = (r, st1)) (h2 : Pt.rdNum s 0 64 st1 = ((n : Int), (a, false))) (h3 : Cl.getTexts s a (n : Int) = (N, b, e)) (h4 : Cl.getInts s b (n : Int) = (T, c, f)) (h5 : Cl.getInts s c (n : Int) = (V, d, g)) (h : e ≠ 0 ∨ f ≠ 0 ∨ g ≠ 0 ∨ d ≠ (s.size : Int)) : Sg.colsR s = Sg.no := by
  unfold Sg.colsR; rw [h1]; simp only; rw [h2]; simp only; rw [h3]; simp only; rw [h4]; simp only; rw [h5]; simp only
  by_cases hq : false = true ∨ s.extract 0 4 ≠ Sg.mark
  · rw [if_pos hq]
  · rw [if_neg hq, if_pos h]
theorem cols_yes (h1 : Pt.rdNum s 1 512 (4, false) = (r, st1)) (h2 : Pt.rdNum s 0 64 st1 = ((n : Int), (a, false))) (hm : s.extract 0 4 = Sg.mark) (h3 : Cl.getTexts s a (n : Int) = (N, b, 0)) (h4 : Cl.getInts s b (n : Int) = (T, c, 0)) (h5 : Cl.getInts s c (n : Int) = (V, (s.size : Int), 0)) : Sg.colsR s = (r, Sg.zip n N T V, Sg.riseB (Sg.zip n N T V)) := by
  unfold Sg.colsR; rw [h1]; simp only; rw [h2]; simp only; rw [h3]; simp only; rw [h4]; simp only; rw [h5]; simp only
  rw [if_neg (by simp [hm]), if_neg (by simp), Int.toNat_natCast]
end
theorem zip_len (n : Nat) (N : List ByteArray) (T V : List Int) : (Sg.zip n N T V).length = n := by simp [Sg.zip]
theorem zip_snoc (k : Nat) (N : List ByteArray) (T V : List Int) (h1 : k < N.length) (h2 : k < T.length) (h3 : k < V.length) : Sg.zip (k + 1) N T V = Sg.zip k N T V ++ [(N[k], T[k], V[k])] := by
  unfold Sg.zip
  rw [List.range_succ, List.map_append]
  simp [List.getD_eq_getElem?_getD, List.getElem?_eq_getElem h1, List.getElem?_eq_getElem h2, List.getElem?_eq_getElem h3]

theorem getInts_wf (s : ByteArray) (a m : Int) : ∀ x ∈ (Cl.getInts s a m).1, Pt.smallB x = true := by
  have key : ∀ (l : List UInt8) (n : Nat) (last a : Int) (r : List Int × Int), Cl.goInts l n last a = some r → ∀ x ∈ r.1, Pt.smallB x = true := by
    intro l n
    induction n with
    | zero => intro last a r h; simp [Cl.goInts] at h; rw [← h]; simp
    | succ n ih =>
      intro last a r h
      rw [Cl.goInts] at h
      split at h
      · rename_i hc
        rw [Option.map_eq_some_iff] at h
        obtain ⟨q, hq, rfl⟩ := h
        intro x hx
        rcases List.mem_cons.1 hx with rfl | hx
        · exact hc.2
        · exact ih _ _ q hq x hx
      · cases h
  unfold Cl.getInts
  split
  · simp
  · split
    · simp
    · rename_i hr
      exact key _ _ _ _ _ hr
theorem goInts_len' (l : List UInt8) (n : Nat) (last a : Int) (r : List Int × Int) (h : Cl.goInts l n last a = some r) : r.1.length = n := by
  induction n generalizing last a r with
  | zero => simp [Cl.goInts] at h; rw [← h]; rfl
  | succ n ih =>
    rw [Cl.goInts] at h
    split at h
    · rw [Option.map_eq_some_iff] at h
      obtain ⟨q, hq, rfl⟩ := h
      simp [ih _ _ q hq]
    · cases h
theorem getInts_ok_len {s : ByteArray} {a : Int} {n : Nat} {T : List Int} {c : Int} (h : Cl.getInts s a (n : Int) = (T, c, 0)) : T.length = n ∧ 0 ≤ a ∧ a ≤ (s.size : Int) := by
  unfold Cl.getInts at h
  split at h
  · simp at h
  · rename_i hc
    split at h
    · simp at h
    · rename_i r hr
      have := goInts_len' _ _ _ _ _ hr
      rw [Int.toNat_natCast] at this
      simp only [Prod.mk.injEq] at h
      rw [← h.1]; exact ⟨this, by omega, by omega⟩
theorem rdPlaces_len' (l : List UInt8) (ws : List ByteArray) (n used : Nat) (a : Int) (r : List ByteArray × Nat × Int) (h : Cl.rdPlaces l ws n used a = some r) : r.1.length = n := by
  induction n generalizing used a r with
  | zero => simp [Cl.rdPlaces] at h; rw [← h]; rfl
  | succ n ih =>
    rw [Cl.rdPlaces] at h
    split at h
    · rw [Option.map_eq_some_iff] at h
      obtain ⟨q, hq, rfl⟩ := h
      simp [ih _ _ q hq]
    · cases h
theorem getTexts_ok_len {s : ByteArray} {a : Int} {n : Nat} {N : List ByteArray} {c : Int} (h : Cl.getTexts s a (n : Int) = (N, c, 0)) : N.length = n := by
  unfold Cl.getTexts at h
  split at h
  · simp at h
  · split at h
    · simp at h
    · split at h
      · simp at h
      · split at h
        · simp at h
        · rename_i hr
          split at h
          · have := rdPlaces_len' _ _ _ _ _ _ hr
            rw [Int.toNat_natCast] at this
            simp only [Prod.mk.injEq] at h
            rw [← h.1]; exact this
          · simp at h
theorem getInts_at (s : ByteArray) (a m : Int) (hs : s.size ≤ 4611686018427387904) (ha : -9223372036854775808 ≤ a ∧ a ≤ 9223372036854775807) : -9223372036854775808 ≤ (Cl.getInts s a m).2.1 ∧ (Cl.getInts s a m).2.1 ≤ 9223372036854775807 := by
  have key : ∀ (n : Nat) (last a : Int) (r : List Int × Int), (-9223372036854775808 ≤ a ∧ a ≤ 9223372036854775807) → Cl.goInts s.data.toList n last a = some r → -9223372036854775808 ≤ r.2 ∧ r.2 ≤ 9223372036854775807 := by
    intro n
    induction n with
    | zero => intro last a r ha h; simp [Cl.goInts] at h; rw [← h]; exact ha
    | succ n ih =>
      intro last a r ha h
      rw [Cl.goInts] at h
      split at h
      · rw [Option.map_eq_some_iff] at h
        obtain ⟨q, hq, rfl⟩ := h
        exact ih _ _ q (getN_bd' s a hs).1 hq
      · cases h
  unfold Cl.getInts
  split
  · simp
  · split
    · simp
    · rename_i hr
      exact key _ _ _ _ ha hr
theorem getTexts_at (s : ByteArray) (a m : Int) (hs : s.size ≤ 4611686018427387904) : -9223372036854775808 ≤ (Cl.getTexts s a m).2.1 ∧ (Cl.getTexts s a m).2.1 ≤ 9223372036854775807 := by
  have key : ∀ (ws : List ByteArray) (n used : Nat) (a : Int) (r : List ByteArray × Nat × Int), (-9223372036854775808 ≤ a ∧ a ≤ 9223372036854775807) → Cl.rdPlaces s.data.toList ws n used a = some r → -9223372036854775808 ≤ r.2.2 ∧ r.2.2 ≤ 9223372036854775807 := by
    intro ws n
    induction n with
    | zero => intro used a r ha h; simp [Cl.rdPlaces] at h; rw [← h]; exact ha
    | succ n ih =>
      intro used a r ha h
      rw [Cl.rdPlaces] at h
      split at h
      · rw [Option.map_eq_some_iff] at h
        obtain ⟨q, hq, rfl⟩ := h
        exact ih _ _ q (getN_bd' s a hs).1 hq
      · cases h
  have key2 : ∀ (n : Nat) (ws : List ByteArray) (a : Int) (r : List ByteArray × Int), (-9223372036854775808 ≤ a ∧ a ≤ 9223372036854775807) → Cl.rdWords s n ws a = some r → -9223372036854775808 ≤ r.2 ∧ r.2 ≤ 9223372036854775807 := by
    intro n
    induction n with
    | zero => intro ws a r ha h; simp [Cl.rdWords] at h; rw [← h]; exact ha
    | succ n ih =>
      intro ws a r ha h
      rw [Cl.rdWords] at h
      split at h
      · have := Pt.getT_at s a 12
        exact ih _ _ r (by omega) h
      · cases h
  unfold Cl.getTexts
  split
  · simp
  · split
    · simp
    · split
      · simp
      · rename_i hw
        split
        · simp
        · rename_i hr
          split
          · exact key _ _ _ _ _ (key2 _ _ _ _ (getN_bd' s a hs).1 hw) hr
          · simp
theorem zip_wf {n : Nat} {N : List ByteArray} {T V : List Int} (hT : ∀ x ∈ T, Pt.smallB x = true) (hV : ∀ x ∈ V, Pt.smallB x = true) : ∀ p ∈ Sg.zip n N T V, Pt.wf p := by
  intro p hp
  unfold Sg.zip at hp
  rw [List.mem_map] at hp
  obtain ⟨i, _, rfl⟩ := hp
  have sm : ∀ (L : List Int), (∀ x ∈ L, Pt.smallB x = true) → -2147483648 ≤ L.getD i 0 ∧ L.getD i 0 ≤ 2147483647 := by
    intro L hL
    rw [List.getD_eq_getElem?_getD]
    cases h : L[i]? with
    | none => simp
    | some y => exact (Pt.smallB_iff y).1 (hL y (List.mem_of_getElem? h))
  have h1 := sm T hT
  have h2 := sm V hV
  exact ⟨⟨show -9223372036854775808 ≤ T.getD i 0 by omega, show T.getD i 0 ≤ 9223372036854775807 by omega⟩, ⟨show -9223372036854775808 ≤ V.getD i 0 by omega, show V.getD i 0 ≤ 9223372036854775807 by omega⟩⟩
end Go.Proofs.Ythdbmgjlegpbaaa
/- The walk through segment.columns. -/
namespace Go.Proofs.Ythdbmgjlegpbaaa
open Go.RowKit
set_option linter.unusedVariables false

def ColsPost (w : World) (q : Int × List Pt.Point × Bool) (e : Ending) (w' : World) : Prop :=
  ∃ v, e = .returned (.tuple #[.int .i64 q.1, v, .bool q.2.2]) ∧ w'.ownsRow w.heap.size 52 3 v q.2.1.length (q.2.1.flatMap pointCells) ∧ Below w.heap.size w w'
theorem info_pt : (Try.prog.info? 52).map (fun i => (i.zero, i.size, i.bytes)) = some (some (.agg #[.string ⟨#[]⟩, .int .i64 0, .int .i64 0]), 3, 32) := by kernel_rfl
theorem mark_ne {s : ByteArray} (h : s ≠ Sg.mark) : (s.toList == [83, 69, 71, 49]) = false := by
  have h1 := str_ne_of h
  have h2 : Sg.mark.toList = [83, 69, 71, 49] := by decide +kernel
  rwa [h2] at h1
attribute [local go_sem ↓] Go.wp_at_zero Go.wp_at_succ
set_option maxRecDepth 100000 in
set_option maxHeartbeats 3200000 in
theorem columns_any (s : ByteArray) (w : World) (hs : s.size ≤ 140737488355328) (h4 : 4 ≤ s.size) :
    Calls Try.prog 94 #[.string s] w (ColsPost w (Sg.colsR s)) := by
  obtain ⟨i0, hi, hz0, hz1, hz2⟩ := info_parts info_pt
  have HR0 := Lib.hid (RdAt.new w s 4)
  have Hb0 : Hid (Below w.heap.size w (w.alloc (.cells #[.string s, .int .i64 4, .bool false] 83))) := (Below.refl _ _).alloc (Nat.le_refl _) _
  have Hz : Hid ((w.alloc (.cells #[.string s, .int .i64 4, .bool false] 83)).heap.size = w.heap.size + 1) := by simp [Hid]
  have H0 := Lib.hid (readerNum_any s 4 false 1 512 _ w.heap.size HR0.out (by omega) (by omega))
  have CB := @cols_bad s
  have CN := @cols_no s
  have CY := @cols_yes s
  have hat1 := Pt.rdNum_at s 1 512 (4, false) (by simp) (by simp) (by omega)
  generalize Sg.colsR s = res at *
  generalize hX1 : Pt.rdNum s 1 512 (4, false) = X1 at *
  obtain ⟨r, a1, b1⟩ := X1
  simp only at hat1
  have hat2 := Pt.rdNum_at s 0 64 (a1, b1) hat1.2 hat1.1 (by omega)
  have hrn2 := Pt.rdNum_range s 0 64 (a1, b1) (by omega) (by omega)
  have H1 := fun W h => Lib.hid (readerNum_any s a1 b1 0 64 W w.heap.size h (by omega) hat1)
  generalize hX2 : Pt.rdNum s 0 64 (a1, b1) = X2 at *
  obtain ⟨nI, a2, b2⟩ := X2
  simp only at hat2 hrn2
  obtain ⟨n, rfl⟩ : ∃ n : Nat, nI = n := ⟨nI.toNat, by omega⟩
  have CB' := Lib.hid (fun h => CB rfl hX2 h)
  have HX2 := Lib.hid hX2
  have HX1 := Lib.hid hX1
  clear CB hX1 hX2
  go_enter Try.func94, Try.ntmps94
  go_wp2_with fail
  refine H0.out.mono ?_
  rintro e w1 ⟨rfl, hR1, ho1⟩
  have HR1 := Lib.hid hR1
  have Hb1 : Hid (Below w.heap.size w w1) := Hb0.out.trans (ho1.below (fun j hj e => by omega) (by have := Hz.out; omega))
  clear hR1 ho1 H0 HR0 Hb0 Hz
  go_wp2_with fail
  refine (H1 w1 HR1.out).out.mono ?_
  rintro e w2 ⟨rfl, hR2, ho2⟩
  have HR2 := Lib.hid hR2
  have Hb2 : Hid (Below w.heap.size w w2) := Hb1.out.trans (ho2.below (fun j hj e => by omega) Hb1.out.size)
  have hc1 := hR2.cell1
  have hc2 := hR2.cell2
  simp only at hc1 hc2
  have hs2 := Hb2.out.size
  clear hR2 ho2 H1 HR1 Hb1
  cases b2
  · by_cases hmk : s.extract 0 4 = Sg.mark
    · have hme : ((s.extract 0 4).toList == [83, 69, 71, 49]) = true := by rw [hmk]; decide +kernel
      have hme2 : ((s.extract 0 4).toList == (⟨#[83, 69, 71, 49]⟩ : ByteArray).toList) = true := by rw [hmk]; decide +kernel
      have H3 := fun W => Lib.hid (getTexts_any s a2 (n : Int) W (by omega) hat2)
      have hat3 := getTexts_at s a2 (n : Int) (by omega)
      have CN' := fun N T V b c d e f g => @CN r (a1, b1) n a2 N T V b c d e f g rfl HX2.out
      have CY' := fun N T V b c => @CY r (a1, b1) n a2 N T V b c rfl HX2.out hmk
      have GL := @getTexts_ok_len s a2 n
      clear CN CY CB' HX1
      generalize Cl.getTexts s a2 (n : Int) = Y1 at *
      obtain ⟨N, b, e3⟩ := Y1
      simp only at hat3
      have H4 := fun W => Lib.hid (getInts_any s b (n : Int) W (by omega) hat3)
      have hat4 := getInts_at s b (n : Int) (by omega) hat3
      have hwT := getInts_wf s b (n : Int)
      have GT := @getInts_ok_len s b n
      have CN2 := fun T V c d f g h4 h5 h => CN' N T V b c d e3 f g rfl h4 h5 h
      have CY2 := fun (he : e3 = 0) T V c h4 h5 => CY' N T V b c (by rw [he]) h4 h5
      clear CN' CY'
      generalize Cl.getInts s b (n : Int) = Y2 at *
      obtain ⟨T, c, e4⟩ := Y2
      simp only at hat4 hwT
      have H5 := fun W => Lib.hid (getInts_any s c (n : Int) W (by omega) hat4)
      have hwV := getInts_wf s c (n : Int)
      have GV := @getInts_ok_len s c n
      have CN3 := fun V d g h5 h => CN2 T V c d e4 g rfl h5 h
      have CY3 := fun (he : e3 = 0) (hf : e4 = 0) V h5 => CY2 he T V c (by rw [hf]) h5
      clear CN2 CY2
      generalize Cl.getInts s c (n : Int) = Y3 at *
      obtain ⟨V, d, e5⟩ := Y3
      simp only at hwV
      have CN4 := Lib.hid (fun h => CN3 V d e5 rfl h)
      have CY4 := Lib.hid (fun (he : e3 = 0) (hf : e4 = 0) (hg : e5 = 0) (hd : d = (s.size : Int)) => CY3 he hf V (by rw [hg, hd]))
      have HwT := Lib.hid hwT
      have HwV := Lib.hid hwV
      have GL' := Lib.hid (fun (h : e3 = 0) => GL (N := N) (c := b) (by rw [h]))
      have GT' := Lib.hid (fun (h : e4 = 0) => (GT (T := T) (c := c) (by rw [h])).1)
      have GV' := Lib.hid (fun (h : e5 = 0) => (GV (T := V) (c := d) (by rw [h])).1)
      clear CN3 CY3 hwT hwV GL GT GV hmk
      go_wp2_with fail
      refine (H3 w2).out.mono ?_
      rintro e w3 ⟨vN, rfl, hownN, hb3⟩
      have hs3 := hb3.size
      have Hb3 : Hid (Below w.heap.size w w3) := Hb2.out.trans (hb3.mono hs2)
      obtain ⟨AN, cN, rfl, hcapN, hrN⟩ := own_slice hownN
      have HrN := Lib.hid hrN
      clear H3 hownN hb3 hrN HR2 Hb2 hc1 hc2
      go_wp2_with fail
      refine (H4 w3).out.mono ?_
      rintro e w4 ⟨vT, rfl, hownT, hb4⟩
      have hs4 := hb4.size
      have Hb4 : Hid (Below w.heap.size w w4) := Hb3.out.trans (hb4.mono (by omega))
      obtain ⟨AT, cT, rfl, hcapT, hrT⟩ := own_slice hownT
      have HrT := Lib.hid hrT
      have HrN4 := Lib.hid (HrN.out.below hb4)
      clear H4 hownT hb4 hrT HrN Hb3
      go_wp2_with fail
      refine (H5 w4).out.mono ?_
      rintro e w5 ⟨vV, rfl, hownV, hb5⟩
      have hs5 := hb5.size
      have Hb5 : Hid (Below w.heap.size w w5) := Hb4.out.trans (hb5.mono (by omega))
      obtain ⟨AV, cV, rfl, hcapV, hrV⟩ := own_slice hownV
      have HrV := Lib.hid hrV
      have HrN5 := Lib.hid ((HrN4.out.below (hb5.mono hs4)).more (show w3.heap.size ≤ w5.heap.size by omega))
      have HrT5 := Lib.hid ((HrT.out.below hb5).more (show w4.heap.size ≤ w5.heap.size by omega))
      clear H5 hownV hb5 hrV HrN4 HrT Hb4
      simp only at HrN5 HrT5 HrV
      by_cases he3 : e3 = 0
      · by_cases he4 : e4 = 0
        · by_cases he5 : e5 = 0
          · by_cases hd : d = (s.size : Int)
            · have HR := Lib.hid (CY4.out he3 he4 he5 hd)
              have hlN := GL'.out he3
              have hlT := GT'.out he4
              have hlV := GV'.out he5
              subst he3 he4 he5
              subst hd
              have hwz := zip_wf (n := n) (N := N) HwT.out HwV.out
              have Hwz := Lib.hid hwz
              have HlN := Lib.hid hlN
              have HlT := Lib.hid hlT
              have HlV := Lib.hid hlV
              have l1 : n ≤ N.length := by omega
              have l2 : n ≤ T.length := by omega
              have l3 : n ≤ V.length := by omega
              clear hwz HwT HwV CY4 CN4 GL' GT' GV' hlN hlT hlV
              go_wp2_with fail
              go_loopw [3, 14, 75] (fun vp _ i wr => ∃ k : Nat, k ≤ n ∧ i = .int .i64 (k : Int) ∧ Hid (wr.ownsRow w5.heap.size 52 3 vp k ((Sg.zip k N T V).flatMap pointCells)) ∧ Hid (Below w5.heap.size w5 wr)) (fun _ _ i _ => n - (intOf i).toNat)
              case atStart => exact ⟨0, Nat.zero_le _, rfl, Lib.hid (own_nil _ _ _ _), Lib.hid (Below.refl _ _)⟩
              case round =>
                obtain ⟨k, hk, rfl, hown, hbw⟩ := hrel
                have hsw := hbw.out.size
                by_cases hlt : k < n
                · have g1 : k < N.length := by omega
                  have g2 : k < T.length := by omega
                  have g3 : k < V.length := by omega
                  obtain ⟨bN, oN, rfl, hbN, hxN⟩ := HrN5.out.2 (by omega)
                  obtain ⟨bT, oT, rfl, hbT, hxT⟩ := HrT5.out.2 (by omega)
                  obtain ⟨bV, oV, rfl, hbV, hxV⟩ := HrV.out.2 (by omega)
                  have cN' := map_cell (wr := wr) (B := w5.heap.size) g1 hxN (fun p hp => hbw.out.cell hp) hbN
                  have cT' := map_cell (wr := wr) (B := w5.heap.size) g2 hxT (fun p hp => hbw.out.cell hp) hbT
                  have cV' := map_cell (wr := wr) (B := w5.heap.size) g3 hxV (fun p hp => hbw.out.cell hp) hbV
                  have Hz := Lib.hid (zip_snoc k N T V g1 g2 g3)
                  have nN := Ne.symm (own_ne_lt hown.out hbN)
                  have nT := Ne.symm (own_ne_lt hown.out hbT)
                  have nV := Ne.symm (own_ne_lt hown.out hbV)
                  have k0 : (0 : Int) ≤ (k : Int) := Int.natCast_nonneg _
                  have k1 : (k : Int) < (N.length : Int) := by omega
                  have k2 : (k : Int) < (T.length : Int) := by omega
                  have k3 : (k : Int) < (V.length : Int) := by omega
                  clear hxN hxT hxV HrN5 HrT5 HrV
                  go_wp2_with fail
                  have hm64 : k + 1 ≤ maxLen := by unfold maxLen; omega
                  have Hown := hown
                  go_region_held3 (fun w' => w'.cell? ⟨bN, oN + k, none⟩ = some (.string N[k]) ∧ w'.cell? ⟨bT, oT + k, none⟩ = some (.int .i64 T[k]) ∧ w'.cell? ⟨bV, oV + k, none⟩ = some (.int .i64 V[k]))
                    (first
                      | go_keep
                      | (go_split_ands
                         refine ⟨?_, ?_, ?_⟩
                         · (rw [hgrow.cell_far _ (by simp; omega) nN]; assumption)
                         · (rw [hgrow.cell_far _ (by simp; omega) nT]; assumption)
                         · (rw [hgrow.cell_far _ (by simp; omega) nV]; assumption)))
                    ((refine step_append_lies _ (by rfl) _ _ _ (by rfl) w5.heap.size 52 i0 _ 3 32 Try.underlying38 hi hz0 hz1 hz2 rfl (by omega) u3 k _ (by rfl) ((hown.out.alloc _).drew)
                        ⟨wr.heap.size, 0, none⟩ 1 1 [.string N[k], .int .i64 T[k], .int .i64 V[k]] (by rfl) (by rfl) (World.news_of_block (cs := #[.string N[k], .int .i64 T[k], .int .i64 V[k]]) (t := 52) (fr := (0, 0)) (heap_alloc_new wr _)) (by simp [Value.oneCell'])
                        (by omega) hm64 (by omega) (by simp; omega) (wr.heap.size + 1) (by simp) ?_; intro gg cap w1 hown1 hgrow hat hlt))
                  rename_i hlt0 _
                  have hbw1 : Hid (Below w5.heap.size w5 w1) := (((hbw.out.alloc hsw _).drew).grown hgrow (by simp; omega) (fun j hj => (own_lt hown.out hj).1))
                  have hown2 : Hid (w1.ownsRow w5.heap.size 52 3 (.slice (some ⟨gg, 0, none⟩) (k + 1) cap) (k + 1) ((Sg.zip (k + 1) N T V).flatMap pointCells)) := by
                    rw [Hz.out, List.flatMap_append]; exact hown1
                  clear hown1 hgrow hat hown Hown hbw Hz
                  go_wp2_with fail
                  go_roundw
                  case rel => exact ⟨k + 1, by omega, by go_num, hown2, hbw1⟩
                  case measure => simp [intOf]; omega
                · have hkn : k = n := by omega
                  subst hkn
                  obtain ⟨AP, cP, rfl, hcapP, hrP⟩ := own_slice hown.out
                  have HM := Lib.hid (sgmay_any AP cP (Sg.zip k N T V) wr wr.heap.size (by rw [zip_len]; exact hrP) (Nat.le_refl _) (by rw [zip_len]; omega) Hwz.out)
                  rw [zip_len] at HM
                  clear hrP Hwz
                  go_wp2_with fail
                  refine HM.out.mono ?_
                  rintro e w6 ⟨rfl, hb6⟩
                  have hown6 := own_only hown.out (Only.new (fun _ => False) hb6) (fun _ _ h => h)
                  go_wp2_with fail
                  go_ret3
                  exact ⟨_, by rw [HR.out]; rfl, by rw [HR.out]; simp only; rw [zip_len]; exact own_down hown6 (by omega), Hb5.out.trans ((hbw.out.trans (hb6.mono hsw)).mono (by omega))⟩
            · have HR := Lib.hid (CN4.out (.inr (.inr (.inr hd))))
              subst he3 he4 he5
              clear CY4 CN4 GL' GT' GV' HwT HwV
              go_wp2_with fail
              go_ret3
              exact ⟨_, by rw [HR.out]; rfl, by rw [HR.out]; exact own_nil _ _ _ _, Hb5.out⟩
          · have HR := Lib.hid (CN4.out (.inr (.inr (.inl he5))))
            subst he3 he4
            clear CY4 CN4 GL' GT' GV' HwT HwV
            go_wp2_with fail
            go_ret3
            exact ⟨_, by rw [HR.out]; rfl, by rw [HR.out]; exact own_nil _ _ _ _, Hb5.out⟩
        · have HR := Lib.hid (CN4.out (.inr (.inl he4)))
          subst he3
          clear CY4 CN4 GL' GT' GV' HwT HwV
          go_wp2_with fail
          go_ret3
          exact ⟨_, by rw [HR.out]; rfl, by rw [HR.out]; exact own_nil _ _ _ _, Hb5.out⟩
      · have HR := Lib.hid (CN4.out (.inl he3))
        clear CY4 CN4 GL' GT' GV' HwT HwV
        go_wp2_with fail
        go_ret3
        exact ⟨_, by rw [HR.out]; rfl, by rw [HR.out]; exact own_nil _ _ _ _, Hb5.out⟩
    · have hme : ((s.extract 0 4).toList == [83, 69, 71, 49]) = false := mark_ne hmk
      have hme2 : ((s.extract 0 4).toList == (⟨#[83, 69, 71, 49]⟩ : ByteArray).toList) = false := str_ne_of (b := Sg.mark) hmk
      have HR := Lib.hid (CB'.out (.inr hmk))
      clear CN CY CB' HX1 HX2 hmk
      go_wp2_with fail
      go_ret3
      exact ⟨_, by rw [HR.out]; rfl, by rw [HR.out]; exact own_nil _ _ _ _, Hb2.out⟩
  · have HR := Lib.hid (CB'.out (.inl rfl))
    clear CN CY CB' HX1 HX2
    go_wp2_with fail
    go_ret3
    exact ⟨_, by rw [HR.out]; rfl, by rw [HR.out]; exact own_nil _ _ _ _, Hb2.out⟩
end Go.Proofs.Ythdbmgjlegpbaaa
/- A segment, read: plain, and the walks through segment.Get and segment.Range. -/
namespace Go.Proofs.Ythdbmgjlegpbaaa
open Go.RowKit
set_option linter.unusedVariables false

def Sg.getR (s : ByteArray) : Int × List Pt.Point × Int :=
  if s.size < 12 then (0, [], 1300) else
    if Sg.tailB (Sm.hashL (s.extract 0 (s.size - 8)).data.toList) ≠ s.extract (s.size - 8) s.size then (0, [], 1301) else
      if (Sg.colsR (s.extract 0 (s.size - 8))).2.2 = false then (0, [], 1300) else ((Sg.colsR (s.extract 0 (s.size - 8))).1, (Sg.colsR (s.extract 0 (s.size - 8))).2.1, 0)
section
variable {s b t : ByteArray} {m : Nat}
theorem get_short (h : s.size < 12) : Sg.getR s = (0, [], 1300) := by unfold Sg.getR; rw [if_pos h]
theorem get_tail (h : s.size = m + 8) (hm : 4 ≤ m) (hb : s.extract 0 m = b) (ht : s.extract m (m + 8) = t) (hx : Sg.tailB (Sm.hashL b.data.toList) ≠ t) : Sg.getR s = (0, [], 1301) := by
  unfold Sg.getR; rw [if_neg (by omega), h, Nat.add_sub_cancel, hb, ht, if_pos hx]
theorem get_cols (h : s.size = m + 8) (hm : 4 ≤ m) (hb : s.extract 0 m = b) (ht : s.extract m (m + 8) = t) (hx : Sg.tailB (Sm.hashL b.data.toList) = t) (hc : (Sg.colsR b).2.2 = false) : Sg.getR s = (0, [], 1300) := by
  unfold Sg.getR; rw [if_neg (by omega), h, Nat.add_sub_cancel, hb, ht, if_neg (fun e => e hx), if_pos hc]
theorem get_good (h : s.size = m + 8) (hm : 4 ≤ m) (hb : s.extract 0 m = b) (ht : s.extract m (m + 8) = t) (hx : Sg.tailB (Sm.hashL b.data.toList) = t) (hc : (Sg.colsR b).2.2 = true) : Sg.getR s = ((Sg.colsR b).1, (Sg.colsR b).2.1, 0) := by
  unfold Sg.getR; rw [if_neg (by omega), h, Nat.add_sub_cancel, hb, ht, if_neg (fun e => e hx), if_neg (by rw [hc]; simp)]
end
def GetPost (w : World) (q : Int × List Pt.Point × Int) (e : Ending) (w' : World) : Prop :=
  ∃ v, e = .returned (.tuple #[.int .i64 q.1, v, .int .i64 q.2.2]) ∧ w'.ownsRow w.heap.size 52 3 v q.2.1.length (q.2.1.flatMap pointCells) ∧ Below w.heap.size w w'
set_option maxRecDepth 100000 in
set_option maxHeartbeats 1600000 in
theorem sgget_any (s : ByteArray) (w : World) (hs : s.size ≤ 140737488355328) :
    Calls Try.prog 76 #[.string s] w (GetPost w (Sg.getR s)) := by
  by_cases h12 : s.size < 12
  · have HR := Lib.hid (get_short h12)
    generalize Sg.getR s = res at *
    go_enter Try.func76, Try.ntmps76
    go_wp2_with fail
    go_ret3
    exact ⟨_, by rw [HR.out]; rfl, by rw [HR.out]; exact own_nil _ _ _ _, Below.refl _ _⟩
  · obtain ⟨m, hm⟩ : ∃ m, s.size = m + 8 := ⟨s.size - 8, by omega⟩
    have hm4 : 4 ≤ m := by omega
    have hbs : (s.extract 0 m).size = m := by rw [ByteArray.size_extract]; omega
    have HTl := Lib.hid (get_tail (b := s.extract 0 m) (t := s.extract m (m + 8)) hm hm4 rfl rfl)
    have HCl := Lib.hid (get_cols (b := s.extract 0 m) (t := s.extract m (m + 8)) hm hm4 rfl rfl)
    have HGd := Lib.hid (get_good (b := s.extract 0 m) (t := s.extract m (m + 8)) hm hm4 rfl rfl)
    have HC := fun W => Lib.hid (columns_any (s.extract 0 m) W (by omega) (by omega))
    have HH := fun W => Lib.hid (hash_any (s.extract 0 m) W (by unfold maxLen; omega))
    generalize Sg.getR s = res at *
    go_enter Try.func76, Try.ntmps76
    go_wp2_with fail
    have hhl := Sm.hashL_lt (s.extract 0 m).data.toList
    have HT := fun W => Lib.hid (tail_any (Sm.hashL (s.extract 0 m).data.toList) W hhl)
    have hsl : s.extract m s.size = s.extract m (m + 8) := by rw [hm]
    have hle : (m : Int) ≤ (m : Int) + 8 := by omega
    have hle2 : (m : Int) ≤ (s.size : Int) := by omega
    generalize hQ : Sg.colsR (s.extract 0 m) = Q at *
    clear hQ
    generalize Sm.hashL (s.extract 0 m).data.toList = hh at *
    generalize Sg.tailB hh = TB at *
    obtain ⟨r, ps, ok⟩ := Q
    simp only at HCl HGd
    by_cases htl : TB = s.extract m (m + 8)
    · have hz : (TB.toList == (s.extract m (m + 8)).toList) = true := str_eq_of htl
      have HCl' := Lib.hid (HCl.out htl)
      have HGd' := Lib.hid (HGd.out htl)
      clear htl HTl HCl HGd
      refine wp_region_aft w.heap.size w (by kernel_rfl) (by kernel_rfl) (Below.refl _ _) ?_
      repeat (go_big_quiet_step (first | (go_at_call 93; with_reducible exact aft_same (Hid.out (HH _))) | (go_at_call 92; with_reducible exact aft_new (Nat.le_refl _) (Hid.out (HT _)))))
      refine wpQuiet_nil ?_
      rintro _ ⟨x, rfl⟩
      have Hx := Lib.hid x.below
      generalize x.world = w3 at *
      go_wp2_with fail
      refine (HC _).out.mono ?_
      rintro e w4 ⟨v, rfl, hown, hb4⟩
      have Hown := Lib.hid hown
      have hs3 := Hx.out.size
      have Hb4 := Lib.hid (Hx.out.trans (hb4.mono hs3))
      clear hown hb4
      cases ok
      · have HR := Lib.hid (HCl'.out rfl)
        clear HCl' HGd'
        go_wp2_with fail
        go_ret3
        exact ⟨_, by rw [HR.out]; rfl, by rw [HR.out]; exact own_nil _ _ _ _, Hb4.out⟩
      · have HR := Lib.hid (HGd'.out rfl)
        clear HCl' HGd'
        go_wp2_with fail
        go_ret3
        exact ⟨_, by rw [HR.out]; rfl, by rw [HR.out]; exact own_down Hown.out hs3, Hb4.out⟩
    · have hz : (TB.toList == (s.extract m (m + 8)).toList) = false := str_ne_of htl
      have HR := Lib.hid (HTl.out htl)
      clear htl HTl HCl HGd
      refine wp_region_aft w.heap.size w (by kernel_rfl) (by kernel_rfl) (Below.refl _ _) ?_
      repeat (go_big_quiet_step (first | (go_at_call 93; with_reducible exact aft_same (Hid.out (HH _))) | (go_at_call 92; with_reducible exact aft_new (Nat.le_refl _) (Hid.out (HT _)))))
      refine wpQuiet_nil ?_
      rintro _ ⟨x, rfl⟩
      have Hx := Lib.hid x.below
      generalize x.world = w3 at *
      go_wp2_with fail
      go_ret3
      exact ⟨_, by rw [HR.out]; rfl, by rw [HR.out]; exact own_nil _ _ _ _, Hx.out⟩
end Go.Proofs.Ythdbmgjlegpbaaa
/- The newest value of a series at a time, plain; the walk through query.layers (chapter 15). -/
namespace Go.Proofs.Ythdbmgjlegpbaaa
open Go.RowKit
set_option linter.unusedVariables false

def Qr.hit (s : ByteArray) (t : Int) (p : Pt.Point) : Bool := decide (p.1 = s) && decide (p.2.1 = t)
def Qr.newest (s : ByteArray) (t : Int) (ps : List Pt.Point) : Option Int := (ps.reverse.find? (Qr.hit s t)).map (·.2.2)
def Qr.lastIn (s : ByteArray) (t : Int) (ls : List (List Pt.Point)) : Option Int := ls.reverse.findSome? (Qr.newest s t)
def Qr.okS (segs : List ByteArray) : Bool := segs.all fun s => decide ((Sg.getR s).2.2 = 0)
def Qr.ptsOf (s : ByteArray) : List Pt.Point := (Sg.getR s).2.1
def Qr.lastR (segs : List ByteArray) (o : List Pt.Point) (s : ByteArray) (t : Int) : Int × Bool × Int :=
  if Qr.okS segs = true then ((Qr.lastIn s t (segs.map Qr.ptsOf ++ [o])).getD 0, (Qr.lastIn s t (segs.map Qr.ptsOf ++ [o])).isSome, 0) else (0, false, 1500)
theorem okS_step {segs : List ByteArray} {k : Nat} (hk : k < segs.length) (h : Qr.okS (segs.take k) = true) (he : (Sg.getR segs[k]).2.2 = 0) : Qr.okS (segs.take (k + 1)) = true := by
  unfold Qr.okS at h ⊢
  rw [List.take_succ_eq_append_getElem hk, List.all_append, h]; simp [he]
theorem okS_stop {segs : List ByteArray} {k : Nat} (hk : k < segs.length) (he : (Sg.getR segs[k]).2.2 ≠ 0) : Qr.okS segs = false := by
  unfold Qr.okS
  rw [List.all_eq_false]
  exact ⟨segs[k], List.getElem_mem _, by simp [he]⟩
theorem info_pts : (Try.prog.info? 38).map (fun i => (i.zero, i.size, i.bytes)) = some (some (.slice none 0 0), 1, 24) := by kernel_rfl
def OwnLays (base : Nat) (w : World) (L : List Lay) : Prop := ∀ y ∈ L, w.ownsRow base 52 3 (layV y) y.2.2.length (y.2.2.flatMap pointCells)
def LaysPost (w : World) (segs : List ByteArray) (o : Lay) (e : Ending) (w' : World) : Prop :=
  Below w.heap.size w w' ∧ ((Qr.okS segs = false ∧ e = .returned (.tuple #[.slice none 0 0, .bool false])) ∨
    (Qr.okS segs = true ∧ ∃ v L, e = .returned (.tuple #[v, .bool true]) ∧ w'.ownsRow w.heap.size 38 1 v (segs.length + 1) ((L ++ [o]).map layV) ∧ OwnLays w.heap.size w' L ∧ L.map (·.2.2) = segs.map Qr.ptsOf ∧ L.length = segs.length))
set_option maxRecDepth 100000 in
set_option maxHeartbeats 2000000 in
theorem layers_any (A : Option Addr) (c : Nat) (segs : List ByteArray) (o : Lay) (w : World) (B : Nat) (hr : Reads w B 1 A segs.length (segs.map Value.string)) (hB : B ≤ w.heap.size) (hn : (segs.length + 1) * 24 ≤ 140737488355328) (hss : ∀ s ∈ segs, s.size ≤ 140737488355328) :
    Calls Try.prog 49 #[.slice A segs.length c, layV o] w (LaysPost w segs o) := by
  obtain ⟨i0, hi, hz0, hz1, hz2⟩ := info_parts info_pts
  obtain ⟨oa, oc, ops⟩ := o
  have HR := Lib.hid hr
  have HSs := Lib.hid hss
  clear hr hss
  unfold layV
  dsimp only
  go_enter Try.func49, Try.ntmps49
  go_wp2_with fail
  go_loopw [6, 8, 9, 10, 11, 14] (fun vo _ _ _ _ i wr => ∃ (k : Nat) (L : List Lay), k ≤ segs.length ∧ i = .int .i64 (k : Int) ∧ Hid (L.length = k) ∧ Hid (wr.ownsRow w.heap.size 38 1 vo k (L.map layV)) ∧ Hid (OwnLays w.heap.size wr L) ∧ Hid (L.map (·.2.2) = (segs.take k).map Qr.ptsOf) ∧ Hid (Qr.okS (segs.take k) = true) ∧ Hid (Below w.heap.size w wr)) (fun _ _ _ _ _ i _ => segs.length - (intOf i).toNat)
  case atStart => exact ⟨0, [], Nat.zero_le _, rfl, Lib.hid rfl, Lib.hid (own_nil _ _ _ _), Lib.hid (fun y hy => by cases hy), Lib.hid (by simp), Lib.hid (by simp [Qr.okS]), Lib.hid (Below.refl _ _)⟩
  case round =>
    obtain ⟨k, L, hk, rfl, hLl, hown, hlays, hLm, hok, hbw⟩ := hrel
    have hsw := hbw.out.size
    by_cases hlt : k < segs.length
    · obtain ⟨b, off, rfl, hbl, hc⟩ := HR.out.2 (by omega)
      have hcm : wr.cell? ⟨b, off + k, none⟩ = some (.string segs[k]) := (hbw.out.cell (p := ⟨b, off + k, none⟩) (show b < w.heap.size by omega)).trans (hc k _ (by simp [hlt]))
      have HG := fun W => Lib.hid (sgget_any segs[k] W (HSs.out _ (List.getElem_mem _)))
      have HY := Lib.hid (fun h => okS_step hlt hok.out h)
      have HN := Lib.hid (fun h => okS_stop hlt h)
      have HP : Hid (∀ q, Sg.getR segs[k] = q → (segs.take (k + 1)).map Qr.ptsOf = (segs.take k).map Qr.ptsOf ++ [q.2.1]) := fun q hq => by
        rw [map_take_snoc _ _ _ hlt]; unfold Qr.ptsOf; rw [hq]
      clear hc hok
      generalize segs[k] = sg at *
      generalize Sg.getR sg = q at *
      have HP' := Lib.hid (HP.out q rfl)
      clear HP
      obtain ⟨r, ps, e1⟩ := q
      unfold GetPost at HG
      dsimp only at HG HY HN HP'
      by_cases he : e1 = 0
      · have HO := Lib.hid (HY.out he)
        subst he
        clear HY HN
        go_wp2_with fail
        refine (HG _).out.mono ?_
        rintro e w3 ⟨v3, rfl, hown3, hb3⟩
        obtain ⟨A3, c3, rfl, hnc3, _⟩ := own_slice hown3
        have hs3 := hb3.size
        have Hown' := Lib.hid (own_only hown.out (Only.new (fun _ => False) hb3) (fun _ _ h => h))
        have Hlays' : Hid (OwnLays w.heap.size w3 (L ++ [(A3, c3, ps)])) := by
          intro y hy
          rcases List.mem_append.1 hy with hy | hy
          · exact own_only (hlays.out y hy) (Only.new (fun _ => False) hb3) (fun _ _ h => h)
          · rw [List.mem_singleton] at hy
            subst hy
            exact own_down hown3 hsw
        have Hbw' : Hid (Below w.heap.size w w3) := hbw.out.trans (hb3.mono hsw)
        have hsw3 := Hbw'.out.size
        clear hown3 hb3
        go_wp2_with (at_builtin; refine wpList_push_beside _ rfl _ _ 37 rfl w.heap.size 38 i0 _ 1 24 Try.underlying37 hi hz0 hz1 hz2 rfl (by decide) _ k _ (by rfl) Hown'.out [.slice A3 ps.length c3] (by rfl) rfl (by simp [Value.oneCell']) (by unfold maxLen; omega) (by omega) w Hbw'.out hsw3 ?_; intro v8 w8 hown8 hb8 hg8)
        have Hown8 : Hid (w8.ownsRow w.heap.size 38 1 v8 (k + 1) ((L ++ [(A3, c3, ps)]).map layV)) := by
          show World.ownsRow _ _ _ _ _ _ _
          rw [List.map_append]; exact hown8
        have Hlays8 : Hid (OwnLays w.heap.size w8 (L ++ [(A3, c3, ps)])) := fun y hy => own_beside (Hlays'.out y hy) Hown'.out (by decide) hg8
        have Hb8 := Lib.hid hb8
        have HLl : Hid ((L ++ [(A3, c3, ps)]).length = k + 1) := by show _ = _; rw [List.length_append, hLl.out]; rfl
        have HLm : Hid ((L ++ [(A3, c3, ps)]).map (·.2.2) = (segs.take (k + 1)).map Qr.ptsOf) := by show _ = _; rw [List.map_append, hLm.out, HP'.out]; rfl
        clear hown8 hb8 hg8
        go_wp2_with fail
        go_roundw
        case rel => exact ⟨k + 1, L ++ [(A3, c3, ps)], by omega, by go_num, HLl, Hown8, Hlays8, HLm, HO, Hb8⟩
        case measure => simp [intOf]; omega
      · have HO := Lib.hid (HN.out he)
        have hz : (e1 != 0) = true := by simp [he]
        clear HY HN he
        go_wp2_with fail
        refine (HG _).out.mono ?_
        rintro e w3 ⟨v3, rfl, hown3, hb3⟩
        have Hbw' : Hid (Below w.heap.size w w3) := hbw.out.trans (hb3.mono hsw)
        clear hown3 hb3
        go_wp2_with fail
        go_ret2
        exact ⟨Hbw'.out, .inl ⟨HO.out, rfl⟩⟩
    · have htk : segs.take k = segs := List.take_of_length_le (by omega)
      rw [htk] at hLm hok
      have hkl : Hid (k = segs.length) := by show _ = _; omega
      clear htk
      go_wp2_with (at_builtin; refine wpList_push_beside _ rfl _ _ 37 rfl w.heap.size 38 i0 _ 1 24 Try.underlying37 hi hz0 hz1 hz2 rfl (by decide) _ k _ (by rfl) hown.out [.slice oa ops.length oc] (by rfl) rfl (by simp [Value.oneCell']) (by unfold maxLen; omega) (by omega) w hbw.out hsw ?_; intro v8 w8 hown8 hb8 hg8)
      have Hown8 : Hid (w8.ownsRow w.heap.size 38 1 v8 (segs.length + 1) ((L ++ [(oa, oc, ops)]).map layV)) := by
        show World.ownsRow _ _ _ _ _ _ _
        rw [List.map_append, ← hkl.out]; exact hown8
      have Hlays8 : Hid (OwnLays w.heap.size w8 L) := fun y hy => own_beside (hlays.out y hy) hown.out (by decide) hg8
      have Hb8 := Lib.hid hb8
      clear hown8 hb8 hg8
      obtain ⟨A8, c8, rfl, _, _⟩ := own_slice Hown8.out
      go_wp2_with fail
      go_ret2
      exact ⟨Hb8.out, .inr ⟨hok.out, _, L, rfl, Hown8.out, Hlays8.out, hLm.out, by rw [hLl.out, hkl.out]⟩⟩
end Go.Proofs.Ythdbmgjlegpbaaa
/- The walk through query.Last (chapter 15). -/
namespace Go.Proofs.Ythdbmgjlegpbaaa
open Go.RowKit Go.Shelf
set_option linter.unusedVariables false
attribute [local go_sem] Oper.semAt_some

theorem find_at {s : ByteArray} {t : Int} {zs : List Pt.Point} {q : List (Int × Pt.Point)} {x : Int × Pt.Point} {d : Nat} (h : (q ++ [x]).map (·.2) = zs.reverse.take d) (hq : ∀ y ∈ q, Qr.hit s t y.2 = false) (hx : Qr.hit s t x.2 = true) : Qr.newest s t zs = some x.2.2.2 := by
  have e : zs.reverse = q.map (·.2) ++ (x.2 :: zs.reverse.drop d) := by
    have := List.take_append_drop d zs.reverse
    rw [← h] at this
    refine this.symm.trans ?_
    simp
  have hn : (q.map (·.2)).find? (Qr.hit s t) = none := by
    rw [List.find?_eq_none]
    intro y hy
    obtain ⟨z, hz, rfl⟩ := List.mem_map.1 hy
    simp [hq z hz]
  unfold Qr.newest
  rw [e, List.find?_append, hn, List.find?_cons, hx]
  rfl
theorem find_no {s : ByteArray} {t : Int} {zs : List Pt.Point} {q : List (Int × Pt.Point)} (h : q.map (·.2) = zs.reverse) (hq : ∀ y ∈ q, Qr.hit s t y.2 = false) : Qr.newest s t zs = none := by
  have hn : (q.map (·.2)).find? (Qr.hit s t) = none := by
    rw [List.find?_eq_none]
    intro y hy
    obtain ⟨z, hz, rfl⟩ := List.mem_map.1 hy
    simp [hq z hz]
  unfold Qr.newest
  rw [← h, hn]; rfl
theorem last_at {G : Lay → Prop} {s : ByteArray} {t v : Int} {Z : List { y : Lay // G y }} {q : List (Int × { y : Lay // G y })} {x : Int × { y : Lay // G y }} {d : Nat} (h : (q ++ [x]).map (·.2) = Z.reverse.take d) (hq : ∀ y ∈ q, Qr.newest s t y.2.1.2.2 = none) (hx : Qr.newest s t x.2.1.2.2 = some v) : Qr.lastIn s t (Z.map fun y => y.1.2.2) = some v := by
  have e : Z.reverse = q.map (·.2) ++ (x.2 :: Z.reverse.drop d) := by
    have := List.take_append_drop d Z.reverse
    rw [← h] at this
    refine this.symm.trans ?_
    simp
  have hn : (q.map (·.2)).findSome? (fun y => Qr.newest s t y.1.2.2) = none := by
    rw [List.findSome?_eq_none_iff]
    intro y hy
    obtain ⟨z, hz, rfl⟩ := List.mem_map.1 hy
    exact hq z hz
  unfold Qr.lastIn
  rw [← List.map_reverse, List.findSome?_map, e]
  show List.findSome? (fun y : { y : Lay // G y } => Qr.newest s t y.1.2.2) _ = _
  rw [List.findSome?_append, hn, List.findSome?_cons, hx]
  rfl
theorem last_no {G : Lay → Prop} {s : ByteArray} {t : Int} {Z : List { y : Lay // G y }} {q : List (Int × { y : Lay // G y })} (h : q.map (·.2) = Z.reverse) (hq : ∀ y ∈ q, Qr.newest s t y.2.1.2.2 = none) : Qr.lastIn s t (Z.map fun y => y.1.2.2) = none := by
  have hn : (q.map (·.2)).findSome? (fun y => Qr.newest s t y.1.2.2) = none := by
    rw [List.findSome?_eq_none_iff]
    intro y hy
    obtain ⟨z, hz, rfl⟩ := List.mem_map.1 hy
    exact hq z hz
  unfold Qr.lastIn
  rw [← List.map_reverse, List.findSome?_map, ← h]
  exact hn
theorem boxed_below {W W' : World} {B : Nat} {t : TypeId} {v : Value} (h : Boxed W B t v) (hb : Below W.heap.size W W') : Boxed W' B t v := (hb.block B h.lt).trans h
theorem blk_own {g : Nat} {t : TypeId} {cs : Array Value} {X Y : World} {row : Option Nat} (hs : Blk X g t cs) (hg : X.grownBy Y row) (hr : ∀ r, row = some r → ∃ o : Obj, X.heap[r]? = some o ∧ o.isCells = false) : Blk Y g t cs :=
  hs.grown hg (fun e => by obtain ⟨o, ho, hc⟩ := hr g e.symm; rw [show X.heap[g]? = _ from hs] at ho; cases ho; cases hc)
theorem hit_yes {nm s : ByteArray} {t0 t v : Int} (h1 : nm = s) (h2 : t0 = t) : Qr.hit s t (nm, t0, v) = true := by unfold Qr.hit; simp [h1, h2]
theorem hit_no1 {nm s : ByteArray} {t0 t v : Int} (h1 : nm ≠ s) : Qr.hit s t (nm, t0, v) = false := by unfold Qr.hit; simp [h1]
theorem hit_no2 {nm s : ByteArray} {t0 t v : Int} (h2 : t0 ≠ t) : Qr.hit s t (nm, t0, v) = false := by unfold Qr.hit; simp [h2]
def LayOk (w : World) (y : Lay) : Prop := Reads w w.heap.size 3 y.1 y.2.2.length (y.2.2.flatMap pointCells) ∧ y.2.2.length ≤ 9223372036854775807
theorem lay_reads {w : World} {base : Nat} {y : Lay} (h : w.ownsRow base 52 3 (layV y) y.2.2.length (y.2.2.flatMap pointCells)) : Reads w w.heap.size 3 y.1 y.2.2.length (y.2.2.flatMap pointCells) := by unfold layV at h; exact Reads.of_own h
theorem own_len {w : World} {base : Nat} {y : Lay} (h : w.ownsRow base 52 3 (layV y) y.2.2.length (y.2.2.flatMap pointCells)) : y.2.2.length ≤ 9223372036854775807 := by
  obtain ⟨a, c, l⟩ := y
  unfold layV at h
  rcases a with _ | ad
  · rcases h.2 with ⟨hv, h0⟩ | ⟨g, cap, cur, hv, _⟩
    · simp only at h0 ⊢; omega
    · cases hv
  · have := own_cap h
    unfold maxLen at this
    simp only at this ⊢
    omega
theorem lift_sub {α : Type} {G : α → Prop} (l : List α) (h : ∀ y ∈ l, G y) : ∃ Z : List { y // G y }, Z.map (·.1) = l := by
  induction l with
  | nil => exact ⟨[], rfl⟩
  | cons a l ih =>
    obtain ⟨Z, hZ⟩ := ih (fun y hy => h y (List.mem_cons_of_mem _ hy))
    exact ⟨⟨a, h a List.mem_cons_self⟩ :: Z, by rw [List.map_cons, hZ]⟩
def NoHit (s : ByteArray) (t : Int) (pre : List (Int × Pt.Point)) : Prop := ∀ y ∈ pre, Qr.hit s t y.2 = false
def Hits (s : ByteArray) (t : Int) (pre : List (Int × Pt.Point)) (v : Int) : Prop := ∃ q y, pre = q ++ [y] ∧ NoHit s t q ∧ Qr.hit s t y.2 = true ∧ y.2.2.2 = v
theorem noHit_nil (s : ByteArray) (t : Int) : NoHit s t [] := fun y hy => by cases hy
theorem noHit_snoc {s : ByteArray} {t : Int} {pre : List (Int × Pt.Point)} {y : Int × Pt.Point} (h : NoHit s t pre) (hy : Qr.hit s t y.2 = false) : NoHit s t (pre ++ [y]) := fun z hz =>
  (List.mem_append.1 hz).elim (h z) (fun e => by rw [List.mem_singleton] at e; subst e; exact hy)
theorem hits_snoc {s : ByteArray} {t : Int} {pre : List (Int × Pt.Point)} {y : Int × Pt.Point} (h : NoHit s t pre) (hy : Qr.hit s t y.2 = true) : Hits s t (pre ++ [y]) y.2.2.2 := ⟨pre, y, rfl, h, hy, rfl⟩
theorem hits_at {s : ByteArray} {t v : Int} {zs : List Pt.Point} {pre : List (Int × Pt.Point)} {d : Nat} (h : pre.map (·.2) = zs.reverse.take d) (hh : Hits s t pre v) : Qr.newest s t zs = some v := by
  obtain ⟨q, y, rfl, hq, hy, rfl⟩ := hh
  exact find_at h hq hy
theorem list_ne {a b : ByteArray} (h : a ≠ b) : (a.toList == b.toList) = false := by
  rw [beq_eq_false_iff_ne, Lib.toList_data, Lib.toList_data]
  intro e
  exact h (Wr.ext_list e)
def LastPost (w : World) (q : Int × Bool × Int) (e : Ending) (w' : World) : Prop := e = .returned (.tuple #[.int .i64 q.1, .bool q.2.1, .int .i64 q.2.2]) ∧ Below w.heap.size w w'
set_option maxRecDepth 100000 in
set_option maxHeartbeats 4000000 in
theorem last_any (A : Option Addr) (c : Nat) (segs : List ByteArray) (o : Lay) (s : ByteArray) (t : Int) (w : World) (B : Nat) (hr : Reads w B 1 A segs.length (segs.map Value.string)) (hro : Reads w B 3 o.1 o.2.2.length (o.2.2.flatMap pointCells)) (hB : B ≤ w.heap.size) (hn : (segs.length + 1) * 24 ≤ 140737488355328) (hss : ∀ s ∈ segs, s.size ≤ 140737488355328) (hon : o.2.2.length ≤ 140737488355328) :
    Calls Try.prog 24 #[.slice A segs.length c, layV o, .string s, .int .i64 t] w (LastPost w (Qr.lastR segs o.2.2 s t)) := by
  have HL := fun W (hb : Below w.heap.size w W) => Lib.hid (layers_any A c segs o W B (hr.below (hb.mono hB)) (by have := hb.size; omega) hn hss)
  have Hro := Lib.hid hro
  have HR1 : Hid (Qr.okS segs = true → Qr.lastR segs o.2.2 s t = ((Qr.lastIn s t (segs.map Qr.ptsOf ++ [o.2.2])).getD 0, (Qr.lastIn s t (segs.map Qr.ptsOf ++ [o.2.2])).isSome, 0)) := fun h => by unfold Qr.lastR; rw [if_pos h]
  have HR2 : Hid (Qr.okS segs = false → Qr.lastR segs o.2.2 s t = (0, false, 1500)) := fun h => by unfold Qr.lastR; rw [if_neg (by rw [h]; simp)]
  generalize Qr.lastR segs o.2.2 s t = res at *
  clear hr hro hss
  refine (callsIn_wide (n := 8)).1 ?_
  refine callsIn_of_wp_marks Try.func24 rfl trivial ?_ rfl
  simp only [Try.ntmps24, List.size_toArray, List.length_cons, List.length_nil, Nat.reduceAdd, Nat.reduceSub, Array.replicate_succ, Array.replicate_zero, List.push_toArray, List.append_toArray, List.nil_append, List.cons_append]
  obtain ⟨oa, oc, ops⟩ := o
  simp only [layV] at *
  gi_wp2
  refine wpIn_wide.2 ?_
  refine wp_scope_straight ?_
  refine (wpIn_wide (n := 8)).1 ?_
  have b6 := ((((Boxed.new w 9 (.string s)).alloc (.cells #[.int .i64 t] 3)).alloc (.cells #[.int .i64 0] 3)).alloc (.cells #[.bool false] 4)).alloc (.cells #[.int .i64 0] 28)
  have b7 := (((Boxed.new (w.alloc (.cells #[.string s] 9)) 3 (.int .i64 t)).alloc (.cells #[.int .i64 0] 3)).alloc (.cells #[.bool false] 4)).alloc (.cells #[.int .i64 0] 28)
  have b8 := ((Boxed.new ((w.alloc (.cells #[.string s] 9)).alloc (.cells #[.int .i64 t] 3)) 3 (.int .i64 0)).alloc (.cells #[.bool false] 4)).alloc (.cells #[.int .i64 0] 28)
  have b9 := (Boxed.new (((w.alloc (.cells #[.string s] 9)).alloc (.cells #[.int .i64 t] 3)).alloc (.cells #[.int .i64 0] 3)) 4 (.bool false)).alloc (.cells #[.int .i64 0] 28)
  have b10 := Boxed.new ((((w.alloc (.cells #[.string s] 9)).alloc (.cells #[.int .i64 t] 3)).alloc (.cells #[.int .i64 0] 3)).alloc (.cells #[.bool false] 4)) 28 (.int .i64 0)
  simp only [World.size_alloc] at b7 b8 b9 b10
  have hb5 : Below w.heap.size w (((((w.alloc (.cells #[.string s] 9)).alloc (.cells #[.int .i64 t] 3)).alloc (.cells #[.int .i64 0] 3)).alloc (.cells #[.bool false] 4)).alloc (.cells #[.int .i64 0] 28)) :=
    (((((Below.refl _ w).alloc (Nat.le_refl _) _).alloc (by simp) _).alloc (by simp; omega) _).alloc (by simp; omega) _).alloc (by simp; omega) _
  have hs5 : w.heap.size + 5 ≤ (((((w.alloc (.cells #[.string s] 9)).alloc (.cells #[.int .i64 t] 3)).alloc (.cells #[.int .i64 0] 3)).alloc (.cells #[.bool false] 4)).alloc (.cells #[.int .i64 0] 28)).heap.size := by simp
  generalize ((((w.alloc (.cells #[.string s] 9)).alloc (.cells #[.int .i64 t] 3)).alloc (.cells #[.int .i64 0] 3)).alloc (.cells #[.bool false] 4)).alloc (.cells #[.int .i64 0] 28) = w5 at *
  have HB5 := Lib.hid hb5
  clear hb5
  gi_wp2_with fail
  refine ⟨trivial, ?_⟩
  refine (callsIn_wide.2 (HL w5 HB5.out).out).mono ?_
  rintro e w2 ⟨hb2, ⟨hok, rfl⟩ | ⟨hok, v, L, rfl, hown, hlays, hLm, hLl⟩⟩
  · have d8 := boxed_below b8 hb2
    have d9 := boxed_below b9 hb2
    have d10 := boxed_below b10 hb2
    have Hb2 : Hid (Below w.heap.size w w2) := HB5.out.trans (hb2.mono (by omega))
    have Hres := Lib.hid (HR2.out hok)
    have c8 := d8.cell
    have f8 := d8.frozen
    have c9 := d9.cell
    have f9 := d9.frozen
    have c10 := d10.cell
    have f10 := d10.frozen
    clear hb2 HL HR1 HR2 b6 b7 b8 b9 b10
    gi_wp2
    have q8 : Boxed (((w2.setCell ⟨w.heap.size + 1 + 1, 0, none⟩ (.int .i64 0)).setCell ⟨w.heap.size + 1 + 1 + 1, 0, none⟩ (.bool false)).setCell ⟨w.heap.size + 1 + 1 + 1 + 1, 0, none⟩ (.int .i64 1500)) (w.heap.size + 1 + 1) 3 (.int .i64 0) := ((d8.set _).other (by omega) _).other (by omega) _
    have q9 : Boxed (((w2.setCell ⟨w.heap.size + 1 + 1, 0, none⟩ (.int .i64 0)).setCell ⟨w.heap.size + 1 + 1 + 1, 0, none⟩ (.bool false)).setCell ⟨w.heap.size + 1 + 1 + 1 + 1, 0, none⟩ (.int .i64 1500)) (w.heap.size + 1 + 1 + 1) 4 (.bool false) := ((d9.other (by omega) _).set _).other (by omega) _
    have q10 : Boxed (((w2.setCell ⟨w.heap.size + 1 + 1, 0, none⟩ (.int .i64 0)).setCell ⟨w.heap.size + 1 + 1 + 1, 0, none⟩ (.bool false)).setCell ⟨w.heap.size + 1 + 1 + 1 + 1, 0, none⟩ (.int .i64 1500)) (w.heap.size + 1 + 1 + 1 + 1) 28 (.int .i64 1500) := ((d10.other (by omega) _).other (by omega) _).set _
    have qb : Below w.heap.size w (((w2.setCell ⟨w.heap.size + 1 + 1, 0, none⟩ (.int .i64 0)).setCell ⟨w.heap.size + 1 + 1 + 1, 0, none⟩ (.bool false)).setCell ⟨w.heap.size + 1 + 1 + 1 + 1, 0, none⟩ (.int .i64 1500)) := ((Hb2.out.setCell (p := ⟨w.heap.size + 1 + 1, 0, none⟩) (by simp; omega) _).setCell (p := ⟨w.heap.size + 1 + 1 + 1, 0, none⟩) (by simp; omega) _).setCell (p := ⟨w.heap.size + 1 + 1 + 1 + 1, 0, none⟩) (by simp; omega) _
    have g8 := q8.cell
    have g9 := q9.cell
    have g10 := q10.cell
    generalize ((w2.setCell ⟨w.heap.size + 1 + 1, 0, none⟩ (.int .i64 0)).setCell ⟨w.heap.size + 1 + 1 + 1, 0, none⟩ (.bool false)).setCell ⟨w.heap.size + 1 + 1 + 1 + 1, 0, none⟩ (.int .i64 1500) = WZ at *
    clear c8 c9 c10 f8 f9 f10 d8 d9 d10
    refine ⟨.tuple #[.int .i64 0, .bool false, .int .i64 1500], ?_, by rw [Hres.out], qb⟩
    simp [results, Try.f24, go_sem, g8, g9, g10]
  · obtain ⟨Av, cv, rfl, hncv, hrv⟩ := own_slice hown
    have Hres := Lib.hid (HR1.out hok)
    have Hrv := Lib.hid hrv
    have hs2 := hb2.size
    gi_wp2_with fail
    refine wpIn_label ?_
    gi_wp2_with fail
    refine ⟨trivial, ?_⟩
    refine (backL_make Fence.wide _ trivial rfl Av (segs.length + 1) cv w2).mono ?_
    rintro e w' ⟨rfl, rfl⟩
    have hb0 : Below w2.heap.size w2 (w2.alloc (.cells #[.slice Av (segs.length + 1) cv] 37)) := (Below.refl _ _).alloc (Nat.le_refl _) _
    have b26 := Boxed.new w2 37 (.slice Av (segs.length + 1) cv)
    have hsz0 : w2.heap.size + 1 ≤ (w2.alloc (.cells #[.slice Av (segs.length + 1) cv] 37)).heap.size := by simp
    obtain ⟨W0, hW0⟩ : ∃ W0, w2.alloc (.cells #[.slice Av (segs.length + 1) cv] 37) = W0 := ⟨_, rfl⟩
    rw [hW0] at hb0 b26 hsz0 ⊢
    clear hW0
    have a6 := boxed_below (boxed_below b6 hb2) hb0
    have a7 := boxed_below (boxed_below b7 hb2) hb0
    have a8 := boxed_below (boxed_below b8 hb2) hb0
    have a9 := boxed_below (boxed_below b9 hb2) hb0
    have a10 := boxed_below (boxed_below b10 hb2) hb0
    have hbW0 : Below w.heap.size w W0 := HB5.out.trans ((hb2.trans (hb0.mono hs2)).mono (by omega))
    have hG : ∀ y ∈ L ++ [(oa, oc, ops)], LayOk W0 y := by
      intro y hy
      rcases List.mem_append.1 hy with hy | hy
      · exact ⟨((lay_reads (hlays y hy)).below hb0).more (by omega), own_len (hlays y hy)⟩
      · rw [List.mem_singleton] at hy
        subst hy
        exact ⟨(Hro.out.below (hbW0.mono hB)).more (by have := hbW0.size; omega), by show ops.length ≤ _; omega⟩
    obtain ⟨Z, hZ⟩ := lift_sub (L ++ [(oa, oc, ops)]) hG
    have hZl : Z.length = segs.length + 1 := by
      have := congrArg List.length hZ
      rw [List.length_map, List.length_append, hLl] at this
      exact this
    have hZr : Reads W0 W0.heap.size 1 Av Z.length (Z.map fun y => layV y.1) := by
      rw [hZl, show (Z.map fun y => layV y.1) = (Z.map (·.1)).map layV from by rw [List.map_map]; rfl, hZ]
      exact (Hrv.out.below hb0).more (by omega)
    have hZp : (Z.map fun y => y.1.2.2) = segs.map Qr.ptsOf ++ [ops] := by
      rw [show (Z.map fun y => y.1.2.2) = (Z.map (·.1)).map (·.2.2) from by rw [List.map_map]; rfl, hZ, List.map_append, hLm]; rfl
    have c26 : W0.cell? ⟨w2.heap.size, 0, none⟩ = some (.slice Av Z.length cv) := by rw [hZl]; exact b26.cell
    have HbW0 := Lib.hid hbW0
    have Hres' : Hid (res = ((Qr.lastIn s t (Z.map fun y => y.1.2.2)).getD 0, (Qr.lastIn s t (Z.map fun y => y.1.2.2)).isSome, 0)) := by show _ = _; rw [hZp]; exact Hres.out
    have hhs : w.heap.size + 5 ≤ W0.heap.size := by omega
    clear hZp Hres hown hlays hLm hLl hrv Hrv HL HR1 HR2 hG hZ b6 b7 b8 b9 b10 hb2 hb0 hbW0 hok b26
    have hz2 : w2.heap.size < W0.heap.size := by omega
    gi_wp2_with fail
    refine wpIn_rangeFunc_ownH rfl (by omega) (gf := 77) (lb := #[.pointer (some ⟨w2.heap.size, 0, none⟩)]) rfl trivial (enters_of Try.func77 (by kernel_rfl) rfl)
      (backL_stops (G := LayOk W0) Fence.wide _ trivial rfl (by omega) w2.heap.size W0.heap.size cv Av Z (by omega) W0 hz2 (Nat.le_refl _) c26 hZr) belowK_t (belowK_b (Nat.le_refl _)) (Below.refl _ _) (fun _ => rfl)
      (fun pre W => (∀ x ∈ pre, Qr.newest s t x.2.1.2.2 = none) ∧ Below W0.heap.size W0 W)
      (fun cd pre W => (cd = .ret ∧ ∃ q x v, pre = q ++ [x] ∧ (∀ y ∈ q, Qr.newest s t y.2.1.2.2 = none) ∧ Qr.newest s t x.2.1.2.2 = some v ∧ Boxed W (w.heap.size + 1 + 1) 3 (.int .i64 v) ∧ Boxed W (w.heap.size + 1 + 1 + 1) 4 (.bool true) ∧ Boxed W (w.heap.size + 1 + 1 + 1 + 1) 28 (.int .i64 0)) ∧ Below w.heap.size w W)
      (OwnFrom.and (ownFrom_pure _ _) (ownFrom_below (Nat.le_refl _) (Nat.le_refl _)))
      (fun cd sx X Y row hs hg hr => by
        obtain ⟨⟨h0, q, x, v, h1, h2, h3, k8, k9, k10⟩, hb⟩ := hs
        exact ⟨⟨h0, q, x, v, h1, h2, h3, blk_own k8 hg (fun r e => (hr r e).2), blk_own k9 hg (fun r e => (hr r e).2), blk_own k10 hg (fun r e => (hr r e).2)⟩, ownFrom_below (β := Unit) (Nat.le_refl _) (by omega) () X Y row hb hg hr⟩)
      ⟨by simp, Below.refl _ _⟩
      (fun x a' _ => a' = { tmps := #[.slice A segs.length c, .slice oa ops.length oc, .string s, .int .i64 t, undef, undef, .pointer (some ⟨w.heap.size, 0, none⟩), .pointer (some ⟨w.heap.size + 1, 0, none⟩), .pointer (some ⟨w.heap.size + 1 + 1, 0, none⟩), .pointer (some ⟨w.heap.size + 1 + 1 + 1, 0, none⟩), .pointer (some ⟨w.heap.size + 1 + 1 + 1 + 1, 0, none⟩), .slice Av (segs.length + 1) cv, .bool true, undef, layV x.2.1, undef, undef, .tuple #[.slice Av (segs.length + 1) cv, .bool true], .slice A segs.length c, .slice oa ops.length oc, .tuple #[.slice Av (segs.length + 1) cv, .bool true], .slice Av (segs.length + 1) cv, .bool true, .bool true, .bool false, .slice Av (segs.length + 1) cv, .func (.func 77) #[] #[.pointer (some ⟨w2.heap.size, 0, none⟩)], .int .i64 x.1, layV x.2.1, undef, undef, undef, undef, undef, undef, undef, undef, undef, undef, undef, undef, undef, undef, undef, undef, undef], defers := [] })
      (fun _ _ _ _ _ _ hs _ _ => hs)
      ?assign ?body ?done ?stop
    case assign =>
      rintro l pre x W K hi hK
      gi_wp2
      exact hK _ _ (KeepsFrom.refl _ _) (Below.refl _ _) hi rfl
    case body =>
      rintro l pre x a' W hl ⟨r, hr⟩ ⟨hp, hB1⟩ rfl hlt
      obtain ⟨xi, ⟨⟨xa, xc, xl⟩, hGx⟩⟩ := x
      simp only [layV]
      have HGx := Lib.hid hGx
      gi_wp2_with fail
      refine ⟨trivial, ?_⟩
      refine (CallsIn.inRound l (backP_make Fence.wide _ trivial rfl xa xl.length xc W)).mono ?_
      rintro e w' ⟨rfl, rfl⟩
      have hsW := hB1.size
      have hr' : (W.alloc (.cells #[.slice xa xl.length xc] 38)).heap[l]? = some (.loop r) := (Below.heap_alloc W _ l (Array.getElem?_eq_some_iff.1 hr).1).trans hr
      have bN := Boxed.new W 38 (.slice xa xl.length xc)
      have hbN : Below W.heap.size W (W.alloc (.cells #[.slice xa xl.length xc] 38)) := (Below.refl _ _).alloc (Nat.le_refl _) _
      have hszN : W.heap.size + 1 ≤ (W.alloc (.cells #[.slice xa xl.length xc] 38)).heap.size := by simp
      have hkN : KeepsFrom W0.heap.size W (W.alloc (.cells #[.slice xa xl.length xc] 38)) := (KeepsOthers.alloc _ _).from _
      obtain ⟨W1, hW1⟩ : ∃ W1, W.alloc (.cells #[.slice xa xl.length xc] 38) = W1 := ⟨_, rfl⟩
      rw [hW1] at hr' bN hbN hszN hkN ⊢
      clear hW1
      have hb01 : Below W0.heap.size W0 W1 := hB1.trans (hbN.mono hsW)
      have hrx : Reads W1 W1.heap.size 3 xa xl.length (xl.flatMap pointCells) := (HGx.out.1.below hb01).more (by omega)
      have hlx : xl.length ≤ 9223372036854775807 := HGx.out.2
      gi_wp2_with fail
      refine wpIn_rangeFunc_ownN (l₀ := l) (r₀ := r) rfl hr' (by omega) (gf := 78) (lb := #[.pointer (some ⟨W.heap.size, 0, none⟩)]) rfl trivial (enters_of Try.func78 (by kernel_rfl) rfl)
        ((backP_stops Fence.wide _ trivial rfl (by omega) W.heap.size W1.heap.size xc xa xl hlx W1 (by omega) (Nat.le_refl _) bN.cell hrx).inRound l) belowK_t (belowK_b (Nat.le_refl _)) (Below.refl _ _) (fun _ => rfl)
        (fun pre' W' => (NoHit s t pre' ∧ Below W1.heap.size W1 W') ∧ KeepsFrom W0.heap.size W W')
        (fun cd pre' W' => ((cd = .ret ∧ ∃ v, Hits s t pre' v ∧ Boxed W' (w.heap.size + 1 + 1) 3 (.int .i64 v) ∧ Boxed W' (w.heap.size + 1 + 1 + 1) 4 (.bool true) ∧ Boxed W' (w.heap.size + 1 + 1 + 1 + 1) 28 (.int .i64 0)) ∧ Below w.heap.size w W') ∧ KeepsFrom W0.heap.size W W')
        (OwnFrom.and (OwnFrom.and (ownFrom_pure _ _) (ownFrom_below (Nat.le_refl _) (Nat.le_refl _))) (ownFrom_keepsFrom (by omega)))
        (fun cd sx X Y row hs hg hr => by
          obtain ⟨⟨⟨h0, v, h1, k8, k9, k10⟩, hb⟩, hk⟩ := hs
          exact ⟨⟨⟨h0, v, h1, blk_own k8 hg (fun r e => (hr r e).2), blk_own k9 hg (fun r e => (hr r e).2), blk_own k10 hg (fun r e => (hr r e).2)⟩, ownFrom_below (β := Unit) (Nat.le_refl _) (by omega) () X Y row hb hg hr⟩, ownFrom_keepsFrom (β := Unit) (by omega) () X Y row hk hg hr⟩)
        ⟨⟨noHit_nil s t, Below.refl _ _⟩, hkN⟩
        (fun y a'' W'' => ∃ Bx, Blk W'' Bx 52 #[.string y.2.1, .int .i64 y.2.2.1, .int .i64 y.2.2.2] ∧ a'' = { tmps := #[.slice A segs.length c, .slice oa ops.length oc, .string s, .int .i64 t, undef, undef, .pointer (some ⟨w.heap.size, 0, none⟩), .pointer (some ⟨w.heap.size + 1, 0, none⟩), .pointer (some ⟨w.heap.size + 1 + 1, 0, none⟩), .pointer (some ⟨w.heap.size + 1 + 1 + 1, 0, none⟩), .pointer (some ⟨w.heap.size + 1 + 1 + 1 + 1, 0, none⟩), .slice Av (segs.length + 1) cv, .bool true, undef, .slice xa xl.length xc, undef, .pointer (some ⟨Bx, 0, none⟩), .tuple #[.slice Av (segs.length + 1) cv, .bool true], .slice A segs.length c, .slice oa ops.length oc, .tuple #[.slice Av (segs.length + 1) cv, .bool true], .slice Av (segs.length + 1) cv, .bool true, .bool true, .bool false, .slice Av (segs.length + 1) cv, .func (.func 77) #[] #[.pointer (some ⟨w2.heap.size, 0, none⟩)], .int .i64 xi, .slice xa xl.length xc, .slice xa xl.length xc, .func (.func 78) #[] #[.pointer (some ⟨W.heap.size, 0, none⟩)], .int .i64 y.1, .agg #[.string y.2.1, .int .i64 y.2.2.1, .int .i64 y.2.2.2], undef, undef, undef, undef, undef, undef, undef, undef, undef, undef, undef, undef, undef], defers := [] })
        (fun y a'' _ X Y row hs hg hr => by obtain ⟨Bx, e1, e2⟩ := hs; exact ⟨Bx, blk_own e1 hg (fun r e => (hr r e).2), e2⟩)
        ?assign2 ?body2 ?done2 ?stop2
      case assign2 =>
        rintro l2 pre' y W' K ⟨⟨hq, hBW⟩, hKF⟩ hK
        gi_wp2
        exact hK _ _ ((KeepsOthers.alloc _ _).from _) ((Below.refl _ W').alloc hBW.size _) ⟨⟨hq, hBW.alloc hBW.size _⟩, hKF.trans ((KeepsOthers.alloc _ _).from _)⟩ ⟨W'.heap.size, Blk.new W' _ _, rfl⟩
      case body2 =>
        rintro l2 pre' y a'' W' _ _ ⟨⟨hq, hBW⟩, hKF⟩ ⟨Bx, bX, rfl⟩ _
        obtain ⟨yi, nm, t0, v0⟩ := y
        obtain ⟨x0, x1, x2⟩ := pt3_of bX
        have hb0W : Below W0.heap.size W0 W' := hb01.trans (hBW.mono hb01.size)
        have e6 := (boxed_below a6 hb0W).cell
        have e7 := (boxed_below a7 hb0W).cell
        have d8 := boxed_below a8 hb0W
        have d9 := boxed_below a9 hb0W
        have d10 := boxed_below a10 hb0W
        have c8 := d8.cell
        have f8 := d8.frozen
        have c9 := d9.cell
        have f9 := d9.frozen
        have c10 := d10.cell
        have f10 := d10.frozen
        have hbwW : Below w.heap.size w W' := HbW0.out.trans (hb0W.mono (by omega))
        by_cases h1 : nm = s
        · have hz1 : (nm.toList == s.toList) = true := by simp [h1]
          by_cases h2 : t0 = t
          · have hz2 : (t0 != t) = false := by simp [h2]
            have hh := hit_yes (v := v0) h1 h2
            clear h1 h2
            gi_wp2
            exact ⟨((KeepsOthers.setCell _ _ _).trans ((KeepsOthers.setCell _ _ _).trans (KeepsOthers.setCell _ _ _))).from _, ⟨⟨rfl, v0, hits_snoc hq hh, ((d8.set _).other (by omega) _).other (by omega) _, ((d9.other (by omega) _).set _).other (by omega) _, ((d10.other (by omega) _).other (by omega) _).set _⟩, ((hbwW.setCell (p := ⟨_, 0, none⟩) (by simp; omega) _).setCell (p := ⟨_, 0, none⟩) (by simp; omega) _).setCell (p := ⟨_, 0, none⟩) (by simp; omega) _⟩, hKF.trans (((KeepsOthers.setCell _ _ _).trans ((KeepsOthers.setCell _ _ _).trans (KeepsOthers.setCell _ _ _))).from _)⟩
          · have hz2 : (t0 != t) = true := by simp [h2]
            have hh := hit_no2 (nm := nm) (s := s) (v := v0) h2
            clear h1 h2
            gi_wp2
            exact ⟨KeepsFrom.refl _ _, Below.refl _ _, ⟨⟨noHit_snoc hq hh, hBW⟩, hKF⟩⟩
        · have hz1 : (nm.toList == s.toList) = false := list_ne h1
          have hh := hit_no1 (t0 := t0) (t := t) (v := v0) h1
          clear h1
          gi_wp2
          exact ⟨KeepsFrom.refl _ _, Below.refl _ _, ⟨⟨noHit_snoc hq hh, hBW⟩, hKF⟩⟩
      case done2 =>
        rintro ys' W' hys ⟨⟨hq, hBW⟩, hKF⟩
        gi_wp2
        have hb0W : Below W0.heap.size W0 W' := hb01.trans (hBW.mono hb01.size)
        exact ⟨hKF, (hbN.mono hsW).trans (hBW.mono hb01.size), ⟨fun z hz => (List.mem_append.1 hz).elim (hp z) (fun e => by rw [List.mem_singleton] at e; subst e; exact find_no hys hq), hb0W⟩⟩
      case stop2 =>
        rintro cd pre' W' ⟨d, hd, hpre⟩ ⟨⟨⟨rfl, v, hh, k8, k9, k10⟩, hbH⟩, hKF⟩
        gi_wp2
        exact ⟨hKF, ⟨rfl, pre, _, _, rfl, hp, hits_at hpre hh, k8, k9, k10⟩, hbH⟩
    case done =>
      rintro D zs W hD hzs ⟨hp, hB1⟩ hK
      have d8 := boxed_below a8 hB1
      have d9 := boxed_below a9 hB1
      have d10 := boxed_below a10 hB1
      have c8 := d8.cell
      have f8 := d8.frozen
      have c9 := d9.cell
      have f9 := d9.frozen
      have c10 := d10.cell
      have f10 := d10.frozen
      have hno := last_no hzs hp
      gi_wp2
      have hK' : (((W.setCell ⟨w.heap.size + 1 + 1, 0, none⟩ (.int .i64 0)).setCell ⟨w.heap.size + 1 + 1 + 1, 0, none⟩ (.bool false)).setCell ⟨w.heap.size + 1 + 1 + 1 + 1, 0, none⟩ (.int .i64 0)).heap[D]? = some (.deferred (some [])) := ((KeepsOthers.setCell _ _ _).trans ((KeepsOthers.setCell _ _ _).trans (KeepsOthers.setCell _ _ _))).same D _ hK rfl
      have q8 : Boxed (((W.setCell ⟨w.heap.size + 1 + 1, 0, none⟩ (.int .i64 0)).setCell ⟨w.heap.size + 1 + 1 + 1, 0, none⟩ (.bool false)).setCell ⟨w.heap.size + 1 + 1 + 1 + 1, 0, none⟩ (.int .i64 0)) (w.heap.size + 1 + 1) 3 (.int .i64 0) := ((d8.set _).other (by omega) _).other (by omega) _
      have q9 : Boxed (((W.setCell ⟨w.heap.size + 1 + 1, 0, none⟩ (.int .i64 0)).setCell ⟨w.heap.size + 1 + 1 + 1, 0, none⟩ (.bool false)).setCell ⟨w.heap.size + 1 + 1 + 1 + 1, 0, none⟩ (.int .i64 0)) (w.heap.size + 1 + 1 + 1) 4 (.bool false) := ((d9.other (by omega) _).set _).other (by omega) _
      have q10 : Boxed (((W.setCell ⟨w.heap.size + 1 + 1, 0, none⟩ (.int .i64 0)).setCell ⟨w.heap.size + 1 + 1 + 1, 0, none⟩ (.bool false)).setCell ⟨w.heap.size + 1 + 1 + 1 + 1, 0, none⟩ (.int .i64 0)) (w.heap.size + 1 + 1 + 1 + 1) 28 (.int .i64 0) := ((d10.other (by omega) _).other (by omega) _).set _
      have qb : Below w.heap.size w (((W.setCell ⟨w.heap.size + 1 + 1, 0, none⟩ (.int .i64 0)).setCell ⟨w.heap.size + 1 + 1 + 1, 0, none⟩ (.bool false)).setCell ⟨w.heap.size + 1 + 1 + 1 + 1, 0, none⟩ (.int .i64 0)) := (((HbW0.out.trans (hB1.mono (by omega))).setCell (p := ⟨w.heap.size + 1 + 1, 0, none⟩) (by simp; omega) _).setCell (p := ⟨w.heap.size + 1 + 1 + 1, 0, none⟩) (by simp; omega) _).setCell (p := ⟨w.heap.size + 1 + 1 + 1 + 1, 0, none⟩) (by simp; omega) _
      have Hr9 : Hid (res = (0, false, 0)) := by show _ = _; rw [Hres'.out, hno]; rfl
      generalize ((W.setCell ⟨w.heap.size + 1 + 1, 0, none⟩ (.int .i64 0)).setCell ⟨w.heap.size + 1 + 1 + 1, 0, none⟩ (.bool false)).setCell ⟨w.heap.size + 1 + 1 + 1 + 1, 0, none⟩ (.int .i64 0) = WZ at *
      clear c8 c9 c10 f8 f9 f10 d8 d9 d10
      refine ⟨by simp, .inl ⟨_, _, rfl, run_takeDeferred hK', ?_⟩⟩
      have g8 := cell_kept q8.cell (grownBy_putObj' _ D (.deferred none)) (fun r e => by cases e; exact ⟨_, hK', rfl⟩)
      have g9 := cell_kept q9.cell (grownBy_putObj' _ D (.deferred none)) (fun r e => by cases e; exact ⟨_, hK', rfl⟩)
      have g10 := cell_kept q10.cell (grownBy_putObj' _ D (.deferred none)) (fun r e => by cases e; exact ⟨_, hK', rfl⟩)
      refine ⟨.tuple #[.int .i64 0, .bool false, .int .i64 0], ?_, by rw [Hr9.out], qb.trans (belowK_b (w := w) (Nat.le_refl _) _ D _ _ (by omega) hK' rfl rfl)⟩
      simp [results, Try.f24, go_sem, g8, g9, g10]
    case stop =>
      rintro D cd pre W hD ⟨d, hd, hpre⟩ ⟨⟨rfl, q, x, v, rfl, hq, hx, k8, k9, k10⟩, hbH⟩ hK
      have hat := last_at hpre hq hx
      gi_wp2
      have Hr9 : Hid (res = (v, true, 0)) := by show _ = _; rw [Hres'.out, hat]; rfl
      refine ⟨by simp, .inl ⟨_, _, rfl, run_takeDeferred hK, ?_⟩⟩
      have g8 := cell_kept k8.cell (grownBy_putObj' _ D (.deferred none)) (fun r e => by cases e; exact ⟨_, hK, rfl⟩)
      have g9 := cell_kept k9.cell (grownBy_putObj' _ D (.deferred none)) (fun r e => by cases e; exact ⟨_, hK, rfl⟩)
      have g10 := cell_kept k10.cell (grownBy_putObj' _ D (.deferred none)) (fun r e => by cases e; exact ⟨_, hK, rfl⟩)
      refine ⟨.tuple #[.int .i64 v, .bool true, .int .i64 0], ?_, by rw [Hr9.out], hbH.trans (belowK_b (w := w) (Nat.le_refl _) _ D _ _ (by omega) hK rfl rfl)⟩
      simp [results, Try.f24, go_sem, g8, g9, g10]
end Go.Proofs.Ythdbmgjlegpbaaa
