/- Points in plain words: which may be, how they are written and read (chapter 3). -/
import Derived.Test.YthdbmgjlegpbaaaWireMore
namespace Go.Proofs.Ythdbmgjlegpbaaa.Pt
open Go.Proofs.Ythdbmgjlegpbaaa

abbrev Point := ByteArray × Int × Int
def nameC (c : UInt8) : Bool := (decide (97 ≤ c.toNat) && decide (c.toNat ≤ 122)) || (decide (48 ≤ c.toNat) && decide (c.toNat ≤ 57)) || decide (c.toNat = 95)
def nameB (s : ByteArray) : Bool := decide (1 ≤ s.size) && decide (s.size ≤ 12) && s.data.toList.all nameC
def smallB (x : Int) : Bool := decide (-2147483648 ≤ x) && decide (x ≤ 2147483647)
def mayB (p : Point) : Bool := nameB p.1 && smallB p.2.1 && smallB p.2.2
def batchB (ps : List Point) : Bool := decide (ps.length ≤ 8) && ps.all mayB
theorem smallB_iff (x : Int) : smallB x = true ↔ -2147483648 ≤ x ∧ x ≤ 2147483647 := by simp [smallB]
theorem smallB_false (x : Int) : smallB x = false ↔ ¬ (-2147483648 ≤ x ∧ x ≤ 2147483647) := by
  rw [← smallB_iff]; simp

/-- one point's bytes -/
def oneL (p : Point) : List UInt8 := (Wr.textB p.1).data.toList ++ Wr.putL p.2.1 ++ Wr.putL p.2.2
def ptsL (ps : List Point) : List UInt8 := Wr.putL (ps.length : Int) ++ ps.flatMap oneL
def ptsB (ps : List Point) : ByteArray := ⟨(ptsL ps).toArray⟩

/-- a reader's state: the place, and whether something was none -/
abbrev St := Int × Bool
def rdNum (s : ByteArray) (lo hi : Int) (r : St) : Int × St :=
  if (Wr.getN s.data.toList r.1).2.2 ≠ 0 ∨ (Wr.getN s.data.toList r.1).1 < lo ∨ hi < (Wr.getN s.data.toList r.1).1 ∨ r.2 = true then (0, (r.1, true))
  else ((Wr.getN s.data.toList r.1).1, ((Wr.getN s.data.toList r.1).2.1, false))
def rdText (s : ByteArray) (most : Int) (r : St) : ByteArray × St :=
  if (Wr.getT s r.1 most).2.2 ≠ 0 ∨ r.2 = true then (⟨#[]⟩, (r.1, true))
  else ((Wr.getT s r.1 most).1, ((Wr.getT s r.1 most).2.1, false))
def rdPt (s : ByteArray) (r : St) : Point × St :=
  let a := rdText s 12 r
  let t := rdNum s (-2147483648) 2147483647 a.2
  let v := rdNum s (-2147483648) 2147483647 t.2
  ((a.1, t.1, v.1), (v.2.1, v.2.2 || !mayB (a.1, t.1, v.1)))
def rdPts (s : ByteArray) : Nat → St → List Point × St
  | 0, r => ([], r)
  | n + 1, r => ((rdPt s r).1 :: (rdPts s n (rdPt s r).2).1, (rdPts s n (rdPt s r).2).2)
/-- what Read answers -/
def readPts (s : ByteArray) (r : St) : List Point × St :=
  let k := rdNum s 0 8 r
  let q := rdPts s k.1.toNat k.2
  (if q.2.2 then [] else q.1, q.2)
/-- what Get answers -/
def getPts (s : ByteArray) (at_ : Int) : List Point × Int × Int :=
  if (readPts s (at_, false)).2.2 then ([], 0, 300) else ((readPts s (at_, false)).1, (readPts s (at_, false)).2.1, 0)

theorem rdNum_bad (s : ByteArray) (lo hi a : Int) : rdNum s lo hi (a, true) = (0, (a, true)) := by simp [rdNum]
theorem rdText_bad (s : ByteArray) (most a : Int) : rdText s most (a, true) = (⟨#[]⟩, (a, true)) := by simp [rdText]
theorem rdPt_bad (s : ByteArray) (a : Int) : (rdPt s (a, true)).2 = (a, true) := by simp [rdPt, rdText_bad, rdNum_bad]
theorem rdPts_bad (s : ByteArray) (n : Nat) (a : Int) : (rdPts s n (a, true)).2 = (a, true) := by
  induction n with
  | zero => rfl
  | succ n ih => simp only [rdPts, rdPt_bad]; exact ih
theorem rdPts_bad' (s : ByteArray) (n : Nat) (r : St) (h : r.2 = true) : (rdPts s n r).2.2 = true := by
  obtain ⟨a, b⟩ := r
  obtain rfl : b = true := h
  rw [rdPts_bad]
theorem rdPts_length (s : ByteArray) (n : Nat) (r : St) : (rdPts s n r).1.length = n := by
  induction n generalizing r with
  | zero => rfl
  | succ n ih => simp only [rdPts, List.length_cons, ih]
/-- the places stay within the text -/
theorem rdNum_at (s : ByteArray) (lo hi : Int) (r : St) (h : r.1 ≤ 9223372036854775807) (h0 : -9223372036854775808 ≤ r.1) (hs : s.size ≤ 9223372036854775807) : -9223372036854775808 ≤ (rdNum s lo hi r).2.1 ∧ (rdNum s lo hi r).2.1 ≤ 9223372036854775807 := by
  unfold rdNum
  split
  · exact ⟨h0, h⟩
  · rename_i hc
    rcases Wr.getN_cases s.data.toList r.1 with ⟨e, hg, he⟩ | ⟨x, a, k, ha, hg, _, _, hle, _⟩
    · rw [hg] at hc; exact absurd (.inl (by rcases he with rfl | rfl <;> decide)) hc
    · rw [Wr.len_list] at hle
      rw [hg]; exact ⟨by simp; omega, by simp; omega⟩
theorem getT_at (s : ByteArray) (at_ most : Int) : 0 ≤ (Wr.getT s at_ most).2.1 ∧ (Wr.getT s at_ most).2.1 ≤ (s.size : Int) ∧ (Wr.getT s at_ most).1.size ≤ s.size := by
  unfold Wr.getT
  split
  · exact ⟨by simp, by simp, Nat.zero_le _⟩
  · rename_i h0
    rcases Wr.getN_cases s.data.toList at_ with ⟨e, hg, he⟩ | ⟨x, a, k, ha, hg, _, _, hle, _⟩
    · rw [hg] at h0; exact absurd (by rcases he with rfl | rfl <;> decide) h0
    · rw [Wr.len_list] at hle
      rw [hg]
      split
      · exact ⟨by simp, by simp, Nat.zero_le _⟩
      · rename_i h1
        split
        · exact ⟨by simp, by simp, Nat.zero_le _⟩
        · rename_i h2
          simp only at h1 h2 ⊢
          refine ⟨by omega, by omega, ?_⟩
          rw [ByteArray.size_extract]; omega
theorem rdText_at (s : ByteArray) (most : Int) (r : St) (h : r.1 ≤ 9223372036854775807) (h0 : -9223372036854775808 ≤ r.1) (hs : s.size ≤ 9223372036854775807) : -9223372036854775808 ≤ (rdText s most r).2.1 ∧ (rdText s most r).2.1 ≤ 9223372036854775807 := by
  have := getT_at s r.1 most
  unfold rdText
  split
  · exact ⟨h0, h⟩
  · exact ⟨by simp; omega, by simp; omega⟩
theorem rdPt_at (s : ByteArray) (r : St) (h : -9223372036854775808 ≤ r.1 ∧ r.1 ≤ 9223372036854775807) (hs : s.size ≤ 9223372036854775807) : -9223372036854775808 ≤ (rdPt s r).2.1 ∧ (rdPt s r).2.1 ≤ 9223372036854775807 := by
  have h1 := rdText_at s 12 r h.2 h.1 hs
  have h2 := rdNum_at s (-2147483648) 2147483647 _ h1.2 h1.1 hs
  have h3 := rdNum_at s (-2147483648) 2147483647 _ h2.2 h2.1 hs
  exact h3
theorem rdNum_range (s : ByteArray) (lo hi : Int) (r : St) (h : lo ≤ 0) (h' : 0 ≤ hi) : lo ≤ (rdNum s lo hi r).1 ∧ (rdNum s lo hi r).1 ≤ hi := by
  unfold rdNum
  split
  · exact ⟨h, h'⟩
  · rename_i hc
    simp only [not_or, Int.not_lt] at hc
    exact ⟨hc.2.1, hc.2.2.1⟩
theorem rdText_size (s : ByteArray) (r : St) : (rdText s 12 r).1.size ≤ 12 := by
  unfold rdText
  split
  · exact Nat.zero_le _
  · rename_i hc
    simp only [not_or, Decidable.not_not] at hc
    unfold Wr.getT at hc ⊢
    split
    · exact Nat.zero_le _
    · split
      · exact Nat.zero_le _
      · split
        · exact Nat.zero_le _
        · rename_i h1 h2 h3
          simp only [ByteArray.size_extract]
          simp only [not_or, Int.not_lt] at h2
          omega
end Go.Proofs.Ythdbmgjlegpbaaa.Pt
