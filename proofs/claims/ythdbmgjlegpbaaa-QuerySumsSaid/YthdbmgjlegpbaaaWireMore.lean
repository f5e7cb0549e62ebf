/- Plain facts on what was cut or lengthened, and texts there and back (chapter 2). No program in sight. -/
import Derived.Test.YthdbmgjlegpbaaaWirePlain
import Derived.Lib.Strings
namespace Go.Proofs.Ythdbmgjlegpbaaa.Wr
set_option linter.unusedVariables false

theorem gn_big (l rest : List UInt8) (n i u : Nat) (h : ∀ c ∈ l, 128 ≤ c.toNat) (hl : l.length ≤ n) : ∃ u', gn n i u (l ++ rest) = gn (n - l.length) (i + l.length) u' rest := by
  induction l generalizing n i u with
  | nil => exact ⟨u, by simp⟩
  | cons c l ih =>
    cases n with
    | zero => simp at hl
    | succ n =>
      rw [List.cons_append, gn_more _ _ _ _ _ (h c (by simp))]
      obtain ⟨u', hu⟩ := ih n (i + 1) (u + c.toNat % 128 * 128 ^ i) (fun c hc => h c (by simp [hc])) (by simpa using hl)
      refine ⟨u', ?_⟩
      rw [hu, List.length_cons]
      congr 1 <;> omega
/-- all bytes but the last say that more come; the last does not -/
theorem vb_init (n z : Nat) (hz : z < 128 ^ (n + 1)) : ∃ (l : List UInt8) (c : UInt8), vb n z = l ++ [c] ∧ (∀ d ∈ l, 128 ≤ d.toNat) ∧ c.toNat < 128 ∧ (l ≠ [] → 0 < c.toNat) := by
  induction n generalizing z with
  | zero =>
    have : z < 128 := by simpa using hz
    exact ⟨[], UInt8.ofNat z, rfl, by simp, by rw [toNat_ofNat_small _ (by omega)]; exact this, fun h => absurd rfl h⟩
  | succ n ih =>
    by_cases h : z < 128
    · exact ⟨[], UInt8.ofNat z, by rw [vb_small _ _ h]; rfl, by simp, by rw [toNat_ofNat_small _ (by omega)]; exact h, fun h => absurd rfl h⟩
    · obtain ⟨l, c, hv, hl, hc, hc0⟩ := ih (z / 128) (vb_next _ _ hz)
      refine ⟨UInt8.ofNat (z % 128 + 128) :: l, c, by rw [vb_more _ _ h, hv]; rfl, ?_, hc, fun _ => ?_⟩
      · intro d hd
        rcases List.mem_cons.1 hd with rfl | hd
        · rw [toNat_ofNat_small _ (by omega)]; omega
        · exact hl d hd
      · cases l with
        | cons d l => exact hc0 (by simp)
        | nil =>
          have hs : vb n (z / 128) = [c] := by simpa using hv
          by_cases h2 : z / 128 < 128
          · rw [vb_small _ _ h2] at hs
            injection hs with hs _
            rw [← hs, toNat_ofNat_small _ (by omega)]; omega
          · cases n with
            | zero => exact absurd (by have := vb_next _ _ hz; simpa using this) h2
            | succ n =>
              rw [vb_more _ _ h2] at hs
              have := vb_pos n (z / 128 / 128)
              have hl := congrArg List.length hs
              rw [List.length_cons, List.length_cons, List.length_nil] at hl
              omega
theorem put_init (x : Int) (h : isNum x = true) : ∃ (l : List UInt8) (c : UInt8), putL x = l ++ [c] ∧ (∀ d ∈ l, 128 ≤ d.toNat) ∧ c.toNat < 128 ∧ l.length ≤ 7 := by
  have hz := zig_lt x h
  obtain ⟨l, c, hv, hl, hc, _⟩ := vb_init 9 (zig x) (by simp; omega)
  have hlen := putL_len x
  unfold putL at hlen ⊢
  rw [if_pos h] at hlen ⊢
  rw [hv] at hlen ⊢
  exact ⟨l, c, rfl, hl, hc, by simp at hlen; omega⟩
/-- a number that is cut -/
theorem gn_cut (x : Int) (h : isNum x = true) (k : Nat) (hk : k < (putL x).length) : gn 8 0 0 ((putL x).take k) = .inl 200 := by
  obtain ⟨l, c, hv, hl, hc, hlen⟩ := put_init x h
  rw [hv] at hk ⊢
  rw [List.length_append] at hk
  have hk' : k ≤ l.length := by simpa using Nat.lt_succ_iff.1 hk
  rw [List.take_append_of_le_length hk']
  obtain ⟨u', hu⟩ := gn_big (l.take k) [] 8 0 0 (fun c hc => hl c (List.mem_of_mem_take hc)) (by rw [List.length_take]; omega)
  rw [List.append_nil] at hu
  rw [hu, List.length_take, Nat.min_eq_left hk', show 8 - k = (7 - k) + 1 from by omega, gn_nil]
/-- a number made one byte longer -/
theorem gn_longer (l : List UInt8) (c : UInt8) (hl : ∀ d ∈ l, 128 ≤ d.toNat) (hlen : l.length ≤ 7) (d : UInt8) (hd : 128 ≤ d.toNat) : gn 8 0 0 (l ++ [d, 0]) = .inl 201 := by
  have e : l ++ [d, 0] = (l ++ [d]) ++ [0] := by simp
  rw [e]
  obtain ⟨u', hu⟩ := gn_big (l ++ [d]) [0] 8 0 0 (fun c hc => by
    rcases List.mem_append.1 hc with h | h
    · exact hl c h
    · have : c = d := by simpa using h
      rw [this]; exact hd) (by simp; omega)
  rw [hu, List.length_append]
  simp only [List.length_cons, List.length_nil]
  by_cases h7 : l.length = 7
  · rw [h7, gn_zero]
  · rw [show 8 - (l.length + (0 + 1)) = (6 - l.length) + 1 from by omega, gn_long _ _ _ _ _ rfl (by omega)]

theorem getN_at (pre l : List UInt8) : getN (pre ++ l) (pre.length : Int) = match gn 8 0 0 l with | .inl e => (0, 0, e) | .inr (x, k) => (x, (pre.length : Int) + (k : Int), 0) := by
  unfold getN
  rw [if_neg (by rw [List.length_append]; omega), Int.toNat_natCast, List.drop_left]
  rfl
theorem getN_put (pre post : List UInt8) (x : Int) (h : isNum x = true) : getN (pre ++ (putL x ++ post)) (pre.length : Int) = (x, (pre.length : Int) + ((putL x).length : Int), 0) := by
  rw [getN_at, gn_put x h]
theorem getN_zero (l : List UInt8) : getN l 0 = match gn 8 0 0 l with | .inl e => (0, 0, e) | .inr (x, k) => (x, (k : Int), 0) := by
  have := getN_at [] l
  simp only [List.nil_append, List.length_nil] at this
  rw [show ((0 : Nat) : Int) = 0 from rfl] at this
  rw [this]
  cases gn 8 0 0 l with
  | inl e => rfl
  | inr p => obtain ⟨x, k⟩ := p; simp
theorem putB_list (x : Int) : (putB x).data.toList = putL x := by unfold putB; simp
theorem append_list (a b : ByteArray) : (a ++ b).data.toList = a.data.toList ++ b.data.toList := by simp
theorem len_list (a : ByteArray) : a.data.toList.length = a.size := by simp
theorem ext_list {a b : ByteArray} (h : a.data.toList = b.data.toList) : a = b := by
  apply ByteArray.ext
  exact Array.toList_inj.1 h
theorem isNum_len (n : Nat) (h : n ≤ 9007199254740992) : isNum (n : Int) = true := by rw [isNum_iff]; omega
/-- a text, there and back -/
theorem getT_text (a t b : ByteArray) (ht : t.size ≤ 9007199254740992) : getT (a ++ textB t ++ b) (a.size : Int) (t.size : Int) = (t, (a.size : Int) + ((textB t).size : Int), 0) := by
  have hn := isNum_len t.size ht
  have hl : (a ++ textB t ++ b).data.toList = a.data.toList ++ (putL (t.size : Int) ++ (t.data.toList ++ b.data.toList)) := by
    unfold textB; rw [append_list, append_list, append_list, putB_list]; simp
  have hg : getN (a ++ textB t ++ b).data.toList (a.size : Int) = ((t.size : Int), (a.size : Int) + ((putL (t.size : Int)).length : Int), 0) := by
    rw [hl, ← len_list a]; exact getN_put _ _ _ hn
  have hts : (textB t).size = (putL (t.size : Int)).length + t.size := by unfold textB; rw [ByteArray.size_append, putB_size]
  have hsz : (a ++ textB t ++ b).size = a.size + ((putL (t.size : Int)).length + t.size) + b.size := by rw [ByteArray.size_append, ByteArray.size_append, hts]
  unfold getT
  rw [hg]
  simp only [ne_eq, not_true_eq_false, if_false]
  rw [if_neg (by omega), if_neg (by rw [hsz]; omega)]
  have e1 : ((a.size : Int) + ((putL (t.size : Int)).length : Int)).toNat = a.size + (putL (t.size : Int)).length := by omega
  have e2 : ((a.size : Int) + ((putL (t.size : Int)).length : Int) + (t.size : Int)).toNat = a.size + (putL (t.size : Int)).length + t.size := by omega
  rw [e1, e2, hts]
  refine Prod.ext ?_ (Prod.ext ?_ rfl)
  · apply ext_list
    rw [Lib.extract_data, hl]
    rw [show a.data.toList ++ (putL (t.size : Int) ++ (t.data.toList ++ b.data.toList)) = (a.data.toList ++ putL (t.size : Int)) ++ (t.data.toList ++ b.data.toList) from by simp]
    rw [List.drop_left' (by rw [List.length_append, len_list]), show a.size + (putL (t.size : Int)).length + t.size - (a.size + (putL (t.size : Int)).length) = t.size from by omega, ← len_list t, List.take_left]
  · show (a.size : Int) + ((putL (t.size : Int)).length : Int) + (t.size : Int) = (a.size : Int) + (((putL (t.size : Int)).length + t.size : Nat) : Int)
    omega
/-- a text that is longer than asked -/
theorem getT_long (t : ByteArray) (ht : t.size ≤ 9007199254740992) (most : Int) (hm : most < (t.size : Int)) : (getT (textB t) 0 most).2.2 = 202 := by
  have hn := isNum_len t.size ht
  have hg : getN (textB t).data.toList 0 = ((t.size : Int), ((putL (t.size : Int)).length : Int), 0) := by
    unfold textB; rw [append_list, putB_list, getN_zero, gn_put _ hn]
  unfold getT
  rw [hg]
  simp only [ne_eq, not_true_eq_false, if_false]
  rw [if_pos (.inr hm)]
/-- a text that is cut -/
theorem getT_cut (t : ByteArray) (ht : t.size ≤ 9007199254740992) (k : Nat) (hk : k < (textB t).size) : (getT ((textB t).extract 0 k) 0 (t.size : Int)).2.2 = 200 := by
  have hn := isNum_len t.size ht
  have hts : (textB t).size = (putL (t.size : Int)).length + t.size := by unfold textB; rw [ByteArray.size_append, putB_size]
  have hl : ((textB t).extract 0 k).data.toList = (putL (t.size : Int) ++ t.data.toList).take k := by
    rw [Lib.extract_data]; unfold textB; rw [append_list, putB_list]; simp
  by_cases h1 : k < (putL (t.size : Int)).length
  · have hg : getN ((textB t).extract 0 k).data.toList 0 = (0, 0, 200) := by
      rw [hl, List.take_append_of_le_length (by omega), getN_zero, gn_cut _ hn _ h1]
    unfold getT
    rw [hg]
    rfl
  · have hg : getN ((textB t).extract 0 k).data.toList 0 = ((t.size : Int), ((putL (t.size : Int)).length : Int), 0) := by
      rw [hl, List.take_append, List.take_of_length_le (by omega), getN_zero, gn_put _ hn]
    have hsz : ((textB t).extract 0 k).size = k := by rw [ByteArray.size_extract]; omega
    unfold getT
    rw [hg]
    simp only [ne_eq, not_true_eq_false, if_false]
    rw [if_neg (by omega), hsz, if_pos (by omega)]
end Go.Proofs.Ythdbmgjlegpbaaa.Wr
