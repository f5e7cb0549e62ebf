/- Plain facts on numbers and texts as bytes (chapter 2): what is written, what is read, there and back. No program in sight. -/
import Derived.Laws.BitsAllLaws
import Derived.Laws.BitsLemmas
import Derived.IntWalk
namespace Go.Proofs.Ythdbmgjlegpbaaa.Wr
set_option linter.unusedVariables false

def isNum (x : Int) : Bool := decide (-9007199254740992 ≤ x) && decide (x ≤ 9007199254740992)
def zig (x : Int) : Nat := if x < 0 then (-2 * x - 1).toNat else (2 * x).toNat
def unzig (z : Nat) : Int := if z % 2 = 1 then -((z / 2 : Nat) : Int) - 1 else ((z / 2 : Nat) : Int)
theorem isNum_iff (x : Int) : isNum x = true ↔ -9007199254740992 ≤ x ∧ x ≤ 9007199254740992 := by simp [isNum]
theorem isNum_false (x : Int) : isNum x = false ↔ ¬ (-9007199254740992 ≤ x ∧ x ≤ 9007199254740992) := by
  rw [← isNum_iff]; simp
theorem unzig_zig (x : Int) : unzig (zig x) = x := by
  unfold unzig zig
  by_cases h : x < 0
  · rw [if_pos h, if_pos (by omega)]; omega
  · rw [if_neg h, if_neg (by omega)]; omega
theorem zig_unzig (z : Nat) : zig (unzig z) = z := by
  unfold unzig zig
  by_cases h : z % 2 = 1
  · rw [if_pos h, if_pos (by omega)]; omega
  · rw [if_neg h, if_neg (by omega)]; omega
theorem zig_lt (x : Int) (h : isNum x = true) : zig x ≤ 18014398509481984 := by
  rw [isNum_iff] at h
  unfold zig; split <;> omega

/-- the bytes of a number: groups of seven bits, the least first -/
def vb : Nat → Nat → List UInt8
  | 0, z => [UInt8.ofNat z]
  | n + 1, z => if z < 128 then [UInt8.ofNat z] else UInt8.ofNat (z % 128 + 128) :: vb n (z / 128)
def putL (x : Int) : List UInt8 := if isNum x then vb 9 (zig x) else []
def putB (x : Int) : ByteArray := ⟨(putL x).toArray⟩
theorem vb_small (n z : Nat) (h : z < 128) : vb n z = [UInt8.ofNat z] := by
  cases n with
  | zero => rfl
  | succ n => unfold vb; rw [if_pos h]
theorem vb_more (n z : Nat) (h : ¬ z < 128) : vb (n + 1) z = UInt8.ofNat (z % 128 + 128) :: vb n (z / 128) := by
  rw [vb, if_neg h]
theorem vb_pos (n z : Nat) : 0 < (vb n z).length := by
  cases n with
  | zero => simp [vb]
  | succ n => unfold vb; split <;> simp
theorem vb_len (n z k : Nat) (h : z < 128 ^ (k + 1)) : (vb n z).length ≤ k + 1 := by
  induction n generalizing z k with
  | zero => simp [vb]
  | succ n ih =>
    by_cases hz : z < 128
    · rw [vb_small _ _ hz]; simp
    · rw [vb_more _ _ hz]
      cases k with
      | zero => simp at h; omega
      | succ k =>
        have : z / 128 < 128 ^ (k + 1) := by
          rw [Nat.pow_succ] at h
          exact Nat.div_lt_of_lt_mul (by rw [Nat.mul_comm]; exact h)
        have := ih (z / 128) k this
        simp; omega
theorem putL_len (x : Int) : (putL x).length ≤ 8 := by
  unfold putL
  by_cases h : isNum x = true
  · rw [if_pos h]
    have := zig_lt x h
    exact vb_len 9 _ 7 (by simp; omega)
  · rw [if_neg h]; simp

/-- what the bytes from here on are as a number: an error's code, or the number and how many bytes; n: how many may still come, i: how many were read, u: what they gave -/
def gn : Nat → Nat → Nat → List UInt8 → Sum Int (Int × Nat)
  | 0, _, _, _ => .inl 201
  | _ + 1, _, _, [] => .inl 200
  | n + 1, i, u, c :: l =>
    if 128 ≤ c.toNat then gn n (i + 1) (u + c.toNat % 128 * 128 ^ i) l
    else if c.toNat = 0 ∧ 0 < i then .inl 201
    else if isNum (unzig (u + c.toNat % 128 * 128 ^ i)) then .inr (unzig (u + c.toNat % 128 * 128 ^ i), i + 1) else .inl 201
/-- what GetNum answers: the number, the place behind it, the error's code -/
def getN (l : List UInt8) (at_ : Int) : Int × Int × Int :=
  if at_ < 0 ∨ (l.length : Int) < at_ then (0, 0, 200)
  else match gn 8 0 0 (l.drop at_.toNat) with
    | .inl e => (0, 0, e)
    | .inr (x, k) => (x, at_ + (k : Int), 0)

theorem gn_zero (i u : Nat) (l : List UInt8) : gn 0 i u l = .inl 201 := by unfold gn; rfl
theorem gn_nil (n i u : Nat) : gn (n + 1) i u [] = .inl 200 := by unfold gn; rfl
theorem gn_more (n i u : Nat) (c : UInt8) (l : List UInt8) (h : 128 ≤ c.toNat) : gn (n + 1) i u (c :: l) = gn n (i + 1) (u + c.toNat % 128 * 128 ^ i) l := by
  rw [gn, if_pos h]
theorem gn_long (n i u : Nat) (c : UInt8) (l : List UInt8) (h : c.toNat = 0) (hi : 0 < i) : gn (n + 1) i u (c :: l) = .inl 201 := by
  rw [gn, if_neg (by omega), if_pos ⟨h, hi⟩]
theorem gn_last (n i u : Nat) (c : UInt8) (l : List UInt8) (h : c.toNat < 128) (hz : ¬ (c.toNat = 0 ∧ 0 < i)) : gn (n + 1) i u (c :: l) = if isNum (unzig (u + c.toNat % 128 * 128 ^ i)) then .inr (unzig (u + c.toNat % 128 * 128 ^ i), i + 1) else .inl 201 := by
  rw [gn, if_neg (by omega), if_neg hz]

theorem toNat_ofNat_small (z : Nat) (h : z < 256) : (UInt8.ofNat z).toNat = z := by rw [UInt8.toNat_ofNat']; omega

/-- what was written is read, whatever stands behind -/
theorem gn_vb (m n i u z : Nat) (rest : List UInt8) (hm : z < 128 ^ (m + 1)) (hn : (vb m z).length ≤ n) (hz : i = 0 ∨ 0 < z) (hx : isNum (unzig (u + z * 128 ^ i)) = true) :
    gn n i u (vb m z ++ rest) = .inr (unzig (u + z * 128 ^ i), i + (vb m z).length) := by
  induction m generalizing n i u z with
  | zero =>
    have hz' : z < 128 := by simpa using hm
    rw [vb_small _ _ hz'] at hn ⊢
    cases n with
    | zero => simp at hn
    | succ n =>
      rw [List.cons_append, gn_last _ _ _ _ _ (by rw [toNat_ofNat_small _ (by omega)]; exact hz') (by rw [toNat_ofNat_small _ (by omega)]; omega), toNat_ofNat_small _ (by omega), Nat.mod_eq_of_lt hz', if_pos hx]
      rfl
  | succ m ih =>
    by_cases hz' : z < 128
    · rw [vb_small _ _ hz'] at hn ⊢
      cases n with
      | zero => simp at hn
      | succ n =>
        rw [List.cons_append, gn_last _ _ _ _ _ (by rw [toNat_ofNat_small _ (by omega)]; exact hz') (by rw [toNat_ofNat_small _ (by omega)]; omega), toNat_ofNat_small _ (by omega), Nat.mod_eq_of_lt hz', if_pos hx]
        rfl
    · rw [vb_more _ _ hz'] at hn ⊢
      cases n with
      | zero => simp at hn
      | succ n =>
        rw [List.cons_append, gn_more _ _ _ _ _ (by rw [toNat_ofNat_small _ (by omega)]; omega), toNat_ofNat_small _ (by omega)]
        have e : u + (z % 128 + 128) % 128 * 128 ^ i + z / 128 * 128 ^ (i + 1) = u + z * 128 ^ i := by
          rw [Nat.pow_succ, Nat.add_mod_right, Nat.mod_mod]
          have h1 : z / 128 * (128 ^ i * 128) = (128 * (z / 128)) * 128 ^ i := by
            rw [Nat.mul_comm (128 ^ i) 128, ← Nat.mul_assoc, Nat.mul_comm (z / 128) 128]
          rw [h1, Nat.add_assoc, ← Nat.add_mul, Nat.add_comm (z % 128), Nat.div_add_mod]
        have hd : z / 128 < 128 ^ (m + 1) := by
          rw [Nat.pow_succ] at hm
          exact Nat.div_lt_of_lt_mul (by rw [Nat.mul_comm]; exact hm)
        have := ih n (i + 1) (u + (z % 128 + 128) % 128 * 128 ^ i) (z / 128) hd (by simp at hn; omega) (.inr (by omega)) (by rw [e]; exact hx)
        rw [this, e]
        simp only [List.length_cons]
        congr 2
        omega
theorem gn_put (x : Int) (h : isNum x = true) (rest : List UInt8) : gn 8 0 0 (putL x ++ rest) = .inr (x, (putL x).length) := by
  have hl := putL_len x
  unfold putL at hl ⊢
  rw [if_pos h] at hl ⊢
  have hz := zig_lt x h
  have := gn_vb 9 8 0 0 (zig x) rest (by simp; omega) hl (.inl rfl) (by simp [unzig_zig, h])
  simpa [unzig_zig] using this
/-- what is read was written so -/
theorem vb_gn (n i u : Nat) (l : List UInt8) (x : Int) (k : Nat) (h : gn n i u l = .inr (x, k)) :
    ∃ z, x = unzig (u + z * 128 ^ i) ∧ isNum x = true ∧ i < k ∧ k - i ≤ l.length ∧ (0 < i → 0 < z) ∧ ∀ m, n ≤ m + 1 → l.take (k - i) = vb m z := by
  induction n generalizing i u l with
  | zero => rw [gn_zero] at h; cases h
  | succ n ih =>
    cases l with
    | nil => rw [gn_nil] at h; cases h
    | cons c l =>
      have hc := c.toNat_lt
      by_cases h1 : 128 ≤ c.toNat
      · rw [gn_more _ _ _ _ _ h1] at h
        obtain ⟨z, hx, hn, hik, hl, hz, hv⟩ := ih _ _ _ h
        have hz0 := hz (by omega)
        refine ⟨c.toNat % 128 + 128 * z, ?_, hn, by omega, by simp only [List.length_cons]; omega, fun _ => by omega, fun m hm => ?_⟩
        · rw [hx]
          congr 1
          rw [Nat.pow_succ, Nat.add_mul, Nat.add_assoc, Nat.mul_comm 128 z, Nat.mul_assoc, Nat.mul_comm 128 (128 ^ i)]
        · cases m with
          | zero =>
            have hn0 : n = 0 := by omega
            subst hn0
            rw [gn_zero] at h; cases h
          | succ m =>
            rw [vb_more m _ (by omega), show k - i = (k - (i + 1)) + 1 from by omega, List.take_succ_cons, hv m (by omega)]
            congr 1
            · apply UInt8.toNat_inj.1
              rw [toNat_ofNat_small _ (by omega)]; omega
            · congr 1; omega
      · by_cases h2 : c.toNat = 0 ∧ 0 < i
        · rw [gn_long _ _ _ _ _ h2.1 h2.2] at h; cases h
        · rw [gn_last _ _ _ _ _ (by omega) h2] at h
          by_cases h3 : isNum (unzig (u + c.toNat % 128 * 128 ^ i)) = true
          · rw [if_pos h3] at h
            injection h with h
            injection h with hx hk
            subst hx; subst hk
            refine ⟨c.toNat, by rw [Nat.mod_eq_of_lt (by omega)], by rw [← h3], by omega, by simp only [List.length_cons]; omega, fun hi => by omega, fun m _ => ?_⟩
            rw [vb_small _ _ (by omega), show i + 1 - i = 1 from by omega]
            simp
          · rw [if_neg h3] at h; cases h
theorem put_gn (l : List UInt8) (x : Int) (k : Nat) (h : gn 8 0 0 l = .inr (x, k)) : isNum x = true ∧ k ≤ l.length ∧ 0 < k ∧ putL x = l.take k := by
  obtain ⟨z, hx, hn, hik, hl, _, hv⟩ := vb_gn _ _ _ _ _ _ h
  refine ⟨hn, by simpa using hl, by omega, ?_⟩
  have hzx : zig x = z := by rw [hx]; simp [zig_unzig]
  unfold putL
  rw [if_pos hn, hzx]
  have := hv 9 (by omega)
  simpa using this.symm

theorem gn_code (n i u : Nat) (l : List UInt8) (e : Int) (h : gn n i u l = .inl e) : e = 200 ∨ e = 201 := by
  induction n generalizing i u l with
  | zero => rw [gn_zero] at h; injection h with h; exact .inr h.symm
  | succ n ih =>
    cases l with
    | nil => rw [gn_nil] at h; injection h with h; exact .inl h.symm
    | cons c l =>
      by_cases h1 : 128 ≤ c.toNat
      · rw [gn_more _ _ _ _ _ h1] at h; exact ih _ _ _ h
      · by_cases h2 : c.toNat = 0 ∧ 0 < i
        · rw [gn_long _ _ _ _ _ h2.1 h2.2] at h; injection h with h; exact .inr h.symm
        · rw [gn_last _ _ _ _ _ (by omega) h2] at h
          by_cases h3 : isNum (unzig (u + c.toNat % 128 * 128 ^ i)) = true
          · rw [if_pos h3] at h; cases h
          · rw [if_neg h3] at h; injection h with h; exact .inr h.symm
theorem getN_cases (l : List UInt8) (at_ : Int) : (∃ e : Int, getN l at_ = (0, 0, e) ∧ (e = 200 ∨ e = 201)) ∨
    ∃ (x : Int) (a k : Nat), at_ = a ∧ getN l at_ = (x, ((a + k : Nat) : Int), 0) ∧ isNum x = true ∧ 0 < k ∧ a + k ≤ l.length ∧ putL x = (l.drop a).take k := by
  unfold getN
  by_cases h : at_ < 0 ∨ (l.length : Int) < at_
  · left; exact ⟨200, by rw [if_pos h], .inl rfl⟩
  · rw [if_neg h]
    cases hg : gn 8 0 0 (l.drop at_.toNat) with
    | inl e => left; exact ⟨e, rfl, gn_code _ _ _ _ _ hg⟩
    | inr p =>
      obtain ⟨x, k⟩ := p
      obtain ⟨h1, h2, h3, h4⟩ := put_gn _ _ _ hg
      right
      rw [List.length_drop] at h2
      refine ⟨x, at_.toNat, k, by omega, ?_, h1, h3, by omega, h4⟩
      show (x, at_ + (k : Int), (0 : Int)) = _
      congr 2; omega
theorem putB_size (x : Int) : (putB x).size = (putL x).length := by
  show (putL x).toArray.size = _
  rw [List.size_toArray]
/-- what GetText answers -/
def getT (s : ByteArray) (at_ most : Int) : ByteArray × Int × Int :=
  if (getN s.data.toList at_).2.2 ≠ 0 then (⟨#[]⟩, 0, (getN s.data.toList at_).2.2)
  else if (getN s.data.toList at_).1 < 0 ∨ most < (getN s.data.toList at_).1 then (⟨#[]⟩, 0, 202)
  else if (s.size : Int) - (getN s.data.toList at_).2.1 < (getN s.data.toList at_).1 then (⟨#[]⟩, 0, 200)
  else (s.extract (getN s.data.toList at_).2.1.toNat ((getN s.data.toList at_).2.1 + (getN s.data.toList at_).1).toNat, (getN s.data.toList at_).2.1 + (getN s.data.toList at_).1, 0)
def textB (s : ByteArray) : ByteArray := putB (s.size : Int) ++ s

/-! how the walk spells it -/
theorem or_128 : ∀ n : Fin 256, n.1 ||| 128 = n.1 % 128 + 128 := by decide +kernel
theorem vb_byte (z : Nat) : bits .or .u8 ((z : Int) % 256) 128 = ((z % 128 + 128 : Nat) : Int) := by
  have e : ((z : Int) % 256) = ((z % 256 : Nat) : Int) := by omega
  have h := u8_or_nat (z % 256) 128 (by omega) (by omega)
  have o := or_128 ⟨z % 256, by omega⟩
  simp only at o
  rw [o] at h
  rw [e]
  exact h.trans (by congr 1; omega)
theorem and_127 : ∀ n : Fin 256, n.1 &&& 127 = n.1 % 128 := by decide +kernel
theorem low7 (c : UInt8) : bits .and .u8 (c.toNat : Int) 127 = ((c.toNat % 128 : Nat) : Int) := by
  have h := u8_and_nat c.toNat 127 c.toNat_lt (by omega)
  rw [and_127 ⟨c.toNat, c.toNat_lt⟩] at h
  exact h
theorem two_pow_7 (k : Nat) : (2 : Int) ^ (7 * k) = ((128 ^ k : Nat) : Int) := by
  rw [show (128 : Nat) ^ k = 2 ^ (7 * k) from by rw [Nat.pow_mul]]
  exact (Int.natCast_pow 2 (7 * k)).symm
theorem pow_le_8 (k : Nat) (h : k < 8) : 128 ^ k ≤ 562949953421312 := by
  have := Nat.pow_le_pow_right (n := 128) (by omega) (show k ≤ 7 by omega)
  omega
theorem gn_acc (u k : Nat) (c : UInt8) (hk : k < 8) (hu : u < 128 ^ k) :
    bits .or .u64 (u : Int) (IntKind.u64.wrap (IntKind.u64.wrap (bits .and .u8 (c.toNat : Int) 127) * 2 ^ (7 * k))) = ((u + c.toNat % 128 * 128 ^ k : Nat) : Int) := by
  have hp := pow_le_8 k hk
  have hc : c.toNat % 128 < 128 := Nat.mod_lt _ (by omega)
  have hm : c.toNat % 128 * 128 ^ k ≤ 127 * 562949953421312 := Nat.mul_le_mul (by omega) hp
  have e1 : IntKind.u64.wrap ((c.toNat % 128 : Nat) : Int) = ((c.toNat % 128 : Nat) : Int) := IntWalk.u64_in _ ⟨by omega, by omega⟩
  rw [low7, e1, two_pow_7, ← Int.natCast_mul, IntWalk.u64_in _ ⟨by omega, by omega⟩, u64_or_nat _ _ (by omega) (by omega), Nat.or_comm]
  congr 1
  have hb : 128 ^ k = 2 ^ (7 * k) := by rw [Nat.pow_mul]
  rw [nat_join (7 * k) _ _ (by rw [hb]; exact Nat.mul_mod_left _ _) (by rw [← hb]; exact hu), Nat.add_comm]
theorem gn_acc_lt (u k : Nat) (c : UInt8) (hu : u < 128 ^ k) : u + c.toNat % 128 * 128 ^ k < 128 ^ (k + 1) := by
  have hc : c.toNat % 128 < 128 := Nat.mod_lt _ (by omega)
  have : (c.toNat % 128 + 1) * 128 ^ k ≤ 128 * 128 ^ k := Nat.mul_le_mul_right _ (by omega)
  rw [Nat.pow_succ, Nat.mul_comm (128 ^ k) 128]
  rw [Nat.add_mul] at this
  omega
theorem acc_le (u k : Nat) (h : k ≤ 8) (hu : u < 128 ^ k) : u ≤ 72057594037927935 := by
  have := Nat.pow_le_pow_right (n := 128) (by omega) h
  omega
theorem low1 (u : Nat) (h : u < 18446744073709551616) : bits .and .u64 (u : Int) 1 = ((u % 2 : Nat) : Int) := by
  have := u64_and_nat u 1 h (by omega)
  rw [nat_mask1] at this
  exact this
theorem low1_yes (u : Nat) (h : u < 18446744073709551616) (h1 : u % 2 = 1) : (bits .and .u64 (u : Int) 1 == 1) = true := by rw [low1 u h, h1]; rfl
theorem low1_no (u : Nat) (h : u < 18446744073709551616) (h1 : ¬ u % 2 = 1) : (bits .and .u64 (u : Int) 1 == 1) = false := by
  rw [low1 u h, show u % 2 = 0 from by omega]; rfl
theorem unzig_odd (u : Nat) (h : u % 2 = 1) : unzig u = -((u : Int) / 2) - 1 := by unfold unzig; rw [if_pos h]; omega
theorem unzig_even (u : Nat) (h : ¬ u % 2 = 1) : unzig u = (u : Int) / 2 := by unfold unzig; rw [if_neg h]; omega
theorem pow_le_9 (k : Nat) (h : k ≤ 8) : 128 ^ k ≤ 72057594037927936 := by
  have := Nat.pow_le_pow_right (n := 128) (by omega) h
  omega
theorem racc (u c p : Nat) (h : u + c % 128 * p ≤ 72057594037927935) : RowKit.wrap64 ((u : Int) + RowKit.wrap64 ((c : Int) % 128 * (p : Int))) = ((u + c % 128 * p : Nat) : Int) := by
  have e : ((c : Int) % 128 * (p : Int)) = ((c % 128 * p : Nat) : Int) := by rw [Int.natCast_mul]; congr 1
  rw [e]
  generalize c % 128 * p = q at *
  rw [IntWalk.wrap64_in (q : Int) ⟨by omega, by omega⟩, IntWalk.wrap64_in _ ⟨by omega, by omega⟩]
  omega
theorem vb_next (z n : Nat) (h : z < 128 ^ (n + 1)) : z / 128 < 128 ^ n := by
  rw [Nat.pow_succ] at h
  exact Nat.div_lt_of_lt_mul (by rw [Nat.mul_comm]; exact h)
end Go.Proofs.Ythdbmgjlegpbaaa.Wr
