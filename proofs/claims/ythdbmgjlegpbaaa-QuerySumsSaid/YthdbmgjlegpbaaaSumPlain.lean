/- Plain facts on the hash, the CRC and the digits: each step can be undone, so one byte turned is told. No program in sight. -/
import Derived.Laws.BitsAllLaws
import Derived.Laws.BitsLemmas
import Derived.IntWalk
namespace Go.Proofs.Ythdbmgjlegpbaaa.Sm

/-- one step of the hash -/
def hstep (x c : Nat) : Nat := (1099511628211 * (x ^^^ c)) % 18446744073709551616
def hbegin : Nat := 14695981039346656037
attribute [irreducible] hbegin hstep
/-- the hash of bytes -/
def hashL (l : List UInt8) : Nat := l.foldl (fun x c => hstep x c.toNat) hbegin

theorem hstep_eq (x c : Nat) : hstep x c = ((x ^^^ c) * 1099511628211) % 18446744073709551616 := by unfold hstep; rw [Nat.mul_comm]
theorem hbegin_eq : hbegin = 14695981039346656037 := by unfold hbegin; rfl
theorem hstep_lt (x c : Nat) : hstep x c < 18446744073709551616 := by rw [hstep_eq]; exact Nat.mod_lt _ (by omega)
theorem hbegin_lt : hbegin < 18446744073709551616 := by rw [hbegin_eq]; omega
theorem foldl_lt (l : List UInt8) (x : Nat) (h : x < 18446744073709551616) : l.foldl (fun x c => hstep x c.toNat) x < 18446744073709551616 := by
  induction l generalizing x with
  | nil => exact h
  | cons c l ih => exact ih _ (hstep_lt _ _)
theorem hashL_lt (l : List UInt8) : hashL l < 18446744073709551616 := foldl_lt l _ hbegin_lt
theorem hashL_snoc (l : List UInt8) (c : UInt8) : hashL (l ++ [c]) = hstep (hashL l) c.toNat := by
  simp only [hashL, List.foldl_append, List.foldl_cons, List.foldl_nil]
theorem hashL_nil : hashL [] = hbegin := by simp only [hashL, List.foldl_nil]

theorem mul_undo (a : Nat) (h : a < 18446744073709551616) : (a * 1099511628211 % 18446744073709551616) * 14886173955864302971 % 18446744073709551616 = a := by
  rw [Nat.mod_mul_mod, Nat.mul_assoc, show 1099511628211 * 14886173955864302971 = 887285111055 * 18446744073709551616 + 1 from by decide, Nat.mul_add, Nat.mul_one, ← Nat.mul_assoc, Nat.add_comm, Nat.add_mul_mod_self_right]
  exact Nat.mod_eq_of_lt h
theorem xor_lt {x c : Nat} (hx : x < 18446744073709551616) (hc : c < 256) : x ^^^ c < 18446744073709551616 :=
  Nat.xor_lt_two_pow (n := 64) hx (by omega)
theorem xor_undo (x c : Nat) : (x ^^^ c) ^^^ c = x := by rw [Nat.xor_assoc, Nat.xor_self, Nat.xor_zero]
theorem hstep_inj {x y c d : Nat} (hx : x < 18446744073709551616) (hy : y < 18446744073709551616) (hc : c < 256) (hd : d < 256) (h : hstep x c = hstep y d) : x ^^^ c = y ^^^ d := by
  have h1 := mul_undo (x ^^^ c) (xor_lt hx hc)
  have h2 := mul_undo (y ^^^ d) (xor_lt hy hd)
  rw [hstep_eq, hstep_eq] at h
  rw [h] at h1
  exact h1.symm.trans h2
theorem hstep_left {x y c : Nat} (hx : x < 18446744073709551616) (hy : y < 18446744073709551616) (hc : c < 256) (h : hstep x c = hstep y c) : x = y := by
  have h1 := hstep_inj hx hy hc hc h
  have h2 := congrArg (· ^^^ c) h1
  simpa [xor_undo] using h2
theorem hstep_right {x c d : Nat} (hx : x < 18446744073709551616) (hc : c < 256) (hd : d < 256) (h : hstep x c = hstep x d) : c = d := by
  have h1 := hstep_inj hx hx hc hd h
  have h2 := congrArg (x ^^^ ·) h1
  simpa [← Nat.xor_assoc] using h2
theorem foldl_inj (l : List UInt8) {x y : Nat} (hx : x < 18446744073709551616) (hy : y < 18446744073709551616) (h : l.foldl (fun x c => hstep x c.toNat) x = l.foldl (fun x c => hstep x c.toNat) y) : x = y := by
  induction l generalizing x y with
  | nil => exact h
  | cons c l ih => exact hstep_left hx hy c.toNat_lt (ih (hstep_lt _ _) (hstep_lt _ _) h)
/-- a text in which one byte is turned has another hash -/
theorem hash_turned (p q : List UInt8) (c d : UInt8) (h : c ≠ d) : hashL (p ++ c :: q) ≠ hashL (p ++ d :: q) := by
  intro he
  unfold hashL at he
  rw [List.foldl_append, List.foldl_append, List.foldl_cons, List.foldl_cons] at he
  have h1 := foldl_inj q (hstep_lt _ _) (hstep_lt _ _) he
  have h2 := hstep_right (foldl_lt p _ hbegin_lt) c.toNat_lt d.toNat_lt h1
  exact h (UInt8.toNat_inj.1 h2)

/-! the CRC -/
def cbit (x : Nat) : Nat := if x % 2 = 1 then (x / 2) ^^^ 3988292384 else x / 2
def cbits : Nat → Nat → Nat
  | 0, x => x
  | n + 1, x => cbits n (cbit x)
def cstep (x c : Nat) : Nat := cbits 8 (x ^^^ c)
def crcL (l : List UInt8) : Nat := l.foldl (fun x c => cstep x c.toNat) 4294967295

theorem cbit_lt (x : Nat) (h : x < 4294967296) : cbit x < 4294967296 := by
  unfold cbit; split
  · exact Nat.xor_lt_two_pow (n := 32) (by omega) (by omega)
  · omega
theorem cbits_lt (n x : Nat) (h : x < 4294967296) : cbits n x < 4294967296 := by
  induction n generalizing x with
  | zero => exact h
  | succ n ih => exact ih _ (cbit_lt x h)
theorem cbits_succ (n x : Nat) : cbits (n + 1) x = cbit (cbits n x) := by
  induction n generalizing x with
  | zero => rfl
  | succ n ih => exact ih (cbit x)
theorem cxor_lt {x c : Nat} (hx : x < 4294967296) (hc : c < 256) : x ^^^ c < 4294967296 := Nat.xor_lt_two_pow (n := 32) hx (by omega)
theorem cstep_lt {x c : Nat} (hx : x < 4294967296) (hc : c < 256) : cstep x c < 4294967296 := cbits_lt _ _ (cxor_lt hx hc)
theorem cbit_top (x : Nat) (h : x < 4294967296) : (cbit x).testBit 31 = decide (x % 2 = 1) := by
  have hl : (x / 2).testBit 31 = false := Nat.testBit_lt_two_pow (by omega)
  unfold cbit; split
  · rw [Nat.testBit_xor, hl]; simp [*]; decide
  · rw [hl]; simp [*]
theorem cbit_inj {x y : Nat} (hx : x < 4294967296) (hy : y < 4294967296) (h : cbit x = cbit y) : x = y := by
  have h1 := cbit_top x hx
  have h2 := cbit_top y hy
  rw [h, h2] at h1
  have hp : (x % 2 = 1) ↔ (y % 2 = 1) := by
    by_cases a : x % 2 = 1 <;> by_cases b : y % 2 = 1 <;> simp_all
  unfold cbit at h
  by_cases a : x % 2 = 1
  · rw [if_pos a, if_pos (hp.1 a)] at h
    have h3 := congrArg (· ^^^ 3988292384) h
    simp only [xor_undo] at h3
    have := hp.1 a
    omega
  · rw [if_neg a, if_neg (fun b => a (hp.2 b))] at h
    have : ¬ y % 2 = 1 := fun b => a (hp.2 b)
    omega
theorem cbits_inj (n : Nat) {x y : Nat} (hx : x < 4294967296) (hy : y < 4294967296) (h : cbits n x = cbits n y) : x = y := by
  induction n generalizing x y with
  | zero => exact h
  | succ n ih => exact cbit_inj hx hy (ih (cbit_lt x hx) (cbit_lt y hy) h)
theorem cstep_inj {x y c d : Nat} (hx : x < 4294967296) (hy : y < 4294967296) (hc : c < 256) (hd : d < 256) (h : cstep x c = cstep y d) : x ^^^ c = y ^^^ d :=
  cbits_inj 8 (cxor_lt hx hc) (cxor_lt hy hd) h
theorem cfold_lt (l : List UInt8) (x : Nat) (h : x < 4294967296) : l.foldl (fun x c => cstep x c.toNat) x < 4294967296 := by
  induction l generalizing x with
  | nil => exact h
  | cons c l ih => exact ih _ (cstep_lt h c.toNat_lt)
theorem crcL_lt (l : List UInt8) : crcL l < 4294967296 := cfold_lt l _ (by omega)
theorem crcL_snoc (l : List UInt8) (c : UInt8) : crcL (l ++ [c]) = cstep (crcL l) c.toNat := by
  simp only [crcL, List.foldl_append, List.foldl_cons, List.foldl_nil]
theorem cfold_inj (l : List UInt8) {x y : Nat} (hx : x < 4294967296) (hy : y < 4294967296) (h : l.foldl (fun x c => cstep x c.toNat) x = l.foldl (fun x c => cstep x c.toNat) y) : x = y := by
  induction l generalizing x y with
  | nil => exact h
  | cons c l ih =>
    have h1 := cstep_inj hx hy c.toNat_lt c.toNat_lt (ih (cstep_lt hx c.toNat_lt) (cstep_lt hy c.toNat_lt) h)
    have h2 := congrArg (· ^^^ c.toNat) h1
    simpa [xor_undo] using h2
/-- a text in which one byte is turned has another CRC -/
theorem crc_turned (p q : List UInt8) (c d : UInt8) (h : c ≠ d) : crcL (p ++ c :: q) ≠ crcL (p ++ d :: q) := by
  intro he
  unfold crcL at he
  rw [List.foldl_append, List.foldl_append, List.foldl_cons, List.foldl_cons] at he
  have hb := cfold_lt p 4294967295 (by omega)
  have h1 := cfold_inj q (cstep_lt hb c.toNat_lt) (cstep_lt hb d.toNat_lt) he
  have h2 := cstep_inj hb hb c.toNat_lt d.toNat_lt h1
  have h3 := congrArg ((p.foldl (fun x c => cstep x c.toNat) 4294967295) ^^^ ·) h2
  exact h (UInt8.toNat_inj.1 (by simpa [← Nat.xor_assoc] using h3))

/-! how the walk spells a step -/
theorem byte_u64 (c : UInt8) : IntKind.u64.wrap (c.toNat : Int) = (c.toNat : Int) := IntWalk.u64_in _ (by have := c.toNat_lt; omega)
theorem byte_u32 (c : UInt8) : IntKind.u32.wrap (c.toNat : Int) = (c.toNat : Int) := by rw [IntKind.wrap_u32']; have := c.toNat_lt; omega
theorem hash_int (x : Nat) (c : UInt8) (h : x < 18446744073709551616) : IntKind.u64.wrap (bits .xor .u64 (x : Int) (IntKind.u64.wrap (c.toNat : Int)) * 1099511628211) = (hstep x c.toNat : Int) := by
  rw [byte_u64, u64_xor_nat x c.toNat h (by have := c.toNat_lt; omega), hstep_eq, IntKind.wrap_u64]
  omega
theorem crc_xor (x : Nat) (c : UInt8) (h : x < 4294967296) : bits .xor .u32 (x : Int) ((c.toNat : Int) % 4294967296) = ((x ^^^ c.toNat : Nat) : Int) := by
  have := c.toNat_lt
  rw [show ((c.toNat : Int) % 4294967296) = (c.toNat : Int) from by omega, u32_xor_nat x c.toNat h (by omega)]
theorem crc_low (x : Nat) (h : x < 4294967296) : bits .and .u32 (x : Int) 1 = ((x % 2 : Nat) : Int) := by
  have := u32_and_nat x 1 h (by omega)
  rw [nat_mask1] at this
  exact this
theorem crc_poly (x : Nat) (h : x < 4294967296) : bits .xor .u32 ((x : Int) / 2) 3988292384 = ((x / 2 ^^^ 3988292384 : Nat) : Int) := by
  have := u32_xor_nat (x / 2) 3988292384 (by omega) (by omega)
  rw [← this]; congr 1
theorem cbits_odd (m x : Nat) (hx : x < 4294967296) (h : (bits .and .u32 ((cbits m x : Nat) : Int) 1 == 1) = true) : bits .xor .u32 (((cbits m x : Nat) : Int) / 2) 3988292384 = ((cbits (m + 1) x : Nat) : Int) := by
  have hb := cbits_lt m x hx
  rw [crc_low _ hb] at h
  have h0 : (((cbits m x % 2 : Nat) : Int)) = 1 := by simpa only [beq_iff_eq] using h
  have h1 : cbits m x % 2 = 1 := by omega
  rw [crc_poly _ hb, cbits_succ]
  unfold cbit; rw [if_pos h1]
theorem cbits_even (m x : Nat) (hx : x < 4294967296) (h : (bits .and .u32 ((cbits m x : Nat) : Int) 1 == 1) = false) : (((cbits m x : Nat) : Int) / 2) = ((cbits (m + 1) x : Nat) : Int) := by
  have hb := cbits_lt m x hx
  rw [crc_low _ hb] at h
  have h0 : ¬ (((cbits m x % 2 : Nat) : Int)) = 1 := by simpa only [beq_eq_false_iff_ne, ne_eq] using h
  have h1 : ¬ cbits m x % 2 = 1 := by omega
  rw [cbits_succ]
  unfold cbit; rw [if_neg h1]; omega
theorem rcbits_odd (m x : Nat) (hx : x < 4294967296) (h : ((((cbits m x : Nat) : Int) % 2) == 1) = true) : bits .xor .u32 (((cbits m x : Nat) : Int) / 2) 3988292384 = ((cbits (m + 1) x : Nat) : Int) := by
  have hb := cbits_lt m x hx
  have h1 : cbits m x % 2 = 1 := by have : ((cbits m x : Nat) : Int) % 2 = 1 := by simpa using h
                                    omega
  rw [crc_poly _ hb, cbits_succ]
  unfold cbit; rw [if_pos h1]
theorem rcbits_even (m x : Nat) (h : ((((cbits m x : Nat) : Int) % 2) == 1) = false) : (((cbits m x : Nat) : Int) / 2) = ((cbits (m + 1) x : Nat) : Int) := by
  have h1 : ¬ cbits m x % 2 = 1 := by have : ¬ ((cbits m x : Nat) : Int) % 2 = 1 := by simpa using h
                                      omega
  rw [cbits_succ]
  unfold cbit; rw [if_neg h1]; omega
theorem crc_not (x : Nat) (h : x < 4294967296) : bits .xor .u32 (IntKind.max .u32) (x : Int) = ((x ^^^ 4294967295 : Nat) : Int) := by
  have := u32_xor_nat 4294967295 x (by omega) h
  rw [Nat.xor_comm] at this
  exact this
theorem rcrc_not (x : Nat) (h : x < 4294967296) : bits .xor .u32 (x : Int) 4294967295 = ((x ^^^ 4294967295 : Nat) : Int) := u32_xor_nat x 4294967295 h (by omega)
theorem crc_done (l : List UInt8) (c : UInt8) : cbits 8 (crcL l ^^^ c.toNat) = crcL (l ++ [c]) := by rw [crcL_snoc]; unfold cstep; rfl

/-! the digits -/
def hexd (n : Nat) : UInt8 := if n < 10 then UInt8.ofNat (48 + n) else UInt8.ofNat (87 + n)
def hexAt (x j : Nat) : UInt8 := hexd (x / 16 ^ (15 - j) % 16)
def hexL (x : Nat) : List UInt8 := (List.range 16).map (hexAt x)
def hexCell (x k j : Nat) : Value := if 16 ≤ j + k then .int .u8 ((hexAt x j).toNat : Int) else .int .u8 0
def hexRow (x k : Nat) : Array Value := ((List.range 16).map (hexCell x k)).toArray
def digs : ByteArray := ⟨#[48, 49, 50, 51, 52, 53, 54, 55, 56, 57, 97, 98, 99, 100, 101, 102]⟩
theorem digs_at (n : Nat) (h : n < 16) (h' : n < digs.size) : digs[n] = hexd n := by
  have : ∀ m : Fin 16, ∀ h' : m.1 < digs.size, digs[m.1] = hexd m.1 := by decide
  exact this ⟨n, h⟩ h'
theorem hex_low (x k : Nat) (hx : x < 18446744073709551616) : bits .and .u64 ((x : Int) / 2 ^ (4 * k)) 15 = ((x / 16 ^ k % 16 : Nat) : Int) := by
  have e : ((x : Int) / 2 ^ (4 * k)) = ((x / 16 ^ k : Nat) : Int) := by
    have e2 : ((16 ^ k : Nat) : Int) = 2 ^ (4 * k) := by
      rw [show (16 : Nat) ^ k = 2 ^ (4 * k) from by rw [Nat.pow_mul]]
      exact Int.natCast_pow 2 (4 * k)
    rw [Int.natCast_ediv, e2]
  rw [e]
  have hl : x / 16 ^ k < 18446744073709551616 := Nat.lt_of_le_of_lt (Nat.div_le_self _ _) hx
  have := u64_and_nat (x / 16 ^ k) 15 hl (by omega)
  rw [nat_mask4] at this
  exact this
theorem hexRow_size (x k : Nat) : (hexRow x k).size = 16 := by simp [hexRow]
theorem hexRow_at (x k j : Nat) (h : j < 16) : (hexRow x k)[j]? = some (hexCell x k j) := by
  simp [hexRow, h]
theorem hexRow_zero (x : Nat) : hexRow x 0 = #[.int .u8 0, .int .u8 0, .int .u8 0, .int .u8 0, .int .u8 0, .int .u8 0, .int .u8 0, .int .u8 0, .int .u8 0, .int .u8 0, .int .u8 0, .int .u8 0, .int .u8 0, .int .u8 0, .int .u8 0, .int .u8 0] := by
  simp [hexRow, hexCell, List.range, List.range.loop]
theorem hexRow_next (x k : Nat) (hk : k < 16) (h' : x / 16 ^ k % 16 < digs.size) : (hexRow x k).setIfInBounds (15 - k) (.int .u8 ((digs[x / 16 ^ k % 16].toNat : Nat) : Int)) = hexRow x (k + 1) := by
  apply Array.ext_getElem?
  intro j
  rw [Array.getElem?_setIfInBounds]
  by_cases hj : j < 16
  · rw [hexRow_at _ _ _ hj, hexRow_at _ _ _ hj]
    by_cases he : 15 - k = j
    · rw [if_pos he, if_pos (by rw [hexRow_size]; omega)]
      unfold hexCell hexAt
      rw [if_pos (by omega), digs_at _ (Nat.mod_lt _ (by omega)), show 15 - j = k from by omega]
    · rw [if_neg he]
      unfold hexCell
      by_cases hc : 16 ≤ j + k
      · rw [if_pos hc, if_pos (by omega)]
      · rw [if_neg hc, if_neg (by omega)]
  · rw [if_neg (by omega), Array.getElem?_eq_none (by rw [hexRow_size]; omega), Array.getElem?_eq_none (by rw [hexRow_size]; omega)]
theorem hexd_lo (n : Nat) (h : n < 10) : (hexd n).toNat = 48 + n := by
  unfold hexd; rw [if_pos h, UInt8.toNat_ofNat']; omega
theorem hexd_hi (n : Nat) (h : ¬ n < 10) (h' : n < 16) : (hexd n).toNat = 87 + n := by
  unfold hexd; rw [if_neg h, UInt8.toNat_ofNat']; omega
theorem hexL_length (x : Nat) : (hexL x).length = 16 := by simp [hexL]
theorem hexL_at (x k : Nat) (h : k < (hexL x).length) : (hexL x)[k] = hexd (x / 16 ^ (15 - k) % 16) := by
  simp [hexL, hexAt]
theorem hex_more (x k y : Nat) (hk : k < 16) (h : y = x / 16 ^ (16 - k)) : y * 16 + x / 16 ^ (15 - k) % 16 = x / 16 ^ (15 - k) := by
  subst h
  have e : 16 - k = (15 - k) + 1 := by omega
  rw [e, Nat.pow_succ, ← Nat.div_div_eq_div_mul]
  omega
theorem hexRow_done (x j : Nat) (h : j < (hexL x).length) : (hexRow x 16)[j]? = some (.int .u8 (((hexL x)[j].toNat : Nat) : Int)) := by
  rw [hexL_length] at h
  rw [hexRow_at _ _ _ h]
  simp [hexCell, hexL]
end Go.Proofs.Ythdbmgjlegpbaaa.Sm
