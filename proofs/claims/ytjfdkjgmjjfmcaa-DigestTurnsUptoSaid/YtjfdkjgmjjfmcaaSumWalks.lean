/- The walks through package sum and its reference: what Hash, Crc and Hex give for every text and number. -/
import Derived.Test.YtjfdkjgmjjfmcaaRows
import Derived.Test.YtjfdkjgmjjfmcaaSumPlain
import Derived.Test.YtjfdkjgmjjfmcaaBase
namespace Go.Proofs.Ytjfdkjgmjjfmcaa
open Go.RowKit
set_option linter.unusedVariables false

set_option maxHeartbeats 400000 in
theorem hash_any (s : ByteArray) (w : World) (hs : s.size ≤ maxLen) :
    Calls Try.prog 24 #[.string s] w fun e w' => e = .returned (.int .u64 (Sm.hashL s.data.toList)) ∧ w = w' := by
  unfold maxLen at hs
  go_enter Try.func24, Try.ntmps24
  go_wp2
  go_loop [3, 7] (fun x i => ∃ k : Nat, k ≤ s.size ∧ i = .int .i64 k ∧ x = .int .u64 (Sm.hashL (s.data.toList.take k))) (fun _ i => s.size - (intOf i).toNat)
  case atStart => exact ⟨0, Nat.zero_le _, rfl, by rw [List.take_zero, Sm.hashL_nil, Sm.hbegin_eq]; rfl⟩
  case round =>
    obtain ⟨k, hk, rfl, rfl⟩ := hrel
    by_cases hlt : k < s.size
    · go_wp2
      go_round
      case rel => exact ⟨k + 1, by omega, by go_num, by rw [take_snoc s k hlt, Sm.hashL_snoc, Sm.hash_int _ _ (Sm.hashL_lt _)]⟩
      case measure => simp [intOf]; omega
    · go_wp2
      go_ret
      exact ⟨ret_int (by rw [List.take_of_length_le (by simp; omega)]), rfl⟩

set_option maxHeartbeats 400000 in
theorem rhash_any (s : ByteArray) (w : World) (hs : s.size ≤ maxLen) :
    Calls Try.prog 25 #[.string s] w fun e w' => e = .returned (.int .u64 (Sm.hashL s.data.toList)) ∧ w = w' := by
  unfold maxLen at hs
  go_enter Try.func25, Try.ntmps25
  go_wp2
  go_loop [3, 4] (fun x i => ∃ k : Nat, k ≤ s.size ∧ i = .int .i64 k ∧ x = .int .u64 (Sm.hashL (s.data.toList.take k))) (fun _ i => s.size - (intOf i).toNat)
  case atStart => exact ⟨0, Nat.zero_le _, rfl, by rw [List.take_zero, Sm.hashL_nil, Sm.hbegin_eq]; rfl⟩
  case round =>
    obtain ⟨k, hk, rfl, rfl⟩ := hrel
    by_cases hlt : k < s.size
    · go_wp2
      go_round
      case rel => exact ⟨k + 1, by omega, by go_num, by rw [take_snoc s k hlt, Sm.hashL_snoc, Sm.hash_int _ _ (Sm.hashL_lt _)]⟩
      case measure => simp [intOf]; omega
    · go_wp2
      go_ret
      exact ⟨ret_int (by rw [List.take_of_length_le (by simp; omega)]), rfl⟩

set_option maxHeartbeats 400000 in
theorem crc_any (s : ByteArray) (w : World) (hs : s.size ≤ maxLen) :
    Calls Try.prog 26 #[.string s] w fun e w' => e = .returned (.int .u32 ((Sm.crcL s.data.toList ^^^ 4294967295 : Nat) : Int)) ∧ w = w' := by
  unfold maxLen at hs
  go_enter Try.func26, Try.ntmps26
  go_wp2
  go_loop [3, 8] (fun x i => ∃ k : Nat, k ≤ s.size ∧ i = .int .i64 k ∧ x = .int .u32 (Sm.crcL (s.data.toList.take k))) (fun _ i => s.size - (intOf i).toNat)
  case atStart => exact ⟨0, Nat.zero_le _, rfl, rfl⟩
  case round =>
    obtain ⟨k, hk, rfl, rfl⟩ := hrel
    by_cases hlt : k < s.size
    · have hx := Sm.crcL_lt (s.data.toList.take k)
      have hy := Sm.cxor_lt hx s[k].toNat_lt
      go_wp2
      go_loop [3, 17] (fun x j => ∃ m : Nat, m ≤ 8 ∧ j = .int .i64 m ∧ x = .int .u32 (Sm.cbits m (Sm.crcL (s.data.toList.take k) ^^^ s[k].toNat))) (fun _ j => 8 - (intOf j).toNat)
      case atStart => exact ⟨0, Nat.zero_le _, rfl, by rw [Sm.crc_xor _ _ hx]; rfl⟩
      case round =>
        obtain ⟨m, hm, rfl, rfl⟩ := hrel
        by_cases hm8 : m < 8
        · go_wp2
          all_goals
            go_round
            case rel => exact ⟨m + 1, by omega, by go_num, by first | rw [Sm.cbits_odd _ _ hy ‹_›] | rw [Sm.cbits_even _ _ hy ‹_›]⟩
            case measure => simp [intOf]; omega
        · obtain rfl : m = 8 := by omega
          go_wp2
          go_round
          case rel => exact ⟨k + 1, by omega, by go_num, by rw [Sm.crc_done, take_snoc s k hlt]⟩
          case measure => simp [intOf]; omega
    · have hx := Sm.crcL_lt (s.data.toList.take k)
      go_wp2
      go_ret
      exact ⟨ret_int (by rw [Sm.crc_not _ hx, List.take_of_length_le (by simp; omega)]), rfl⟩

set_option maxHeartbeats 400000 in
theorem rcrc_any (s : ByteArray) (w : World) (hs : s.size ≤ maxLen) :
    Calls Try.prog 27 #[.string s] w fun e w' => e = .returned (.int .u32 ((Sm.crcL s.data.toList ^^^ 4294967295 : Nat) : Int)) ∧ w = w' := by
  unfold maxLen at hs
  go_enter Try.func27, Try.ntmps27
  go_wp2
  go_loop [3, 4] (fun x i => ∃ k : Nat, k ≤ s.size ∧ i = .int .i64 k ∧ x = .int .u32 (Sm.crcL (s.data.toList.take k))) (fun _ i => s.size - (intOf i).toNat)
  case atStart => exact ⟨0, Nat.zero_le _, rfl, rfl⟩
  case round =>
    obtain ⟨k, hk, rfl, rfl⟩ := hrel
    by_cases hlt : k < s.size
    · have hx := Sm.crcL_lt (s.data.toList.take k)
      have hy := Sm.cxor_lt hx s[k].toNat_lt
      go_wp2
      go_loop [3, 5] (fun x j => ∃ m : Nat, m ≤ 8 ∧ j = .int .i64 m ∧ x = .int .u32 (Sm.cbits m (Sm.crcL (s.data.toList.take k) ^^^ s[k].toNat))) (fun _ j => 8 - (intOf j).toNat)
      case atStart => exact ⟨0, Nat.zero_le _, rfl, by rw [Sm.crc_xor _ _ hx]; rfl⟩
      case round =>
        obtain ⟨m, hm, rfl, rfl⟩ := hrel
        have hb := Sm.cbits_lt m _ hy
        by_cases hm8 : m < 8
        · go_wp2
          all_goals
            go_round
            case rel => exact ⟨m + 1, by omega, by go_num, by first | rw [Sm.rcbits_odd _ _ hy ‹_›] | rw [Sm.rcbits_even _ _ ‹_›]⟩
            case measure => simp [intOf]; omega
        · obtain rfl : m = 8 := by omega
          go_wp2
          go_round
          case rel => exact ⟨k + 1, by omega, by go_num, by rw [Sm.crc_done, take_snoc s k hlt]⟩
          case measure => simp [intOf]; omega
    · have hx := Sm.crcL_lt (s.data.toList.take k)
      go_wp2
      go_ret
      exact ⟨ret_int (by rw [Sm.rcrc_not _ hx, List.take_of_length_le (by simp; omega)]), rfl⟩

set_option maxHeartbeats 400000 in
theorem hex_any (x : Nat) (w : World) (hx : x < 18446744073709551616) :
    Calls Try.prog 28 #[.int .u64 x] w fun e w' => e = .returned (.string ⟨(Sm.hexL x).toArray⟩) ∧ Below w.heap.size w w' := by
  go_enter Try.func28, Try.ntmps28
  go_wp2
  go_loopw [5] (fun i wr => ∃ k : Nat, k ≤ 16 ∧ i = .int .i64 k ∧ wr = w.alloc (.cells (Sm.hexRow x k) 91)) (fun i _ => 16 - (intOf i).toNat)
  case atStart => exact ⟨0, Nat.zero_le _, rfl, by rw [Sm.hexRow_zero]⟩
  case round =>
    obtain ⟨k, hk, rfl, rfl⟩ := hrel
    by_cases hlt : k < 16
    · have hlow := Sm.hex_low x k hx
      have hd : x / 16 ^ k % 16 < 16 := Nat.mod_lt _ (by omega)
      have hn := Lib.hid (Sm.hexRow_next x k hlt hd)
      have hc : (Sm.hexRow x k)[15 - k]? = some (.int .u8 0) := by
        rw [Sm.hexRow_at _ _ _ (by omega)]; unfold Sm.hexCell; rw [if_neg (by omega)]
      go_wp2
      go_roundw
      case rel => exact ⟨k + 1, by omega, by go_num, by rw [← hn.out]; rfl⟩
      case measure => simp [intOf]; omega
    · obtain rfl : k = 16 := by omega
      have hcv : (convert 30 9 (.slice (some ⟨w.heap.size, 0, none⟩) 16 16)).run Try.prog (w.alloc (.cells (Sm.hexRow x 16) 91)) = .ok (.string ⟨(Sm.hexL x).toArray⟩) (w.alloc (.cells (Sm.hexRow x 16) 91)) :=
        run_convert_bytes_back (P := Try.prog) _ 30 9 5 ⟨w.heap.size, 0, none⟩ 16 (Sm.hexL x) Try.underlying30 Try.underlying5 Try.underlying9 (fun j hj => by
          rw [← Sm.hexRow_done x j hj]
          rw [add_mk, Nat.zero_add]; exact cell_new _ _ _ _)
      go_wp2
      go_ret
      exact ⟨rfl, (Below.refl _ _).alloc (Nat.le_refl _) _⟩

set_option maxHeartbeats 400000 in
theorem rhex_any (x : Nat) (w : World) (hx : x < 18446744073709551616) :
    Calls Try.prog 29 #[.int .u64 x] w fun e w' => e = .returned (.string ⟨(Sm.hexL x).toArray⟩) ∧ Below w.heap.size w w' := by
  have hmk : ∀ w, (Instr.makeSlice 30 (.int .i64 16) (.int .i64 16)).run Try.prog w = .ok (.slice (some ⟨w.heap.size, 0, none⟩) 16 16) (w.alloc (.cells (Sm.hexRow x 0) 5)) := by
    intro w; rw [Sm.hexRow_zero]; kernel_rfl
  go_enter Try.func29, Try.ntmps29
  go_wp2
  go_loopw [0, 5] (fun v i wr => ∃ k y : Nat, k ≤ 16 ∧ Hid (y = x / 16 ^ k) ∧ v = .int .u64 (y : Int) ∧ i = .int .i64 (15 - (k : Int)) ∧ wr = w.alloc (.cells (Sm.hexRow x k) 5)) (fun _ i _ => (intOf i + 1).toNat)
  case atStart => exact ⟨0, x, Nat.zero_le _, Lib.hid (by simp), rfl, rfl, rfl⟩
  case round =>
    obtain ⟨k, y, hk, hy, rfl, rfl, rfl⟩ := hrel
    have hl : y < 18446744073709551616 := by rw [hy.out]; exact Nat.lt_of_le_of_lt (Nat.div_le_self _ _) hx
    by_cases hlt : k < 16
    · have hd : y % 16 < 16 := Nat.mod_lt _ (by omega)
      have hn : Hid ((Sm.hexRow x k).setIfInBounds (15 - k) (.int .u8 ((Sm.digs[y % 16].toNat : Nat) : Int)) = Sm.hexRow x (k + 1)) := by
        have e := hy.out
        subst e
        exact Lib.hid (Sm.hexRow_next x k hlt hd)
      have hc : (Sm.hexRow x k)[15 - k]? = some (.int .u8 0) := by
        rw [Sm.hexRow_at _ _ _ (by omega)]; unfold Sm.hexCell; rw [if_neg (by omega)]
      clear hmk
      go_wp2
      go_roundw
      case rel => exact ⟨k + 1, y / 16, by omega, Lib.hid (by rw [hy.out, Nat.div_div_eq_div_mul, Nat.pow_succ]), by go_num, by go_num, by rw [← hn.out]; rfl⟩
      case measure => simp [intOf]; omega
    · obtain rfl : k = 16 := by omega
      have hcv : (convert 30 9 (.slice (some ⟨w.heap.size, 0, none⟩) 16 16)).run Try.prog (w.alloc (.cells (Sm.hexRow x 16) 5)) = .ok (.string ⟨(Sm.hexL x).toArray⟩) (w.alloc (.cells (Sm.hexRow x 16) 5)) :=
        run_convert_bytes_back (P := Try.prog) _ 30 9 5 ⟨w.heap.size, 0, none⟩ 16 (Sm.hexL x) Try.underlying30 Try.underlying5 Try.underlying9 (fun j hj => by
          rw [← Sm.hexRow_done x j hj]
          rw [add_mk, Nat.zero_add]; exact cell_new _ _ _ _)
      clear hmk
      go_wp2
      go_ret
      exact ⟨rfl, (Below.refl _ _).alloc (Nat.le_refl _) _⟩
end Go.Proofs.Ytjfdkjgmjjfmcaa
