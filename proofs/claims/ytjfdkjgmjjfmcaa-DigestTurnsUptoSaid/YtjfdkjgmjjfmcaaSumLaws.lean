/- The walks through the four laws of cachetlaw1. -/
import Derived.Test.YtjfdkjgmjjfmcaaSumAwake
namespace Go.Proofs.Ytjfdkjgmjjfmcaa
open Go.RowKit
set_option linter.unusedVariables false

theorem wf_u64 {a : Int} (h : (Lit.int .u64 a).wf = true) : ∃ n : Nat, a = n ∧ n < 18446744073709551616 := by
  have : 0 ≤ a ∧ a ≤ 18446744073709551615 := by simpa [Lit.wf, IntKind.min, IntKind.max, IntKind.signed, IntKind.bits] using h
  exact ⟨a.toNat, by omega, by omega⟩
theorem wf_i64 {a : Int} (h : (Lit.int .i64 a).wf = true) : -9223372036854775808 ≤ a ∧ a ≤ 9223372036854775807 := by
  simpa [Lit.wf, IntKind.min, IntKind.max, IntKind.signed, IntKind.bits] using h

theorem max_of_reach {n : Nat} (h : n ≤ 140737488351232) : n ≤ maxLen := by unfold maxLen; omega

set_option maxHeartbeats 400000 in
theorem sumHashes_walk (a0 : ByteArray) (a1 : Int) (b0 : a0.size ≤ 140737488351232) (w1 : (Lit.int .u64 a1).wf = true) (w : World) :
    Calls Try.prog 3 #[.string a0, .int .u64 a1] w fun e w' => e = .returned (.bool true) ∧ Below w.heap.size w w' := by
  obtain ⟨x, rfl, hx⟩ := wf_u64 w1
  clear w1
  have w0 := max_of_reach b0
  go_enter Try.func3, Try.ntmps3
  go_wp2_with fail
  refine (hash_any _ _ w0).mono ?_
  rintro e w' ⟨rfl, rfl⟩
  go_wp2_with fail
  refine (rhash_any _ _ w0).mono ?_
  rintro e w' ⟨rfl, rfl⟩
  go_wp2_with fail
  refine (crc_any _ _ w0).mono ?_
  rintro e w' ⟨rfl, rfl⟩
  go_wp2_with fail
  refine (rcrc_any _ _ w0).mono ?_
  rintro e w' ⟨rfl, rfl⟩
  go_wp2_with fail
  refine (hex_any _ _ hx).mono ?_
  rintro e w1 ⟨rfl, hb1⟩
  go_wp2_with fail
  refine (rhex_any _ _ hx).mono ?_
  rintro e w2 ⟨rfl, hb2⟩
  go_wp2_with fail
  refine (awake1 _).mono ?_
  rintro e w3 ⟨rfl, hb3⟩
  go_wp2_with fail
  go_ret
  exact ⟨rfl, hb1.trans ((hb2.mono hb1.size).trans (hb3.mono (Nat.le_trans hb1.size hb2.size)))⟩

set_option maxRecDepth 100000 in
set_option maxHeartbeats 400000 in
theorem sumSteps_walk (a0 : ByteArray) (a1 : Int) (b0 : a0.size ≤ 140737488351232) (w1 : (Lit.int .i64 a1).wf = true) (w : World) :
    Calls Try.prog 5 #[.string a0, .int .i64 a1] w fun e w' => e = .returned (.bool true) ∧ Below w.heap.size w w' := by
  have w0 := max_of_reach b0
  clear w1
  obtain ⟨c, hc⟩ : ∃ c : UInt8, (c.toNat : Int) = a1 % 256 := ⟨UInt8.ofNat (a1 % 256).toNat, by rw [UInt8.toNat_ofNat']; omega⟩
  have hcv : ∀ W : World, (convert 30 9 (.slice (some ⟨W.heap.size, 0, none⟩) 1 1)).run Try.prog (W.alloc (.cells #[.int .u8 (a1 % 256)] 5)) = .ok (.string ⟨#[c]⟩) (W.alloc (.cells #[.int .u8 (a1 % 256)] 5)) := fun W =>
    run_convert_bytes_back (P := Try.prog) _ 30 9 5 ⟨W.heap.size, 0, none⟩ 1 [c] Try.underlying30 Try.underlying5 Try.underlying9 (fun j hj => by
      obtain rfl : j = 0 := by simpa using hj
      rw [add_mk, Nat.zero_add, cell_new, ← hc]; rfl)
  have Hc := Lib.hid hc
  clear hc
  go_enter Try.func5, Try.ntmps5
  go_wp2_with fail
  refine (awake1 _).mono ?_
  rintro e w1 ⟨rfl, hb1⟩
  go_wp2_with fail
  refine (hash_any _ _ (by rw [ByteArray.size_append]; unfold maxLen; show _ + 1 ≤ _; omega)).mono ?_
  rintro e w' ⟨rfl, rfl⟩
  go_wp2_with fail
  refine (hash_any _ _ w0).mono ?_
  rintro e w' ⟨rfl, rfl⟩
  go_wp2_with fail
  go_ret
  refine ⟨ret_bool ?_, hb1.alloc hb1.size _⟩
  have e := Sm.hash_int _ c (Sm.hashL_lt a0.data.toList)
  rw [Sm.byte_u64] at e
  rw [← Hc.out, e, Sm.hashL_snoc]
  simp

theorem hash_turned_ne (s : ByteArray) (k : Nat) (d : UInt8) (hk : k < s.size) (hd : d ≠ s[k]) : (((Sm.hashL s.data.toList : Nat) : Int) != ((Sm.hashL (turned s k d).data.toList : Nat) : Int)) = true := by
  rw [bne_iff_ne, turned_list s k d hk]
  intro e
  refine Sm.hash_turned (s.data.toList.take k) (s.data.toList.drop (k + 1)) s[k] d (fun h => hd h.symm) ?_
  rw [← split_list s k hk]
  exact Int.ofNat_inj.1 e
theorem crc_turned_ne (s : ByteArray) (k : Nat) (d : UInt8) (hk : k < s.size) (hd : d ≠ s[k]) : (((Sm.crcL s.data.toList ^^^ 4294967295 : Nat) : Int) != ((Sm.crcL (turned s k d).data.toList ^^^ 4294967295 : Nat) : Int)) = true := by
  rw [bne_iff_ne, turned_list s k d hk]
  intro e
  refine Sm.crc_turned (s.data.toList.take k) (s.data.toList.drop (k + 1)) s[k] d (fun h => hd h.symm) ?_
  rw [← split_list s k hk]
  have e2 := congrArg (· ^^^ 4294967295) (Int.ofNat_inj.1 e)
  simpa only [Sm.xor_undo] using e2

set_option maxRecDepth 100000 in
set_option maxHeartbeats 400000 in
theorem sumTurns_walk (a0 : ByteArray) (a1 a2 : Int) (b0 : a0.size ≤ 140737488351232) (w1 : (Lit.int .i64 a1).wf = true) (w2 : (Lit.int .i64 a2).wf = true) (w : World) :
    Calls Try.prog 4 #[.string a0, .int .i64 a1, .int .i64 a2] w fun e w' => e = .returned (.bool true) ∧ Below w.heap.size w w' := by
  have w0 := max_of_reach b0
  have hcv := to_bytes (P := Try.prog) 9 30 5 Try.underlying9 Try.underlying30 Try.underlying5 a0
  clear w1 w2
  go_enter Try.func4, Try.ntmps4
  go_wp2_with fail
  refine (awake1 _).mono ?_
  rintro e w1 ⟨rfl, hb1⟩
  by_cases h0 : a0.size = 0
  · obtain rfl := empty_of h0
    go_wp2_with fail
    go_ret
    exact ⟨rfl, hb1⟩
  · have hne := nonempty_of h0
    obtain ⟨k, hk, hk1⟩ := pick_of a1 a0.size (by omega) (by omega)
    obtain ⟨d, hd, hx⟩ := turn_of a2 a0[k]
    have hcell := fun cap => bytes_cell w1 5 a0 cap k hk
    have hfro := fun cap => bytes_frozen w1 5 a0 cap k hk
    have hback := fun c => from_turned_drew (P := Try.prog) 30 9 5 Try.underlying30 Try.underlying5 Try.underlying9 a0 k d hk c c w1
    have hsz := turned_size a0 k d
    have Hsz := Lib.hid hsz
    have Hd := Lib.hid hd
    clear hd hsz
    go_wp2_with fail
    refine (hash_any _ _ w0).mono ?_
    rintro e w' ⟨rfl, rfl⟩
    go_wp2_with fail
    refine (hash_any _ _ (by rw [Hsz.out]; exact w0)).mono ?_
    rintro e w' ⟨rfl, rfl⟩
    have hn1 := hash_turned_ne a0 k d hk Hd.out
    go_wp2_with fail
    refine (crc_any _ _ w0).mono ?_
    rintro e w' ⟨rfl, rfl⟩
    go_wp2_with fail
    refine (crc_any _ _ (by rw [Hsz.out]; exact w0)).mono ?_
    rintro e w' ⟨rfl, rfl⟩
    have hn2 := crc_turned_ne a0 k d hk Hd.out
    go_wp2_with fail
    go_ret
    exact ⟨rfl, ((hb1.alloc hb1.size _).setCell (by simpa using hb1.size) _).drew⟩

/-- Hex, its text under a name of its own -/
theorem hex_named (x : Nat) (w : World) (hx : x < 18446744073709551616) :
    Calls Try.prog 28 #[.int .u64 x] w fun e w' => ∃ T : ByteArray, e = .returned (.string T) ∧ T.size = 16 ∧ (∀ k (h : k < T.size), T[k] = Sm.hexd (x / 16 ^ (15 - k) % 16)) ∧ Below w.heap.size w w' :=
  (hex_any x w hx).mono fun e w' ⟨he, hb⟩ => ⟨⟨(Sm.hexL x).toArray⟩, he, by show (Sm.hexL x).toArray.size = 16; rw [List.size_toArray, Sm.hexL_length], fun k h => Sm.hexL_at x k (by rw [Sm.hexL_length]; simpa [ByteArray.size, Sm.hexL_length] using h), hb⟩

set_option maxRecDepth 100000 in
set_option maxHeartbeats 400000 in
theorem sumHexes_walk (a0 : Int) (w0 : (Lit.int .u64 a0).wf = true) (w : World) :
    Calls Try.prog 6 #[.int .u64 a0] w fun e w' => e = .returned (.bool true) ∧ Below w.heap.size w w' := by
  obtain ⟨x, rfl, hx⟩ := wf_u64 w0
  clear w0
  go_enter Try.func6, Try.ntmps6
  go_wp2_with fail
  refine (awake1 _).mono ?_
  rintro e w1 ⟨rfl, hb1⟩
  go_wp2_with fail
  refine (hex_named _ _ hx).mono ?_
  rintro e w2 ⟨T, rfl, hT, hTk, hb2⟩
  have HT := Lib.hid hTk
  clear hTk
  go_wp2_with fail
  go_loop [4, 5] (fun v i => ∃ k y : Nat, k ≤ 16 ∧ Hid (y = x / 16 ^ (16 - k)) ∧ v = .int .u64 (y : Int) ∧ i = .int .i64 (k : Int)) (fun _ i => 16 - (intOf i).toNat)
  case atStart => exact ⟨0, 0, by omega, Lib.hid (by rw [Nat.div_eq_of_lt]; exact hx), rfl, rfl⟩
  case round =>
    obtain ⟨k, y, hk, hy, rfl, rfl⟩ := hrel
    by_cases hlt : k < 16
    · have hlt' : k < T.size := by omega
      have ht := HT.out k hlt'
      have hm := Sm.hex_more x k y hlt hy.out
      have hle : x / 16 ^ (15 - k) ≤ x := Nat.div_le_self _ _
      have hz := Lib.hid (show x / 16 ^ (15 - k) = x / 16 ^ (16 - (k + 1)) from by congr 2; omega)
      have hn : x / 16 ^ (15 - k) % 16 < 16 := Nat.mod_lt _ (by omega)
      generalize x / 16 ^ (15 - k) % 16 = n at *
      generalize x / 16 ^ (15 - k) = z at *
      have Hm := Lib.hid hm
      have hm1 : y * 16 + n ≤ 18446744073709551615 := by omega
      clear hm
      by_cases hn10 : n < 10
      · have hb : T[k].toNat = 48 + n := by rw [ht]; exact Sm.hexd_lo n hn10
        clear ht
        go_wp2_with fail
        go_round
        case rel => exact ⟨k + 1, z, by omega, hz, by rw [← Hm.out]; go_num, by go_num⟩
        case measure => simp [intOf]; omega
      · have hb : T[k].toNat = 87 + n := by rw [ht]; exact Sm.hexd_hi n hn10 hn
        clear ht
        go_wp2_with fail
        go_round
        case rel => exact ⟨k + 1, z, by omega, hz, by rw [← Hm.out]; go_num, by go_num⟩
        case measure => simp [intOf]; omega
    · obtain rfl : k = 16 := by omega
      obtain rfl : y = x := by rw [hy.out]; simp
      go_wp2_with fail
      refine (num_any _ _).mono ?_
      rintro e w' ⟨rfl, rfl⟩
      go_wp2_with fail
      go_ret
      exact ⟨rfl, hb1.trans (hb2.mono hb1.size)⟩
end Go.Proofs.Ytjfdkjgmjjfmcaa
