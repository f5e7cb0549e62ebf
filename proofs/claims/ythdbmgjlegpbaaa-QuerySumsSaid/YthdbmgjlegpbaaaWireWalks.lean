/- The walks through package wire and its reference: PutNum, GetNum, PutText, GetText. -/
import Derived.Test.YthdbmgjlegpbaaaRows
import Derived.Test.YthdbmgjlegpbaaaBase
import Derived.Test.YthdbmgjlegpbaaaWirePlain
namespace Go.Proofs.Ythdbmgjlegpbaaa
open Go.RowKit
set_option linter.unusedVariables false

theorem info_u8 : (Try.prog.info? 5).map (fun i => (i.zero, i.size, i.bytes)) = some (some (.int .u8 0), 1, 1) := by kernel_rfl
def byteV (c : UInt8) : Value := .int .u8 (c.toNat : Int)

theorem fits_any (x : Int) (w : World) : Calls Try.prog 72 #[.int .i64 x] w fun e w' => e = .returned (.bool (Wr.isNum x)) ∧ w = w' := by
  by_cases h1 : -9007199254740992 ≤ x
  · by_cases h2 : x ≤ 9007199254740992
    · go_enter Try.func72, Try.ntmps72
      go_wp2
      go_ret
      exact ⟨ret_bool ((Wr.isNum_iff x).2 ⟨h1, h2⟩).symm, rfl⟩
    · go_enter Try.func72, Try.ntmps72
      go_wp2
      go_ret
      exact ⟨ret_bool ((Wr.isNum_false x).2 (by omega)).symm, rfl⟩
  · go_enter Try.func72, Try.ntmps72
    go_wp2
    go_ret
    exact ⟨ret_bool ((Wr.isNum_false x).2 (by omega)).symm, rfl⟩
theorem number_any (x : Int) (w : World) : Calls Try.prog 87 #[.int .i64 x] w fun e w' => e = .returned (.bool (Wr.isNum x)) ∧ w = w' := by
  by_cases h1 : -9007199254740992 ≤ x
  · by_cases h2 : x ≤ 9007199254740992
    · go_enter Try.func87, Try.ntmps87
      go_wp2
      go_ret
      exact ⟨ret_bool ((Wr.isNum_iff x).2 ⟨h1, h2⟩).symm, rfl⟩
    · go_enter Try.func87, Try.ntmps87
      go_wp2
      go_ret
      exact ⟨ret_bool ((Wr.isNum_false x).2 (by omega)).symm, rfl⟩
  · go_enter Try.func87, Try.ntmps87
    go_wp2
    go_ret
    exact ⟨ret_bool ((Wr.isNum_false x).2 (by omega)).symm, rfl⟩
theorem fits_at (x : Int) (b : Bool) (h : Wr.isNum x = b) (w : World) : Calls Try.prog 72 #[.int .i64 x] w fun e w' => e = .returned (.bool b) ∧ w = w' := by subst h; exact fits_any x w
theorem number_at (x : Int) (b : Bool) (h : Wr.isNum x = b) (w : World) : Calls Try.prog 87 #[.int .i64 x] w fun e w' => e = .returned (.bool b) ∧ w = w' := by subst h; exact number_any x w

/-- the string of a row of bytes that the call owns -/
theorem conv_own {w : World} {base g n cap : Nat} {ys : List UInt8} (h : w.ownsRow base 5 1 (.slice (some ⟨g, 0, none⟩) n cap) n (ys.map byteV)) (hn : ys.length = n) :
    (convert 70 9 (.slice (some ⟨g, 0, none⟩) n cap)).run Try.prog w = .ok (.string ⟨ys.toArray⟩) w := by
  subst hn
  refine run_convert_bytes_back (P := Try.prog) w 70 9 5 ⟨g, 0, none⟩ cap ys Try.underlying70 Try.underlying5 Try.underlying9 (fun j hj => ?_)
  rw [add_mk, Nat.zero_add, h.cellAt j (by omega)]
  simp [byteV, hj]

set_option maxRecDepth 100000 in
set_option maxHeartbeats 400000 in
theorem putNum_any (x : Int) (w : World) (hx : -9223372036854775808 ≤ x ∧ x ≤ 9223372036854775807) :
    Calls Try.prog 41 #[.int .i64 x] w fun e w' => e = .returned (.string (Wr.putB x)) ∧ Below w.heap.size w w' := by
  obtain ⟨i0, hi, hz0, hz1, hz2⟩ := info_parts info_u8
  cases hnum : Wr.isNum x
  · have Hn := Lib.hid hnum
    clear hnum
    go_enter Try.func41, Try.ntmps41
    go_wp2_with fail
    refine (fits_at _ _ Hn.out _).mono ?_
    rintro e w' ⟨rfl, rfl⟩
    go_wp2_with fail
    go_ret
    exact ⟨ret_str (by unfold Wr.putB Wr.putL; rw [Hn.out]; rfl), Below.refl _ _⟩
  · obtain ⟨h1, h2⟩ := (Wr.isNum_iff x).1 hnum
    have Hn := Lib.hid hnum
    have hzl := Wr.zig_lt x hnum
    clear hnum
    have hzig : ∃ z : Nat, z = Wr.zig x := ⟨_, rfl⟩
    obtain ⟨z0, hz0'⟩ := hzig
    have Hz := Lib.hid hz0'
    rw [← hz0'] at hzl
    clear hz0'
    have hzx : (x < 0 → (z0 : Int) = -2 * x - 1) ∧ (¬ x < 0 → (z0 : Int) = 2 * x) := by
      rw [Hz.out]; unfold Wr.zig
      constructor
      · intro h; rw [if_pos h]; omega
      · intro h; rw [if_neg h]; omega
    have Hzx := Lib.hid hzx
    have Hput : Hid (Wr.putL x = Wr.vb 9 z0) := by show Wr.putL x = _; unfold Wr.putL; rw [if_pos Hn.out, Hz.out]
    clear hzx
    by_cases hneg : x < 0
    all_goals
      go_enter Try.func41, Try.ntmps41
      go_wp2_with fail
      refine (fits_at _ _ Hn.out _).mono ?_
      rintro e w' ⟨rfl, rfl⟩
      go_wp2_with fail
      go_loopw [3, 4] (fun u v wr => ∃ (ys : List UInt8) (z : Nat), ys.length ≤ 8 ∧ Hid (z < 128 ^ (9 - ys.length)) ∧ z ≤ 18014398509481984 ∧ u = .int .u64 (z : Int) ∧ Hid (Wr.vb 9 z0 = ys ++ Wr.vb (9 - ys.length) z) ∧ wr.ownsRow w.heap.size 5 1 v ys.length (ys.map byteV) ∧ Below w.heap.size w wr) (fun u _ _ => (intOf u).toNat)
      case atStart => exact ⟨[], z0, by simp, Lib.hid (by simp; omega), hzl, by first | rw [Hzx.out.1 hneg] | rw [Hzx.out.2 hneg], Lib.hid (by simp), own_nil _ _ _ _, Below.refl _ _⟩
      case round =>
        obtain ⟨ys, z, hyl, hzb, hzs, rfl, hvb, hown, hb⟩ := hrel
        by_cases hlt : z < 128
        · have Hvb : Hid (Wr.vb 9 z0 = ys ++ [UInt8.ofNat z]) := by show Wr.vb 9 z0 = _; rw [hvb.out, Wr.vb_small _ _ hlt]
          have hbyte : Hid (byteV (UInt8.ofNat z) = .int .u8 (z : Int)) := by show byteV _ = _; unfold byteV; rw [Wr.toNat_ofNat_small _ (by omega)]
          clear hzb hvb
          go_wp2_with (at_builtin; refine wpList_push wr rfl _ _ 70 rfl w.heap.size 5 i0 _ 1 1 Try.underlying70 hi hz0 hz1 hz2 rfl (by decide) _ ys.length _ (by rfl) hown [.int .u8 (z : Int)] (by rfl) rfl (by simp [Value.oneCell']) (by unfold maxLen; omega) (by omega) w hb hb.size ?_; intro v3 w3 hown3 hb3; obtain ⟨g, cap, hv3, hg3, hlt3⟩ := hown3.form (by omega); subst hv3; have hcv := conv_own (ys := ys ++ [UInt8.ofNat z]) (by rw [List.map_append, List.map_cons, List.map_nil, hbyte.out]; exact hown3) (by simp))
          go_ret
          exact ⟨ret_str (by unfold Wr.putB; rw [Hput.out, Hvb.out]), hb3⟩
        · have Hvb : Hid (Wr.vb 9 z0 = (ys ++ [UInt8.ofNat (z % 128 + 128)]) ++ Wr.vb (9 - (ys ++ [UInt8.ofNat (z % 128 + 128)]).length) (z / 128)) := by
            show Wr.vb 9 z0 = _
            rw [hvb.out, show 9 - ys.length = (8 - ys.length) + 1 from by omega, Wr.vb_more _ _ hlt]
            simp
          have hl7 : ys.length ≤ 7 := by
            rcases Nat.lt_or_ge ys.length 8 with h | h
            · omega
            · have h8 : ys.length = 8 := by omega
              have := hzb.out
              rw [h8] at this
              simp at this; omega
          have hzb' : Hid (z / 128 < 128 ^ (9 - (ys ++ [UInt8.ofNat (z % 128 + 128)]).length)) := by
            show z / 128 < _
            have := hzb.out
            rw [show 9 - ys.length = (8 - ys.length) + 1 from by omega] at this
            have := Wr.vb_next _ _ this
            rw [show 9 - (ys ++ [UInt8.ofNat (z % 128 + 128)]).length = 8 - ys.length from by simp]
            exact this
          have hbyte : Hid (byteV (UInt8.ofNat (z % 128 + 128)) = .int .u8 (bits .or .u8 ((z : Int) % 256) 128)) := by show byteV _ = _; unfold byteV; rw [Wr.toNat_ofNat_small _ (by omega), Wr.vb_byte]
          clear hzb hvb
          go_wp2_with (at_builtin; refine wpList_push wr rfl _ _ 70 rfl w.heap.size 5 i0 _ 1 1 Try.underlying70 hi hz0 hz1 hz2 rfl (by decide) _ ys.length _ (by rfl) hown [.int .u8 (bits .or .u8 ((z : Int) % 256) 128)] (by rfl) rfl (by simp [Value.oneCell']) (by unfold maxLen; omega) (by omega) w hb hb.size ?_; intro v3 w3 hown3 hb3)
          go_roundw
          case rel => exact ⟨ys ++ [UInt8.ofNat (z % 128 + 128)], z / 128, by simp; omega, hzb', by omega, by go_num, Hvb, by rw [List.map_append, List.map_cons, List.map_nil, hbyte.out, List.length_append]; exact hown3, hb3⟩
          case measure => simp [intOf]; omega
set_option maxRecDepth 100000 in
set_option maxHeartbeats 400000 in
theorem rnum_any (x : Int) (w : World) (hx : -9223372036854775808 ≤ x ∧ x ≤ 9223372036854775807) :
    Calls Try.prog 63 #[.int .i64 x] w fun e w' => e = .returned (.string (Wr.putB x)) ∧ Below w.heap.size w w' := by
  obtain ⟨i0, hi, hz0, hz1, hz2⟩ := info_parts info_u8
  cases hnum : Wr.isNum x
  · have Hn := Lib.hid hnum
    clear hnum
    go_enter Try.func63, Try.ntmps63
    go_wp2_with fail
    refine (number_at _ _ Hn.out _).mono ?_
    rintro e w' ⟨rfl, rfl⟩
    go_wp2_with fail
    go_ret
    exact ⟨ret_str (by unfold Wr.putB Wr.putL; rw [Hn.out]; rfl), Below.refl _ _⟩
  · obtain ⟨h1, h2⟩ := (Wr.isNum_iff x).1 hnum
    have Hn := Lib.hid hnum
    have hzl := Wr.zig_lt x hnum
    clear hnum
    have hzig : ∃ z : Nat, z = Wr.zig x := ⟨_, rfl⟩
    obtain ⟨z0, hz0'⟩ := hzig
    have Hz := Lib.hid hz0'
    rw [← hz0'] at hzl
    clear hz0'
    have hzx : (x < 0 → (z0 : Int) = -2 * x - 1) ∧ (¬ x < 0 → (z0 : Int) = 2 * x) := by
      rw [Hz.out]; unfold Wr.zig
      constructor
      · intro h; rw [if_pos h]; omega
      · intro h; rw [if_neg h]; omega
    have Hzx := Lib.hid hzx
    have Hput : Hid (Wr.putL x = Wr.vb 9 z0) := by show Wr.putL x = _; unfold Wr.putL; rw [if_pos Hn.out, Hz.out]
    clear hzx
    by_cases hneg : x < 0
    all_goals
      go_enter Try.func63, Try.ntmps63
      go_wp2_with fail
      refine (number_at _ _ Hn.out _).mono ?_
      rintro e w' ⟨rfl, rfl⟩
      go_wp2_with fail
      go_loopw [3, 4] (fun u v wr => ∃ (ys : List UInt8) (z : Nat), ys.length ≤ 8 ∧ Hid (z < 128 ^ (9 - ys.length)) ∧ z ≤ 18014398509481984 ∧ u = .int .i64 (z : Int) ∧ Hid (Wr.vb 9 z0 = ys ++ Wr.vb (9 - ys.length) z) ∧ wr.ownsRow w.heap.size 5 1 v ys.length (ys.map byteV) ∧ Below w.heap.size w wr) (fun u _ _ => (intOf u).toNat)
      case atStart => exact ⟨[], z0, by simp, Lib.hid (by simp; omega), hzl, by first | rw [Hzx.out.1 hneg] | rw [Hzx.out.2 hneg], Lib.hid (by simp), own_nil _ _ _ _, Below.refl _ _⟩
      case round =>
        obtain ⟨ys, z, hyl, hzb, hzs, rfl, hvb, hown, hb⟩ := hrel
        by_cases hlt : z < 128
        · have Hvb : Hid (Wr.vb 9 z0 = ys ++ [UInt8.ofNat z]) := by show Wr.vb 9 z0 = _; rw [hvb.out, Wr.vb_small _ _ hlt]
          have hbyte : Hid (byteV (UInt8.ofNat z) = .int .u8 (z : Int)) := by show byteV _ = _; unfold byteV; rw [Wr.toNat_ofNat_small _ (by omega)]
          clear hzb hvb
          go_wp2_with (at_builtin; refine wpList_push wr rfl _ _ 70 rfl w.heap.size 5 i0 _ 1 1 Try.underlying70 hi hz0 hz1 hz2 rfl (by decide) _ ys.length _ (by rfl) hown [.int .u8 (z : Int)] (by rfl) rfl (by simp [Value.oneCell']) (by unfold maxLen; omega) (by omega) w hb hb.size ?_; intro v3 w3 hown3 hb3; obtain ⟨g, cap, hv3, hg3, hlt3⟩ := hown3.form (by omega); subst hv3; have hcv := conv_own (ys := ys ++ [UInt8.ofNat z]) (by rw [List.map_append, List.map_cons, List.map_nil, hbyte.out]; exact hown3) (by simp))
          go_ret
          exact ⟨ret_str (by unfold Wr.putB; rw [Hput.out, Hvb.out]), hb3⟩
        · have Hvb : Hid (Wr.vb 9 z0 = (ys ++ [UInt8.ofNat (z % 128 + 128)]) ++ Wr.vb (9 - (ys ++ [UInt8.ofNat (z % 128 + 128)]).length) (z / 128)) := by
            show Wr.vb 9 z0 = _
            rw [hvb.out, show 9 - ys.length = (8 - ys.length) + 1 from by omega, Wr.vb_more _ _ hlt]
            simp
          have hl7 : ys.length ≤ 7 := by
            rcases Nat.lt_or_ge ys.length 8 with h | h
            · omega
            · have h8 : ys.length = 8 := by omega
              have := hzb.out
              rw [h8] at this
              simp at this; omega
          have hzb' : Hid (z / 128 < 128 ^ (9 - (ys ++ [UInt8.ofNat (z % 128 + 128)]).length)) := by
            show z / 128 < _
            have := hzb.out
            rw [show 9 - ys.length = (8 - ys.length) + 1 from by omega] at this
            have := Wr.vb_next _ _ this
            rw [show 9 - (ys ++ [UInt8.ofNat (z % 128 + 128)]).length = 8 - ys.length from by simp]
            exact this
          have hbyte : Hid (byteV (UInt8.ofNat (z % 128 + 128)) = .int .u8 ((z : Int) % 128 + 128)) := by show byteV _ = _; unfold byteV; rw [Wr.toNat_ofNat_small _ (by omega)]; rfl
          clear hzb hvb
          go_wp2_with (at_builtin; refine wpList_push wr rfl _ _ 70 rfl w.heap.size 5 i0 _ 1 1 Try.underlying70 hi hz0 hz1 hz2 rfl (by decide) _ ys.length _ (by rfl) hown [.int .u8 ((z : Int) % 128 + 128)] (by rfl) rfl (by simp [Value.oneCell']) (by unfold maxLen; omega) (by omega) w hb hb.size ?_; intro v3 w3 hown3 hb3)
          go_roundw
          case rel => exact ⟨ys ++ [UInt8.ofNat (z % 128 + 128)], z / 128, by simp; omega, hzb', by omega, by go_num, Hvb, by rw [List.map_append, List.map_cons, List.map_nil, hbyte.out, List.length_append]; exact hown3, hb3⟩
          case measure => simp [intOf]; omega
end Go.Proofs.Ythdbmgjlegpbaaa
