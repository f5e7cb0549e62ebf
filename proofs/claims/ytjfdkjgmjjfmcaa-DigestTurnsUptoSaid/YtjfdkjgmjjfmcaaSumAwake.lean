/- The walk through awake of cachetlaw1: it answers true in every world and writes nothing that was there. -/
import Derived.Test.YtjfdkjgmjjfmcaaSumWalks
namespace Go.Proofs.Ytjfdkjgmjjfmcaa
open Go.RowKit
set_option linter.unusedVariables false

theorem hash_empty (w : World) : Calls Try.prog 24 #[.string ⟨#[]⟩] w fun e w' => e = .returned (.int .u64 14695981039346656037) ∧ w = w' :=
  (hash_any ⟨#[]⟩ w (by decide)).mono fun e w' ⟨he, hw⟩ => ⟨by rw [he]; exact ret_int (by rw [show (ByteArray.mk #[]).data.toList = [] from rfl, Sm.hashL_nil, Sm.hbegin_eq]; rfl), hw⟩
theorem crc_known : Sm.crcL [49, 50, 51, 52, 53, 54, 55, 56, 57] ^^^ 4294967295 = 3421780262 := by decide +kernel
theorem crc_nine (w : World) : Calls Try.prog 26 #[.string ⟨#[49, 50, 51, 52, 53, 54, 55, 56, 57]⟩] w fun e w' => e = .returned (.int .u32 3421780262) ∧ w = w' :=
  (crc_any ⟨#[49, 50, 51, 52, 53, 54, 55, 56, 57]⟩ w (by decide)).mono fun e w' ⟨he, hw⟩ => ⟨by rw [he]; exact ret_int (by rw [show (ByteArray.mk #[49, 50, 51, 52, 53, 54, 55, 56, 57]).data.toList = [49, 50, 51, 52, 53, 54, 55, 56, 57] from rfl, crc_known]; rfl), hw⟩
theorem hex_known : (Sm.hexL 255).toArray = #[48, 48, 48, 48, 48, 48, 48, 48, 48, 48, 48, 48, 48, 48, 102, 102] := by decide +kernel
theorem hex_255 (w : World) : Calls Try.prog 28 #[.int .u64 255] w fun e w' => e = .returned (.string ⟨#[48, 48, 48, 48, 48, 48, 48, 48, 48, 48, 48, 48, 48, 48, 102, 102]⟩) ∧ Below w.heap.size w w' :=
  (hex_any 255 w (by omega)).mono fun e w' ⟨he, hw⟩ => ⟨by rw [he, hex_known], hw⟩
theorem num_any (x : Int) (w : World) : Calls Try.prog 31 #[.int .i64 x] w fun e w' => e = .returned (.int .i64 x) ∧ w = w' := by
  go_enter Try.func31, Try.ntmps31
  go_wp2
  go_ret
  exact ⟨rfl, rfl⟩

set_option maxHeartbeats 400000 in
theorem awake1 (w : World) : Calls Try.prog 30 #[] w fun e w' => e = .returned (.bool true) ∧ Below w.heap.size w w' := by
  go_enter Try.func30, Try.ntmps30
  go_wp2_with fail
  refine (hash_empty _).mono ?_
  rintro e w' ⟨rfl, rfl⟩
  go_wp2_with fail
  refine (crc_nine _).mono ?_
  rintro e w' ⟨rfl, rfl⟩
  go_wp2_with fail
  refine (hex_255 _).mono ?_
  rintro e w' ⟨rfl, hb⟩
  go_wp2_with fail
  refine (num_any _ _).mono ?_
  rintro e w' ⟨rfl, rfl⟩
  go_wp2_with fail
  go_ret
  exact ⟨rfl, hb⟩
end Go.Proofs.Ytjfdkjgmjjfmcaa
