/- A hash as eight bytes: plain, and the walks through segment.Tail and the reference's Eight. -/
import Derived.Test.YthdbmgjlegpbaaaSumHash
import Derived.Test.YthdbmgjlegpbaaaProg
namespace Go.Proofs.Ythdbmgjlegpbaaa.Sg
open Go.Proofs.Ythdbmgjlegpbaaa
set_option linter.unusedVariables false

def tailAt (x j : Nat) : UInt8 := UInt8.ofNat (x / 256 ^ (7 - j) % 256)
def tailL (x : Nat) : List UInt8 := (List.range 8).map (tailAt x)
def tailB (x : Nat) : ByteArray := ⟨(tailL x).toArray⟩
def tailCell (x k j : Nat) : Value := if 8 ≤ j + k then .int .u8 ((tailAt x j).toNat : Int) else .int .u8 0
def tailRow (x k : Nat) : Array Value := ((List.range 8).map (tailCell x k)).toArray
theorem tail_low (x k : Nat) : (x : Int) / 2 ^ (8 * k) % 256 = ((x / 256 ^ k % 256 : Nat) : Int) := by
  have e2 : ((256 ^ k : Nat) : Int) = 2 ^ (8 * k) := by
    rw [show (256 : Nat) ^ k = 2 ^ (8 * k) from by rw [Nat.pow_mul]]
    exact Int.natCast_pow 2 (8 * k)
  rw [← e2, ← Int.natCast_ediv]; omega
theorem tailRow_size (x k : Nat) : (tailRow x k).size = 8 := by simp [tailRow]
theorem tailRow_at (x k j : Nat) (h : j < 8) : (tailRow x k)[j]? = some (tailCell x k j) := by simp [tailRow, h]
theorem tailRow_zero (x : Nat) : tailRow x 0 = #[.int .u8 0, .int .u8 0, .int .u8 0, .int .u8 0, .int .u8 0, .int .u8 0, .int .u8 0, .int .u8 0] := by
  simp [tailRow, tailCell, List.range, List.range.loop]
theorem tailRow_next (x k : Nat) (hk : k < 8) : (tailRow x k).setIfInBounds (7 - k) (.int .u8 ((x / 256 ^ k % 256 : Nat) : Int)) = tailRow x (k + 1) := by
  apply Array.ext_getElem?
  intro j
  rw [Array.getElem?_setIfInBounds]
  by_cases hj : j < 8
  · rw [tailRow_at _ _ _ hj, tailRow_at _ _ _ hj]
    by_cases he : 7 - k = j
    · rw [if_pos he, if_pos (by rw [tailRow_size]; omega)]
      unfold tailCell tailAt
      rw [if_pos (by omega), show 7 - j = k from by omega, UInt8.toNat_ofNat']
      have : x / 256 ^ k % 256 < 256 := Nat.mod_lt _ (by omega)
      rw [Nat.mod_eq_of_lt (a := x / 256 ^ k % 256) (by simpa using this)]
    · rw [if_neg he]
      unfold tailCell
      by_cases hc : 8 ≤ j + k
      · rw [if_pos hc, if_pos (by omega)]
      · rw [if_neg hc, if_neg (by omega)]
  · rw [if_neg (by omega), Array.getElem?_eq_none (by rw [tailRow_size]; omega), Array.getElem?_eq_none (by rw [tailRow_size]; omega)]
theorem tailL_length (x : Nat) : (tailL x).length = 8 := by simp [tailL]
theorem tailB_size (x : Nat) : (tailB x).size = 8 := by
  show (tailL x).toArray.size = 8
  simp [tailL]
theorem tailRow_done (x j : Nat) (h : j < (tailL x).length) : (tailRow x 8)[j]? = some (.int .u8 (((tailL x)[j].toNat : Nat) : Int)) := by
  rw [tailL_length] at h
  rw [tailRow_at _ _ _ h]
  simp [tailCell, tailL]
theorem tail_digit {x y : Nat} (h : tailL x = tailL y) (j : Nat) (hj : j < 8) : x / 256 ^ (7 - j) % 256 = y / 256 ^ (7 - j) % 256 := by
  have e : (tailL x)[j]? = (tailL y)[j]? := by rw [h]
  simp only [tailL, List.getElem?_map, List.getElem?_range hj, Option.map_some, Option.some.injEq] at e
  have e2 := congrArg UInt8.toNat e
  unfold tailAt at e2
  rw [UInt8.toNat_ofNat', UInt8.toNat_ofNat'] at e2
  have h1 : x / 256 ^ (7 - j) % 256 < 256 := Nat.mod_lt _ (by omega)
  have h2 : y / 256 ^ (7 - j) % 256 < 256 := Nat.mod_lt _ (by omega)
  generalize x / 256 ^ (7 - j) % 256 = p at *
  generalize y / 256 ^ (7 - j) % 256 = q at *
  omega
theorem tail_inj {x y : Nat} (hx : x < 18446744073709551616) (hy : y < 18446744073709551616) (h : tailL x = tailL y) : x = y := by
  have h0 := tail_digit h 7 (by omega)
  have h1 := tail_digit h 6 (by omega)
  have h2 := tail_digit h 5 (by omega)
  have h3 := tail_digit h 4 (by omega)
  have h4 := tail_digit h 3 (by omega)
  have h5 := tail_digit h 2 (by omega)
  have h6 := tail_digit h 1 (by omega)
  have h7 := tail_digit h 0 (by omega)
  simp only [Nat.reduceSub, Nat.reducePow, Nat.div_one] at h0 h1 h2 h3 h4 h5 h6 h7
  omega
end Go.Proofs.Ythdbmgjlegpbaaa.Sg
namespace Go.Proofs.Ythdbmgjlegpbaaa
open Go.RowKit
set_option linter.unusedVariables false

set_option maxRecDepth 100000 in
set_option maxHeartbeats 400000 in
theorem tail_any (x : Nat) (w : World) (hx : x < 18446744073709551616) :
    Calls Try.prog 92 #[.int .u64 x] w fun e w' => e = .returned (.string (Sg.tailB x)) ∧ Below w.heap.size w w' := by
  go_enter Try.func92, Try.ntmps92
  go_wp2
  go_loopw [4, 5] (fun _ i wr => ∃ k : Nat, k ≤ 8 ∧ i = .int .i64 k ∧ wr = w.alloc (.cells (Sg.tailRow x k) 140)) (fun _ i _ => 8 - (intOf i).toNat)
  case atStart => exact ⟨0, Nat.zero_le _, rfl, by rw [Sg.tailRow_zero]⟩
  case round =>
    obtain ⟨k, hk, rfl, rfl⟩ := hrel
    by_cases hlt : k < 8
    · have hlow := Sg.tail_low x k
      have hn := Lib.hid (Sg.tailRow_next x k hlt)
      have hc : (Sg.tailRow x k)[7 - k]? = some (.int .u8 0) := by
        rw [Sg.tailRow_at _ _ _ (by omega)]; unfold Sg.tailCell; rw [if_neg (by omega)]
      go_wp2
      go_roundw
      case rel => exact ⟨k + 1, by omega, by go_num, by rw [← hn.out]; rfl⟩
      case measure => simp [intOf]; omega
    · obtain rfl : k = 8 := by omega
      have hcv : (convert 70 9 (.slice (some ⟨w.heap.size, 0, none⟩) 8 8)).run Try.prog (w.alloc (.cells (Sg.tailRow x 8) 140)) = .ok (.string (Sg.tailB x)) (w.alloc (.cells (Sg.tailRow x 8) 140)) :=
        run_convert_bytes_back (P := Try.prog) _ 70 9 5 ⟨w.heap.size, 0, none⟩ 8 (Sg.tailL x) Try.underlying70 Try.underlying5 Try.underlying9 (fun j hj => by
          rw [← Sg.tailRow_done x j hj]
          rw [add_mk, Nat.zero_add]; exact cell_new _ _ _ _)
      go_wp2
      go_ret
      exact ⟨rfl, (Below.refl _ _).alloc (Nat.le_refl _) _⟩

set_option maxRecDepth 100000 in
set_option maxHeartbeats 400000 in
theorem reight_any (x : Nat) (w : World) (hx : x < 18446744073709551616) :
    Calls Try.prog 66 #[.int .u64 x] w fun e w' => e = .returned (.string (Sg.tailB x)) ∧ Below w.heap.size w w' := by
  have hmk : ∀ w, (Instr.makeSlice 70 (.int .i64 8) (.int .i64 8)).run Try.prog w = .ok (.slice (some ⟨w.heap.size, 0, none⟩) 8 8) (w.alloc (.cells (Sg.tailRow x 0) 5)) := by
    intro w; rw [Sg.tailRow_zero]; kernel_rfl
  go_enter Try.func66, Try.ntmps66
  go_wp2
  go_loopw [0, 4] (fun v i wr => ∃ k y : Nat, k ≤ 8 ∧ Hid (y = x / 256 ^ k) ∧ v = .int .u64 (y : Int) ∧ i = .int .i64 (7 - (k : Int)) ∧ wr = w.alloc (.cells (Sg.tailRow x k) 5)) (fun _ i _ => (intOf i + 1).toNat)
  case atStart => exact ⟨0, x, Nat.zero_le _, Lib.hid (by simp), rfl, rfl, rfl⟩
  case round =>
    obtain ⟨k, y, hk, hy, rfl, rfl, rfl⟩ := hrel
    have hl : y < 18446744073709551616 := by rw [hy.out]; exact Nat.lt_of_le_of_lt (Nat.div_le_self _ _) hx
    by_cases hlt : k < 8
    · have hn : Hid ((Sg.tailRow x k).setIfInBounds (7 - k) (.int .u8 ((y % 256 : Nat) : Int)) = Sg.tailRow x (k + 1)) := by
        have e := hy.out
        subst e
        exact Lib.hid (Sg.tailRow_next x k hlt)
      have hc : (Sg.tailRow x k)[7 - k]? = some (.int .u8 0) := by
        rw [Sg.tailRow_at _ _ _ (by omega)]; unfold Sg.tailCell; rw [if_neg (by omega)]
      clear hmk
      go_wp2
      go_roundw
      case rel => exact ⟨k + 1, y / 256, by omega, Lib.hid (by rw [hy.out, Nat.div_div_eq_div_mul, Nat.pow_succ]), by go_num, by go_num, by rw [← hn.out]; first | rfl | (congr 3; omega)⟩
      case measure => simp [intOf]; omega
    · obtain rfl : k = 8 := by omega
      have hcv : (convert 70 9 (.slice (some ⟨w.heap.size, 0, none⟩) 8 8)).run Try.prog (w.alloc (.cells (Sg.tailRow x 8) 5)) = .ok (.string (Sg.tailB x)) (w.alloc (.cells (Sg.tailRow x 8) 5)) :=
        run_convert_bytes_back (P := Try.prog) _ 70 9 5 ⟨w.heap.size, 0, none⟩ 8 (Sg.tailL x) Try.underlying70 Try.underlying5 Try.underlying9 (fun j hj => by
          rw [← Sg.tailRow_done x j hj]
          rw [add_mk, Nat.zero_add]; exact cell_new _ _ _ _)
      clear hmk
      go_wp2
      go_ret
      exact ⟨rfl, (Below.refl _ _).alloc (Nat.le_refl _) _⟩
end Go.Proofs.Ythdbmgjlegpbaaa
