/- The helpers of cachetlaw0 on slices (Same, Copy, Lend, Kept): what they answer where the lists are one. Printed by gen_same.py. -/
import Derived.Test.YthdbmgjlegpbaaaBase
import Derived.Test.YthdbmgjlegpbaaaProg
import Derived.Deep.QuietTactic
import Derived.BigQuiet
namespace Go.Proofs.Ythdbmgjlegpbaaa
open Go.RowKit
set_option linter.unusedVariables false

def pointCells (f : ByteArray × Int × Int) : List Value := [.string f.1, .int .i64 f.2.1, .int .i64 f.2.2]
set_option maxRecDepth 100000 in
set_option maxHeartbeats 400000 in
theorem samePoints_true (A B : Option Addr) (c d : Nat) (xs : List (ByteArray × Int × Int)) (w : World) (b1 b2 : Nat) (hr : Reads w b1 3 A xs.length (xs.flatMap pointCells)) (hq : Reads w b2 3 B xs.length (xs.flatMap pointCells)) (hn : xs.length ≤ 140737488355328) :
    Calls Try.prog 34 #[.slice A xs.length c, .slice B xs.length d] w fun e w' => e = .returned (.bool true) ∧ ∃ n, w' = w.drewN n := by
  have hl : ((xs.length : Int) != (xs.length : Int)) = false := by simp
  go_enter Try.func34, Try.ntmps34
  go_wp2
  go_loopw [5] (fun i wr => ∃ k n : Nat, k ≤ xs.length ∧ i = .int .i64 (k : Int) ∧ wr = w.drewN n) (fun i _ => xs.length - (intOf i).toNat)
  case atStart => exact ⟨0, 0, Nat.zero_le _, rfl, rfl⟩
  case round =>
    obtain ⟨k, n, hk, rfl, rfl⟩ := hrel
    by_cases hlt : k < xs.length
    · obtain ⟨b, off, rfl, hbl, hc⟩ := hr.2 (by omega)
      obtain ⟨b', off', rfl, hbl', hc'⟩ := hq.2 (by omega)
      have hcell0 : w.cell? ⟨b, off + k * 3, none⟩ = some (.string xs[k].1) := by have := hc (k * 3 + 0) (.string xs[k].1) (by rw [flat_at pointCells 3 (fun _ => rfl) xs k 0 hlt (by omega)]; rfl); rwa [← Nat.add_assoc] at this
      have hcell1 : w.cell? ⟨b, off + k * 3 + 1, none⟩ = some (.int .i64 xs[k].2.1) := by have := hc (k * 3 + 1) (.int .i64 xs[k].2.1) (by rw [flat_at pointCells 3 (fun _ => rfl) xs k 1 hlt (by omega)]; rfl); rwa [← Nat.add_assoc] at this
      have hcell2 : w.cell? ⟨b, off + k * 3 + 2, none⟩ = some (.int .i64 xs[k].2.2) := by have := hc (k * 3 + 2) (.int .i64 xs[k].2.2) (by rw [flat_at pointCells 3 (fun _ => rfl) xs k 2 hlt (by omega)]; rfl); rwa [← Nat.add_assoc] at this
      have hcelq0 : w.cell? ⟨b', off' + k * 3, none⟩ = some (.string xs[k].1) := by have := hc' (k * 3 + 0) (.string xs[k].1) (by rw [flat_at pointCells 3 (fun _ => rfl) xs k 0 hlt (by omega)]; rfl); rwa [← Nat.add_assoc] at this
      have hcelq1 : w.cell? ⟨b', off' + k * 3 + 1, none⟩ = some (.int .i64 xs[k].2.1) := by have := hc' (k * 3 + 1) (.int .i64 xs[k].2.1) (by rw [flat_at pointCells 3 (fun _ => rfl) xs k 1 hlt (by omega)]; rfl); rwa [← Nat.add_assoc] at this
      have hcelq2 : w.cell? ⟨b', off' + k * 3 + 2, none⟩ = some (.int .i64 xs[k].2.2) := by have := hc' (k * 3 + 2) (.int .i64 xs[k].2.2) (by rw [flat_at pointCells 3 (fun _ => rfl) xs k 2 hlt (by omega)]; rfl); rwa [← Nat.add_assoc] at this
      have tt := trivial
      clear hc hc' hr hq
      go_wp2
      go_quiet (fail)
      go_wp2
      go_roundw
      case rel => exact ⟨k + 1, n + nq, by omega, by go_num, rfl⟩
      case measure => simp [intOf]; omega
    · clear hr hq
      go_wp2
      go_ret
      exact ⟨rfl, _, rfl⟩

theorem info_copyPoints : (Try.prog.info? 52).map (fun i => (i.zero, i.size, i.bytes)) = some (some (.agg #[.string ⟨#[]⟩, .int .i64 0, .int .i64 0]), 3, 32) := by kernel_rfl
set_option maxRecDepth 100000 in
set_option maxHeartbeats 400000 in
theorem copyPoints_any (A : Option Addr) (c : Nat) (xs : List (ByteArray × Int × Int)) (w : World) (b1 : Nat) (hr : Reads w b1 3 A xs.length (xs.flatMap pointCells)) (hB : b1 ≤ w.heap.size) (hn : xs.length * 32 ≤ 140737488355328) :
    Calls Try.prog 48 #[.slice A xs.length c] w fun e w' => ∃ v, e = .returned v ∧ w'.ownsRow w.heap.size 52 3 v xs.length (xs.flatMap pointCells) ∧ Below w.heap.size w w' := by
  obtain ⟨i0, hi, hz0, hz1, hz2⟩ := info_parts info_copyPoints
  have hown0 := own_empty w w.heap.size 52 3 (Nat.le_refl _)
  have hr1 := hr.alloc hB (.cells #[] 52)
  have hb0 : Below w.heap.size w (w.alloc (.cells #[] 52)) := (Below.refl _ _).alloc (Nat.le_refl _) _
  go_enter Try.func48, Try.ntmps48
  go_wp2_with (at_builtin; refine wpList_append_all _ rfl _ _ 38 rfl w.heap.size 52 i0 _ 3 32 Try.underlying38 hi hz0 hz1 hz2 rfl (by decide) _ 0 [] (by rfl) hown0 b1 A xs.length c (xs.flatMap pointCells) (by rfl) hr1 (fun u hu => by simp only [List.mem_flatMap, pointCells, List.mem_cons, List.not_mem_nil, or_false] at hu; obtain ⟨x, _, hu⟩ := hu; rcases hu with rfl | rfl | rfl <;> rfl) (by unfold maxLen; omega) (by omega) w hb0 (by simp) ?_; intro v1 w1 hown1 hb1 _)
  go_ret
  exact ⟨_, rfl, by simpa using hown1, hb1⟩

def roomPoints : List Value := [.string ⟨#[]⟩, .int .i64 77777, .int .i64 0, .string ⟨#[]⟩, .int .i64 77777, .int .i64 0]
set_option maxRecDepth 100000 in
set_option maxHeartbeats 400000 in
theorem lendPoints_any (A : Option Addr) (c : Nat) (xs : List (ByteArray × Int × Int)) (w : World) (b1 : Nat) (hr : Reads w b1 3 A xs.length (xs.flatMap pointCells)) (hB : b1 ≤ w.heap.size) (hn : xs.length * 32 ≤ 140737488351232) :
    Calls Try.prog 23 #[.slice A xs.length c] w fun e w' => ∃ g cap, e = .returned (.slice (some ⟨g, 0, none⟩) xs.length cap) ∧ w.heap.size ≤ g ∧ xs.length + 2 ≤ cap ∧ cap ≤ maxLen ∧
      w'.ownsRow w.heap.size 52 3 (.slice (some ⟨g, 0, none⟩) (xs.length + 2) cap) (xs.length + 2) ((xs.flatMap pointCells) ++ roomPoints) ∧ Below w.heap.size w w' := by
  obtain ⟨i0, hi, hz0, hz1, hz2⟩ := info_parts info_copyPoints
  go_enter Try.func23, Try.ntmps23
  go_wp2_with fail
  refine (copyPoints_any A c xs w b1 hr hB (by omega)).mono ?_
  rintro e w1 ⟨v, rfl, hown, hb⟩
  go_wp2_with (at_builtin; refine wpList_pushes _ rfl _ _ 38 rfl w.heap.size 52 i0 _ 3 32 Try.underlying38 hi hz0 hz1 hz2 rfl (by decide) _ xs.length _ (by rfl) hown 2 roomPoints (by rfl) rfl (by simp [roomPoints, Value.oneCell']) (by unfold maxLen; omega) (by omega) w hb hb.size ?_; intro v2 w2 hown2 hb2; obtain ⟨g, cap, hv, hg, hlt⟩ := hown2.form (by omega); subst hv; obtain ⟨hcap, hmax⟩ := own_cap hown2; have hc1 : xs.length ≤ cap := by omega)
  go_ret
  exact ⟨g, cap, rfl, hg, hcap, hmax, hown2, hb2⟩

set_option maxRecDepth 100000 in
set_option maxHeartbeats 400000 in
theorem keptPoints_true (A : Option Addr) (g c cap : Nat) (xs : List (ByteArray × Int × Int)) (w : World) (b1 b2 : Nat) (hr : Reads w b1 3 (some ⟨g, 0, none⟩) (xs.length + 2) ((xs.flatMap pointCells) ++ roomPoints)) (hq : Reads w b2 3 A xs.length (xs.flatMap pointCells)) (hcap : xs.length + 2 ≤ cap) (hn : xs.length ≤ 140737488355328) :
    Calls Try.prog 27 #[.slice (some ⟨g, 0, none⟩) xs.length cap, .slice A xs.length c] w fun e w' => e = .returned (.bool true) ∧ ∃ n, w' = w.drewN n := by
  have hLl : (xs.flatMap pointCells).length = xs.length * 3 := flat_length pointCells 3 (fun _ => rfl) xs
  have hr1 : Reads w b1 3 (some ⟨g, 0, none⟩) xs.length (xs.flatMap pointCells) := hr.head hLl
  obtain ⟨b, off, hbo, hbl, hcr⟩ := hr.2 (by omega)
  obtain ⟨rfl, rfl⟩ : g = b ∧ 0 = off := by injection hbo with hbo; injection hbo with h1 h2; exact ⟨h1, h2⟩
  have hm0 : w.cell? ⟨g, xs.length * 3, none⟩ = some (.string ⟨#[]⟩) := by have := hcr (xs.length * 3 + 0) (.string ⟨#[]⟩) (by rw [List.getElem?_append_right (by rw [hLl]; omega), hLl, Nat.add_sub_cancel_left]; try rfl); rw [Nat.zero_add] at this; first | exact this | (rw [← this]; congr 2 <;> first | rfl | omega)
  have hm1 : w.cell? ⟨g, xs.length * 3 + 1, none⟩ = some (.int .i64 77777) := by have := hcr (xs.length * 3 + 1) (.int .i64 77777) (by rw [List.getElem?_append_right (by rw [hLl]; omega), hLl, Nat.add_sub_cancel_left]; try rfl); rw [Nat.zero_add] at this; first | exact this | (rw [← this]; congr 2 <;> first | rfl | omega)
  have hm2 : w.cell? ⟨g, xs.length * 3 + 2, none⟩ = some (.int .i64 0) := by have := hcr (xs.length * 3 + 2) (.int .i64 0) (by rw [List.getElem?_append_right (by rw [hLl]; omega), hLl, Nat.add_sub_cancel_left]; try rfl); rw [Nat.zero_add] at this; first | exact this | (rw [← this]; congr 2 <;> first | rfl | omega)
  have hm3 : w.cell? ⟨g, (xs.length + 1) * 3, none⟩ = some (.string ⟨#[]⟩) := by have := hcr (xs.length * 3 + 3) (.string ⟨#[]⟩) (by rw [List.getElem?_append_right (by rw [hLl]; omega), hLl, Nat.add_sub_cancel_left]; try rfl); rw [Nat.zero_add] at this; first | exact this | (rw [← this]; congr 2 <;> first | rfl | omega)
  have hm4 : w.cell? ⟨g, (xs.length + 1) * 3 + 1, none⟩ = some (.int .i64 77777) := by have := hcr (xs.length * 3 + 4) (.int .i64 77777) (by rw [List.getElem?_append_right (by rw [hLl]; omega), hLl, Nat.add_sub_cancel_left]; try rfl); rw [Nat.zero_add] at this; first | exact this | (rw [← this]; congr 2 <;> first | rfl | omega)
  have hm5 : w.cell? ⟨g, (xs.length + 1) * 3 + 2, none⟩ = some (.int .i64 0) := by have := hcr (xs.length * 3 + 5) (.int .i64 0) (by rw [List.getElem?_append_right (by rw [hLl]; omega), hLl, Nat.add_sub_cancel_left]; try rfl); rw [Nat.zero_add] at this; first | exact this | (rw [← this]; congr 2 <;> first | rfl | omega)
  clear hcr hr hbo hLl
  go_enter Try.func27, Try.ntmps27
  go_wp2_with fail
  refine (samePoints_true _ _ cap c xs w b1 b2 hr1 hq hn).mono ?_
  rintro e w1 ⟨rfl, n1, rfl⟩
  clear hr1 hq
  go_wp2_with fail
  go_ret
  exact ⟨rfl, _, rfl⟩

end Go.Proofs.Ythdbmgjlegpbaaa
