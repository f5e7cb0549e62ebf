/- The helpers of cachetlaw0 on slices (Same, Copy, Lend, Kept): what they answer where the lists are one. Printed by gen_same.py. -/
import Derived.Test.YtllbjegnjjeaeaaBase
import Derived.Test.YtllbjegnjjeaeaaProg
import Derived.Deep.QuietTactic
import Derived.BigQuiet
namespace Go.Proofs.Ytllbjegnjjeaeaa
open Go.RowKit
set_option linter.unusedVariables false

def rowCells (f : Int × Int × Int × Int) : List Value := [.int .i64 f.1, .int .i64 f.2.1, .int .i64 f.2.2.1, .int .i64 f.2.2.2]
set_option maxRecDepth 100000 in
set_option maxHeartbeats 400000 in
theorem sameRows_true (A B : Option Addr) (c d : Nat) (xs : List (Int × Int × Int × Int)) (w : World) (b1 b2 : Nat) (hr : Reads w b1 4 A xs.length (xs.flatMap rowCells)) (hq : Reads w b2 4 B xs.length (xs.flatMap rowCells)) (hn : xs.length ≤ 140737488355328) :
    Calls Try.prog 13 #[.slice A xs.length c, .slice B xs.length d] w fun e w' => e = .returned (.bool true) ∧ ∃ n, w' = w.drewN n := by
  have hl : ((xs.length : Int) != (xs.length : Int)) = false := by simp
  go_enter Try.func13, Try.ntmps13
  go_wp2
  go_loopw [5] (fun i wr => ∃ k n : Nat, k ≤ xs.length ∧ i = .int .i64 (k : Int) ∧ wr = w.drewN n) (fun i _ => xs.length - (intOf i).toNat)
  case atStart => exact ⟨0, 0, Nat.zero_le _, rfl, rfl⟩
  case round =>
    obtain ⟨k, n, hk, rfl, rfl⟩ := hrel
    by_cases hlt : k < xs.length
    · obtain ⟨b, off, rfl, hbl, hc⟩ := hr.2 (by omega)
      obtain ⟨b', off', rfl, hbl', hc'⟩ := hq.2 (by omega)
      have hcell0 : w.cell? ⟨b, off + k * 4, none⟩ = some (.int .i64 xs[k].1) := by have := hc (k * 4 + 0) (.int .i64 xs[k].1) (by rw [flat_at rowCells 4 (fun _ => rfl) xs k 0 hlt (by omega)]; rfl); rwa [← Nat.add_assoc] at this
      have hcell1 : w.cell? ⟨b, off + k * 4 + 1, none⟩ = some (.int .i64 xs[k].2.1) := by have := hc (k * 4 + 1) (.int .i64 xs[k].2.1) (by rw [flat_at rowCells 4 (fun _ => rfl) xs k 1 hlt (by omega)]; rfl); rwa [← Nat.add_assoc] at this
      have hcell2 : w.cell? ⟨b, off + k * 4 + 2, none⟩ = some (.int .i64 xs[k].2.2.1) := by have := hc (k * 4 + 2) (.int .i64 xs[k].2.2.1) (by rw [flat_at rowCells 4 (fun _ => rfl) xs k 2 hlt (by omega)]; rfl); rwa [← Nat.add_assoc] at this
      have hcell3 : w.cell? ⟨b, off + k * 4 + 3, none⟩ = some (.int .i64 xs[k].2.2.2) := by have := hc (k * 4 + 3) (.int .i64 xs[k].2.2.2) (by rw [flat_at rowCells 4 (fun _ => rfl) xs k 3 hlt (by omega)]; rfl); rwa [← Nat.add_assoc] at this
      have hcelq0 : w.cell? ⟨b', off' + k * 4, none⟩ = some (.int .i64 xs[k].1) := by have := hc' (k * 4 + 0) (.int .i64 xs[k].1) (by rw [flat_at rowCells 4 (fun _ => rfl) xs k 0 hlt (by omega)]; rfl); rwa [← Nat.add_assoc] at this
      have hcelq1 : w.cell? ⟨b', off' + k * 4 + 1, none⟩ = some (.int .i64 xs[k].2.1) := by have := hc' (k * 4 + 1) (.int .i64 xs[k].2.1) (by rw [flat_at rowCells 4 (fun _ => rfl) xs k 1 hlt (by omega)]; rfl); rwa [← Nat.add_assoc] at this
      have hcelq2 : w.cell? ⟨b', off' + k * 4 + 2, none⟩ = some (.int .i64 xs[k].2.2.1) := by have := hc' (k * 4 + 2) (.int .i64 xs[k].2.2.1) (by rw [flat_at rowCells 4 (fun _ => rfl) xs k 2 hlt (by omega)]; rfl); rwa [← Nat.add_assoc] at this
      have hcelq3 : w.cell? ⟨b', off' + k * 4 + 3, none⟩ = some (.int .i64 xs[k].2.2.2) := by have := hc' (k * 4 + 3) (.int .i64 xs[k].2.2.2) (by rw [flat_at rowCells 4 (fun _ => rfl) xs k 3 hlt (by omega)]; rfl); rwa [← Nat.add_assoc] at this
      have tt := trivial
      clear hc hc' hr hq
      go_wp2
      go_quiet (fail)
      go_wp2
      go_roundw
      case rel => exact ⟨k + 1, n + nq, by omega, by go_num, rfl⟩
      case measure => simp [intOf]; omega
    · clear hr hq
      go_wp2
      go_ret
      exact ⟨rfl, _, rfl⟩

theorem info_copyRows : (Try.prog.info? 49).map (fun i => (i.zero, i.size, i.bytes)) = some (some (.agg #[.int .i64 0, .int .i64 0, .int .i64 0, .int .i64 0]), 4, 32) := by kernel_rfl
set_option maxRecDepth 100000 in
set_option maxHeartbeats 400000 in
theorem copyRows_any (A : Option Addr) (c : Nat) (xs : List (Int × Int × Int × Int)) (w : World) (b1 : Nat) (hr : Reads w b1 4 A xs.length (xs.flatMap rowCells)) (hB : b1 ≤ w.heap.size) (hn : xs.length * 32 ≤ 140737488355328) :
    Calls Try.prog 24 #[.slice A xs.length c] w fun e w' => ∃ v, e = .returned v ∧ w'.ownsRow w.heap.size 49 4 v xs.length (xs.flatMap rowCells) ∧ Below w.heap.size w w' := by
  obtain ⟨i0, hi, hz0, hz1, hz2⟩ := info_parts info_copyRows
  have hown0 := own_empty w w.heap.size 49 4 (Nat.le_refl _)
  have hr1 := hr.alloc hB (.cells #[] 49)
  have hb0 : Below w.heap.size w (w.alloc (.cells #[] 49)) := (Below.refl _ _).alloc (Nat.le_refl _) _
  go_enter Try.func24, Try.ntmps24
  go_wp2_with (at_builtin; refine wpList_append_all _ rfl _ _ 22 rfl w.heap.size 49 i0 _ 4 32 Try.underlying22 hi hz0 hz1 hz2 rfl (by decide) _ 0 [] (by rfl) hown0 b1 A xs.length c (xs.flatMap rowCells) (by rfl) hr1 (fun u hu => by simp only [List.mem_flatMap, rowCells, List.mem_cons, List.not_mem_nil, or_false] at hu; obtain ⟨x, _, hu⟩ := hu; rcases hu with rfl | rfl | rfl | rfl <;> rfl) (by unfold maxLen; omega) (by omega) w hb0 (by simp) ?_; intro v1 w1 hown1 hb1 _)
  go_ret
  exact ⟨_, rfl, by simpa using hown1, hb1⟩

def roomRows : List Value := [.int .i64 77777, .int .i64 0, .int .i64 0, .int .i64 0, .int .i64 77777, .int .i64 0, .int .i64 0, .int .i64 0]
set_option maxRecDepth 100000 in
set_option maxHeartbeats 400000 in
theorem lendRows_any (A : Option Addr) (c : Nat) (xs : List (Int × Int × Int × Int)) (w : World) (b1 : Nat) (hr : Reads w b1 4 A xs.length (xs.flatMap rowCells)) (hB : b1 ≤ w.heap.size) (hn : xs.length * 32 ≤ 140737488351232) :
    Calls Try.prog 10 #[.slice A xs.length c] w fun e w' => ∃ g cap, e = .returned (.slice (some ⟨g, 0, none⟩) xs.length cap) ∧ w.heap.size ≤ g ∧ xs.length + 2 ≤ cap ∧ cap ≤ maxLen ∧
      w'.ownsRow w.heap.size 49 4 (.slice (some ⟨g, 0, none⟩) (xs.length + 2) cap) (xs.length + 2) ((xs.flatMap rowCells) ++ roomRows) ∧ Below w.heap.size w w' := by
  obtain ⟨i0, hi, hz0, hz1, hz2⟩ := info_parts info_copyRows
  go_enter Try.func10, Try.ntmps10
  go_wp2_with fail
  refine (copyRows_any A c xs w b1 hr hB (by omega)).mono ?_
  rintro e w1 ⟨v, rfl, hown, hb⟩
  go_wp2_with (at_builtin; refine wpList_pushes _ rfl _ _ 22 rfl w.heap.size 49 i0 _ 4 32 Try.underlying22 hi hz0 hz1 hz2 rfl (by decide) _ xs.length _ (by rfl) hown 2 roomRows (by rfl) rfl (by simp [roomRows, Value.oneCell']) (by unfold maxLen; omega) (by omega) w hb hb.size ?_; intro v2 w2 hown2 hb2; obtain ⟨g, cap, hv, hg, hlt⟩ := hown2.form (by omega); subst hv; obtain ⟨hcap, hmax⟩ := own_cap hown2; have hc1 : xs.length ≤ cap := by omega)
  go_ret
  exact ⟨g, cap, rfl, hg, hcap, hmax, hown2, hb2⟩

set_option maxRecDepth 100000 in
set_option maxHeartbeats 400000 in
theorem keptRows_true (A : Option Addr) (g c cap : Nat) (xs : List (Int × Int × Int × Int)) (w : World) (b1 b2 : Nat) (hr : Reads w b1 4 (some ⟨g, 0, none⟩) (xs.length + 2) ((xs.flatMap rowCells) ++ roomRows)) (hq : Reads w b2 4 A xs.length (xs.flatMap rowCells)) (hcap : xs.length + 2 ≤ cap) (hn : xs.length ≤ 140737488355328) :
    Calls Try.prog 14 #[.slice (some ⟨g, 0, none⟩) xs.length cap, .slice A xs.length c] w fun e w' => e = .returned (.bool true) ∧ ∃ n, w' = w.drewN n := by
  have hLl : (xs.flatMap rowCells).length = xs.length * 4 := flat_length rowCells 4 (fun _ => rfl) xs
  have hr1 : Reads w b1 4 (some ⟨g, 0, none⟩) xs.length (xs.flatMap rowCells) := hr.head hLl
  obtain ⟨b, off, hbo, hbl, hcr⟩ := hr.2 (by omega)
  obtain ⟨rfl, rfl⟩ : g = b ∧ 0 = off := by injection hbo with hbo; injection hbo with h1 h2; exact ⟨h1, h2⟩
  have hm0 : w.cell? ⟨g, xs.length * 4, none⟩ = some (.int .i64 77777) := by have := hcr (xs.length * 4 + 0) (.int .i64 77777) (by rw [List.getElem?_append_right (by rw [hLl]; omega), hLl, Nat.add_sub_cancel_left]; try rfl); rw [Nat.zero_add] at this; first | exact this | (rw [← this]; congr 2 <;> first | rfl | omega)
  have hm1 : w.cell? ⟨g, xs.length * 4 + 1, none⟩ = some (.int .i64 0) := by have := hcr (xs.length * 4 + 1) (.int .i64 0) (by rw [List.getElem?_append_right (by rw [hLl]; omega), hLl, Nat.add_sub_cancel_left]; try rfl); rw [Nat.zero_add] at this; first | exact this | (rw [← this]; congr 2 <;> first | rfl | omega)
  have hm2 : w.cell? ⟨g, xs.length * 4 + 2, none⟩ = some (.int .i64 0) := by have := hcr (xs.length * 4 + 2) (.int .i64 0) (by rw [List.getElem?_append_right (by rw [hLl]; omega), hLl, Nat.add_sub_cancel_left]; try rfl); rw [Nat.zero_add] at this; first | exact this | (rw [← this]; congr 2 <;> first | rfl | omega)
  have hm3 : w.cell? ⟨g, xs.length * 4 + 3, none⟩ = some (.int .i64 0) := by have := hcr (xs.length * 4 + 3) (.int .i64 0) (by rw [List.getElem?_append_right (by rw [hLl]; omega), hLl, Nat.add_sub_cancel_left]; try rfl); rw [Nat.zero_add] at this; first | exact this | (rw [← this]; congr 2 <;> first | rfl | omega)
  have hm4 : w.cell? ⟨g, (xs.length + 1) * 4, none⟩ = some (.int .i64 77777) := by have := hcr (xs.length * 4 + 4) (.int .i64 77777) (by rw [List.getElem?_append_right (by rw [hLl]; omega), hLl, Nat.add_sub_cancel_left]; try rfl); rw [Nat.zero_add] at this; first | exact this | (rw [← this]; congr 2 <;> first | rfl | omega)
  have hm5 : w.cell? ⟨g, (xs.length + 1) * 4 + 1, none⟩ = some (.int .i64 0) := by have := hcr (xs.length * 4 + 5) (.int .i64 0) (by rw [List.getElem?_append_right (by rw [hLl]; omega), hLl, Nat.add_sub_cancel_left]; try rfl); rw [Nat.zero_add] at this; first | exact this | (rw [← this]; congr 2 <;> first | rfl | omega)
  have hm6 : w.cell? ⟨g, (xs.length + 1) * 4 + 2, none⟩ = some (.int .i64 0) := by have := hcr (xs.length * 4 + 6) (.int .i64 0) (by rw [List.getElem?_append_right (by rw [hLl]; omega), hLl, Nat.add_sub_cancel_left]; try rfl); rw [Nat.zero_add] at this; first | exact this | (rw [← this]; congr 2 <;> first | rfl | omega)
  have hm7 : w.cell? ⟨g, (xs.length + 1) * 4 + 3, none⟩ = some (.int .i64 0) := by have := hcr (xs.length * 4 + 7) (.int .i64 0) (by rw [List.getElem?_append_right (by rw [hLl]; omega), hLl, Nat.add_sub_cancel_left]; try rfl); rw [Nat.zero_add] at this; first | exact this | (rw [← this]; congr 2 <;> first | rfl | omega)
  clear hcr hr hbo hLl
  go_enter Try.func14, Try.ntmps14
  go_wp2_with fail
  refine (sameRows_true _ _ cap c xs w b1 b2 hr1 hq hn).mono ?_
  rintro e w1 ⟨rfl, n1, rfl⟩
  clear hr1 hq
  go_wp2_with fail
  go_ret
  exact ⟨rfl, _, rfl⟩

end Go.Proofs.Ytllbjegnjjeaeaa
