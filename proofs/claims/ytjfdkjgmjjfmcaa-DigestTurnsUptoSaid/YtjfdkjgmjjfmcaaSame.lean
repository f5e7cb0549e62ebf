/- The helpers of cachetlaw0 on slices (Same, Copy, Lend, Kept): what they answer where the lists are one. Printed by gen_same.py. -/
import Derived.Test.YtjfdkjgmjjfmcaaSumLaws
import Derived.Deep.QuietTactic
import Derived.BigQuiet
namespace Go.Proofs.Ytjfdkjgmjjfmcaa
open Go.RowKit
set_option linter.unusedVariables false

set_option maxRecDepth 100000 in
set_option maxHeartbeats 400000 in
theorem sameInts_true (A B : Option Addr) (c d : Nat) (xs : List (Int)) (w : World) (b1 b2 : Nat) (hr : Reads w b1 1 A xs.length (xs.map (Value.int .i64))) (hq : Reads w b2 1 B xs.length (xs.map (Value.int .i64))) (hn : xs.length ≤ 140737488355328) :
    Calls Try.prog 36 #[.slice A xs.length c, .slice B xs.length d] w fun e w' => e = .returned (.bool true) ∧ ∃ n, w' = w.drewN n := by
  have hl : ((xs.length : Int) != (xs.length : Int)) = false := by simp
  go_enter Try.func36, Try.ntmps36
  go_wp2
  go_loopw [5] (fun i wr => ∃ k n : Nat, k ≤ xs.length ∧ i = .int .i64 (k : Int) ∧ wr = w.drewN n) (fun i _ => xs.length - (intOf i).toNat)
  case atStart => exact ⟨0, 0, Nat.zero_le _, rfl, rfl⟩
  case round =>
    obtain ⟨k, n, hk, rfl, rfl⟩ := hrel
    by_cases hlt : k < xs.length
    · obtain ⟨b, off, rfl, hbl, hc⟩ := hr.2 (by omega)
      obtain ⟨b', off', rfl, hbl', hc'⟩ := hq.2 (by omega)
      have hcell0 := hc k (Value.int .i64 xs[k]) (by simp [hlt])
      have hcelq0 := hc' k (Value.int .i64 xs[k]) (by simp [hlt])
      have hne : (xs[k] != xs[k]) = false := by simp
      clear hc hc' hr hq
      go_wp2
      go_quiet (fail)
      go_wp2
      go_roundw
      case rel => exact ⟨k + 1, n + nq, by omega, by go_num, rfl⟩
      case measure => simp [intOf]; omega
    · clear hr hq
      go_wp2
      go_ret
      exact ⟨rfl, _, rfl⟩

set_option maxRecDepth 100000 in
set_option maxHeartbeats 400000 in
theorem sameSums_true (A B : Option Addr) (c d : Nat) (xs : List (Int)) (w : World) (b1 b2 : Nat) (hr : Reads w b1 1 A xs.length (xs.map (Value.int .u64))) (hq : Reads w b2 1 B xs.length (xs.map (Value.int .u64))) (hn : xs.length ≤ 140737488355328) :
    Calls Try.prog 33 #[.slice A xs.length c, .slice B xs.length d] w fun e w' => e = .returned (.bool true) ∧ ∃ n, w' = w.drewN n := by
  have hl : ((xs.length : Int) != (xs.length : Int)) = false := by simp
  go_enter Try.func33, Try.ntmps33
  go_wp2
  go_loopw [5] (fun i wr => ∃ k n : Nat, k ≤ xs.length ∧ i = .int .i64 (k : Int) ∧ wr = w.drewN n) (fun i _ => xs.length - (intOf i).toNat)
  case atStart => exact ⟨0, 0, Nat.zero_le _, rfl, rfl⟩
  case round =>
    obtain ⟨k, n, hk, rfl, rfl⟩ := hrel
    by_cases hlt : k < xs.length
    · obtain ⟨b, off, rfl, hbl, hc⟩ := hr.2 (by omega)
      obtain ⟨b', off', rfl, hbl', hc'⟩ := hq.2 (by omega)
      have hcell0 := hc k (Value.int .u64 xs[k]) (by simp [hlt])
      have hcelq0 := hc' k (Value.int .u64 xs[k]) (by simp [hlt])
      have hne : (xs[k] != xs[k]) = false := by simp
      clear hc hc' hr hq
      go_wp2
      go_quiet (fail)
      go_wp2
      go_roundw
      case rel => exact ⟨k + 1, n + nq, by omega, by go_num, rfl⟩
      case measure => simp [intOf]; omega
    · clear hr hq
      go_wp2
      go_ret
      exact ⟨rfl, _, rfl⟩

set_option maxRecDepth 100000 in
set_option maxHeartbeats 400000 in
theorem sameTexts_true (A B : Option Addr) (c d : Nat) (xs : List (ByteArray)) (w : World) (b1 b2 : Nat) (hr : Reads w b1 1 A xs.length (xs.map (Value.string))) (hq : Reads w b2 1 B xs.length (xs.map (Value.string))) (hn : xs.length ≤ 140737488355328) :
    Calls Try.prog 71 #[.slice A xs.length c, .slice B xs.length d] w fun e w' => e = .returned (.bool true) ∧ ∃ n, w' = w.drewN n := by
  have hl : ((xs.length : Int) != (xs.length : Int)) = false := by simp
  go_enter Try.func71, Try.ntmps71
  go_wp2
  go_loopw [5] (fun i wr => ∃ k n : Nat, k ≤ xs.length ∧ i = .int .i64 (k : Int) ∧ wr = w.drewN n) (fun i _ => xs.length - (intOf i).toNat)
  case atStart => exact ⟨0, 0, Nat.zero_le _, rfl, rfl⟩
  case round =>
    obtain ⟨k, n, hk, rfl, rfl⟩ := hrel
    by_cases hlt : k < xs.length
    · obtain ⟨b, off, rfl, hbl, hc⟩ := hr.2 (by omega)
      obtain ⟨b', off', rfl, hbl', hc'⟩ := hq.2 (by omega)
      have hcell0 := hc k (Value.string xs[k]) (by simp [hlt])
      have hcelq0 := hc' k (Value.string xs[k]) (by simp [hlt])
      have tt := trivial
      clear hc hc' hr hq
      go_wp2
      go_quiet (fail)
      go_wp2
      go_roundw
      case rel => exact ⟨k + 1, n + nq, by omega, by go_num, rfl⟩
      case measure => simp [intOf]; omega
    · clear hr hq
      go_wp2
      go_ret
      exact ⟨rfl, _, rfl⟩

theorem info_copyTexts : (Try.prog.info? 9).map (fun i => (i.zero, i.size, i.bytes)) = some (some (.string ⟨#[]⟩), 1, 16) := by kernel_rfl
set_option maxRecDepth 100000 in
set_option maxHeartbeats 400000 in
theorem copyTexts_any (A : Option Addr) (c : Nat) (xs : List (ByteArray)) (w : World) (b1 : Nat) (hr : Reads w b1 1 A xs.length (xs.map (Value.string))) (hB : b1 ≤ w.heap.size) (hn : xs.length * 16 ≤ 140737488355328) :
    Calls Try.prog 70 #[.slice A xs.length c] w fun e w' => ∃ v, e = .returned v ∧ w'.ownsRow w.heap.size 9 1 v xs.length (xs.map (Value.string)) ∧ Below w.heap.size w w' := by
  obtain ⟨i0, hi, hz0, hz1, hz2⟩ := info_parts info_copyTexts
  have hown0 := own_empty w w.heap.size 9 1 (Nat.le_refl _)
  have hr1 := hr.alloc hB (.cells #[] 9)
  have hb0 : Below w.heap.size w (w.alloc (.cells #[] 9)) := (Below.refl _ _).alloc (Nat.le_refl _) _
  go_enter Try.func70, Try.ntmps70
  go_wp2_with (at_builtin; refine wpList_append_all _ rfl _ _ 36 rfl w.heap.size 9 i0 _ 1 16 Try.underlying36 hi hz0 hz1 hz2 rfl (by decide) _ 0 [] (by rfl) hown0 b1 A xs.length c (xs.map (Value.string)) (by rfl) hr1 (fun u hu => by simp only [List.mem_map] at hu; obtain ⟨x, _, rfl⟩ := hu; rfl) (by unfold maxLen; omega) (by omega) w hb0 (by simp) ?_; intro v1 w1 hown1 hb1 _)
  go_ret
  exact ⟨_, rfl, by simpa using hown1, hb1⟩

def roomTexts : List Value := [.string ⟨#[126, 114, 111, 111, 109]⟩, .string ⟨#[126, 98, 101, 104, 105, 110, 100]⟩]
set_option maxRecDepth 100000 in
set_option maxHeartbeats 400000 in
theorem lendTexts_any (A : Option Addr) (c : Nat) (xs : List (ByteArray)) (w : World) (b1 : Nat) (hr : Reads w b1 1 A xs.length (xs.map (Value.string))) (hB : b1 ≤ w.heap.size) (hn : xs.length * 16 ≤ 140737488351232) :
    Calls Try.prog 32 #[.slice A xs.length c] w fun e w' => ∃ g cap, e = .returned (.slice (some ⟨g, 0, none⟩) xs.length cap) ∧ w.heap.size ≤ g ∧ xs.length + 2 ≤ cap ∧ cap ≤ maxLen ∧
      w'.ownsRow w.heap.size 9 1 (.slice (some ⟨g, 0, none⟩) (xs.length + 2) cap) (xs.length + 2) ((xs.map (Value.string)) ++ roomTexts) ∧ Below w.heap.size w w' := by
  obtain ⟨i0, hi, hz0, hz1, hz2⟩ := info_parts info_copyTexts
  go_enter Try.func32, Try.ntmps32
  go_wp2_with fail
  refine (copyTexts_any A c xs w b1 hr hB (by omega)).mono ?_
  rintro e w1 ⟨v, rfl, hown, hb⟩
  go_wp2_with (at_builtin; refine wpList_pushes _ rfl _ _ 36 rfl w.heap.size 9 i0 _ 1 16 Try.underlying36 hi hz0 hz1 hz2 rfl (by decide) _ xs.length _ (by rfl) hown 2 roomTexts (by rfl) rfl (by simp [roomTexts, Value.oneCell']) (by unfold maxLen; omega) (by omega) w hb hb.size ?_; intro v2 w2 hown2 hb2; obtain ⟨g, cap, hv, hg, hlt⟩ := hown2.form (by omega); subst hv; obtain ⟨hcap, hmax⟩ := own_cap hown2; have hc1 : xs.length ≤ cap := by omega)
  go_ret
  exact ⟨g, cap, rfl, hg, hcap, hmax, hown2, hb2⟩

set_option maxRecDepth 100000 in
set_option maxHeartbeats 400000 in
theorem keptTexts_true (A : Option Addr) (g c cap : Nat) (xs : List (ByteArray)) (w : World) (b1 b2 : Nat) (hr : Reads w b1 1 (some ⟨g, 0, none⟩) (xs.length + 2) ((xs.map (Value.string)) ++ roomTexts)) (hq : Reads w b2 1 A xs.length (xs.map (Value.string))) (hcap : xs.length + 2 ≤ cap) (hn : xs.length ≤ 140737488355328) :
    Calls Try.prog 39 #[.slice (some ⟨g, 0, none⟩) xs.length cap, .slice A xs.length c] w fun e w' => e = .returned (.bool true) ∧ ∃ n, w' = w.drewN n := by
  have hLl : (xs.map (Value.string)).length = xs.length * 1 := by simp
  have hr1 : Reads w b1 1 (some ⟨g, 0, none⟩) xs.length (xs.map (Value.string)) := hr.head hLl
  obtain ⟨b, off, hbo, hbl, hcr⟩ := hr.2 (by omega)
  obtain ⟨rfl, rfl⟩ : g = b ∧ 0 = off := by injection hbo with hbo; injection hbo with h1 h2; exact ⟨h1, h2⟩
  have hm0 : w.cell? ⟨g, xs.length, none⟩ = some (.string ⟨#[126, 114, 111, 111, 109]⟩) := by have := hcr (xs.length * 1 + 0) (.string ⟨#[126, 114, 111, 111, 109]⟩) (by rw [List.getElem?_append_right (by rw [hLl]; omega), hLl, Nat.add_sub_cancel_left]; try rfl); rw [Nat.zero_add] at this; first | exact this | (rw [← this]; congr 2 <;> first | rfl | omega)
  have hm1 : w.cell? ⟨g, (xs.length + 1), none⟩ = some (.string ⟨#[126, 98, 101, 104, 105, 110, 100]⟩) := by have := hcr (xs.length * 1 + 1) (.string ⟨#[126, 98, 101, 104, 105, 110, 100]⟩) (by rw [List.getElem?_append_right (by rw [hLl]; omega), hLl, Nat.add_sub_cancel_left]; try rfl); rw [Nat.zero_add] at this; first | exact this | (rw [← this]; congr 2 <;> first | rfl | omega)
  clear hcr hr hbo hLl
  go_enter Try.func39, Try.ntmps39
  go_wp2_with fail
  refine (sameTexts_true _ _ cap c xs w b1 b2 hr1 hq hn).mono ?_
  rintro e w1 ⟨rfl, n1, rfl⟩
  clear hr1 hq
  go_wp2_with fail
  go_ret
  exact ⟨rfl, _, rfl⟩

def fileCells (f : Int × ByteArray) : List Value := [.int .i64 f.1, .string f.2]
set_option maxRecDepth 100000 in
set_option maxHeartbeats 400000 in
theorem sameFiles_true (A B : Option Addr) (c d : Nat) (xs : List (Int × ByteArray)) (w : World) (b1 b2 : Nat) (hr : Reads w b1 2 A xs.length (xs.flatMap fileCells)) (hq : Reads w b2 2 B xs.length (xs.flatMap fileCells)) (hn : xs.length ≤ 140737488355328) :
    Calls Try.prog 73 #[.slice A xs.length c, .slice B xs.length d] w fun e w' => e = .returned (.bool true) ∧ ∃ n, w' = w.drewN n := by
  have hl : ((xs.length : Int) != (xs.length : Int)) = false := by simp
  go_enter Try.func73, Try.ntmps73
  go_wp2
  go_loopw [5] (fun i wr => ∃ k n : Nat, k ≤ xs.length ∧ i = .int .i64 (k : Int) ∧ wr = w.drewN n) (fun i _ => xs.length - (intOf i).toNat)
  case atStart => exact ⟨0, 0, Nat.zero_le _, rfl, rfl⟩
  case round =>
    obtain ⟨k, n, hk, rfl, rfl⟩ := hrel
    by_cases hlt : k < xs.length
    · obtain ⟨b, off, rfl, hbl, hc⟩ := hr.2 (by omega)
      obtain ⟨b', off', rfl, hbl', hc'⟩ := hq.2 (by omega)
      have hcell0 : w.cell? ⟨b, off + k * 2, none⟩ = some (.int .i64 xs[k].1) := by have := hc (k * 2 + 0) (.int .i64 xs[k].1) (by rw [flat_at fileCells 2 (fun _ => rfl) xs k 0 hlt (by omega)]; rfl); rwa [← Nat.add_assoc] at this
      have hcell1 : w.cell? ⟨b, off + k * 2 + 1, none⟩ = some (.string xs[k].2) := by have := hc (k * 2 + 1) (.string xs[k].2) (by rw [flat_at fileCells 2 (fun _ => rfl) xs k 1 hlt (by omega)]; rfl); rwa [← Nat.add_assoc] at this
      have hcelq0 : w.cell? ⟨b', off' + k * 2, none⟩ = some (.int .i64 xs[k].1) := by have := hc' (k * 2 + 0) (.int .i64 xs[k].1) (by rw [flat_at fileCells 2 (fun _ => rfl) xs k 0 hlt (by omega)]; rfl); rwa [← Nat.add_assoc] at this
      have hcelq1 : w.cell? ⟨b', off' + k * 2 + 1, none⟩ = some (.string xs[k].2) := by have := hc' (k * 2 + 1) (.string xs[k].2) (by rw [flat_at fileCells 2 (fun _ => rfl) xs k 1 hlt (by omega)]; rfl); rwa [← Nat.add_assoc] at this
      have tt := trivial
      clear hc hc' hr hq
      go_wp2
      go_quiet (fail)
      go_wp2
      go_roundw
      case rel => exact ⟨k + 1, n + nq, by omega, by go_num, rfl⟩
      case measure => simp [intOf]; omega
    · clear hr hq
      go_wp2
      go_ret
      exact ⟨rfl, _, rfl⟩

theorem info_copyFiles : (Try.prog.info? 52).map (fun i => (i.zero, i.size, i.bytes)) = some (some (.agg #[.int .i64 0, .string ⟨#[]⟩]), 2, 24) := by kernel_rfl
set_option maxRecDepth 100000 in
set_option maxHeartbeats 400000 in
theorem copyFiles_any (A : Option Addr) (c : Nat) (xs : List (Int × ByteArray)) (w : World) (b1 : Nat) (hr : Reads w b1 2 A xs.length (xs.flatMap fileCells)) (hB : b1 ≤ w.heap.size) (hn : xs.length * 24 ≤ 140737488355328) :
    Calls Try.prog 72 #[.slice A xs.length c] w fun e w' => ∃ v, e = .returned v ∧ w'.ownsRow w.heap.size 52 2 v xs.length (xs.flatMap fileCells) ∧ Below w.heap.size w w' := by
  obtain ⟨i0, hi, hz0, hz1, hz2⟩ := info_parts info_copyFiles
  have hown0 := own_empty w w.heap.size 52 2 (Nat.le_refl _)
  have hr1 := hr.alloc hB (.cells #[] 52)
  have hb0 : Below w.heap.size w (w.alloc (.cells #[] 52)) := (Below.refl _ _).alloc (Nat.le_refl _) _
  go_enter Try.func72, Try.ntmps72
  go_wp2_with (at_builtin; refine wpList_append_all _ rfl _ _ 46 rfl w.heap.size 52 i0 _ 2 24 Try.underlying46 hi hz0 hz1 hz2 rfl (by decide) _ 0 [] (by rfl) hown0 b1 A xs.length c (xs.flatMap fileCells) (by rfl) hr1 (fun u hu => by simp only [List.mem_flatMap, fileCells, List.mem_cons, List.not_mem_nil, or_false] at hu; obtain ⟨x, _, hu⟩ := hu; rcases hu with rfl | rfl <;> rfl) (by unfold maxLen; omega) (by omega) w hb0 (by simp) ?_; intro v1 w1 hown1 hb1 _)
  go_ret
  exact ⟨_, rfl, by simpa using hown1, hb1⟩

def roomFiles : List Value := [.int .i64 77777, .string ⟨#[]⟩, .int .i64 77777, .string ⟨#[]⟩]
set_option maxRecDepth 100000 in
set_option maxHeartbeats 400000 in
theorem lendFiles_any (A : Option Addr) (c : Nat) (xs : List (Int × ByteArray)) (w : World) (b1 : Nat) (hr : Reads w b1 2 A xs.length (xs.flatMap fileCells)) (hB : b1 ≤ w.heap.size) (hn : xs.length * 24 ≤ 140737488351232) :
    Calls Try.prog 42 #[.slice A xs.length c] w fun e w' => ∃ g cap, e = .returned (.slice (some ⟨g, 0, none⟩) xs.length cap) ∧ w.heap.size ≤ g ∧ xs.length + 2 ≤ cap ∧ cap ≤ maxLen ∧
      w'.ownsRow w.heap.size 52 2 (.slice (some ⟨g, 0, none⟩) (xs.length + 2) cap) (xs.length + 2) ((xs.flatMap fileCells) ++ roomFiles) ∧ Below w.heap.size w w' := by
  obtain ⟨i0, hi, hz0, hz1, hz2⟩ := info_parts info_copyFiles
  go_enter Try.func42, Try.ntmps42
  go_wp2_with fail
  refine (copyFiles_any A c xs w b1 hr hB (by omega)).mono ?_
  rintro e w1 ⟨v, rfl, hown, hb⟩
  go_wp2_with (at_builtin; refine wpList_pushes _ rfl _ _ 46 rfl w.heap.size 52 i0 _ 2 24 Try.underlying46 hi hz0 hz1 hz2 rfl (by decide) _ xs.length _ (by rfl) hown 2 roomFiles (by rfl) rfl (by simp [roomFiles, Value.oneCell']) (by unfold maxLen; omega) (by omega) w hb hb.size ?_; intro v2 w2 hown2 hb2; obtain ⟨g, cap, hv, hg, hlt⟩ := hown2.form (by omega); subst hv; obtain ⟨hcap, hmax⟩ := own_cap hown2; have hc1 : xs.length ≤ cap := by omega)
  go_ret
  exact ⟨g, cap, rfl, hg, hcap, hmax, hown2, hb2⟩

set_option maxRecDepth 100000 in
set_option maxHeartbeats 400000 in
theorem keptFiles_true (A : Option Addr) (g c cap : Nat) (xs : List (Int × ByteArray)) (w : World) (b1 b2 : Nat) (hr : Reads w b1 2 (some ⟨g, 0, none⟩) (xs.length + 2) ((xs.flatMap fileCells) ++ roomFiles)) (hq : Reads w b2 2 A xs.length (xs.flatMap fileCells)) (hcap : xs.length + 2 ≤ cap) (hn : xs.length ≤ 140737488355328) :
    Calls Try.prog 45 #[.slice (some ⟨g, 0, none⟩) xs.length cap, .slice A xs.length c] w fun e w' => e = .returned (.bool true) ∧ ∃ n, w' = w.drewN n := by
  have hLl : (xs.flatMap fileCells).length = xs.length * 2 := flat_length fileCells 2 (fun _ => rfl) xs
  have hr1 : Reads w b1 2 (some ⟨g, 0, none⟩) xs.length (xs.flatMap fileCells) := hr.head hLl
  obtain ⟨b, off, hbo, hbl, hcr⟩ := hr.2 (by omega)
  obtain ⟨rfl, rfl⟩ : g = b ∧ 0 = off := by injection hbo with hbo; injection hbo with h1 h2; exact ⟨h1, h2⟩
  have hm0 : w.cell? ⟨g, xs.length * 2, none⟩ = some (.int .i64 77777) := by have := hcr (xs.length * 2 + 0) (.int .i64 77777) (by rw [List.getElem?_append_right (by rw [hLl]; omega), hLl, Nat.add_sub_cancel_left]; try rfl); rw [Nat.zero_add] at this; first | exact this | (rw [← this]; congr 2 <;> first | rfl | omega)
  have hm1 : w.cell? ⟨g, xs.length * 2 + 1, none⟩ = some (.string ⟨#[]⟩) := by have := hcr (xs.length * 2 + 1) (.string ⟨#[]⟩) (by rw [List.getElem?_append_right (by rw [hLl]; omega), hLl, Nat.add_sub_cancel_left]; try rfl); rw [Nat.zero_add] at this; first | exact this | (rw [← this]; congr 2 <;> first | rfl | omega)
  have hm2 : w.cell? ⟨g, (xs.length + 1) * 2, none⟩ = some (.int .i64 77777) := by have := hcr (xs.length * 2 + 2) (.int .i64 77777) (by rw [List.getElem?_append_right (by rw [hLl]; omega), hLl, Nat.add_sub_cancel_left]; try rfl); rw [Nat.zero_add] at this; first | exact this | (rw [← this]; congr 2 <;> first | rfl | omega)
  have hm3 : w.cell? ⟨g, (xs.length + 1) * 2 + 1, none⟩ = some (.string ⟨#[]⟩) := by have := hcr (xs.length * 2 + 3) (.string ⟨#[]⟩) (by rw [List.getElem?_append_right (by rw [hLl]; omega), hLl, Nat.add_sub_cancel_left]; try rfl); rw [Nat.zero_add] at this; first | exact this | (rw [← this]; congr 2 <;> first | rfl | omega)
  clear hcr hr hbo hLl
  go_enter Try.func45, Try.ntmps45
  go_wp2_with fail
  refine (sameFiles_true _ _ cap c xs w b1 b2 hr1 hq hn).mono ?_
  rintro e w1 ⟨rfl, n1, rfl⟩
  clear hr1 hq
  go_wp2_with fail
  go_ret
  exact ⟨rfl, _, rfl⟩

end Go.Proofs.Ytjfdkjgmjjfmcaa
