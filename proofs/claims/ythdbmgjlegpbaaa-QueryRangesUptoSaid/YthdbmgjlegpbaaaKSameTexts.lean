/- The helpers of cachetlaw0 on slices (Same, Copy, Lend, Kept): what they answer where the lists are one. Printed by gen_same.py. -/
import Derived.Test.YthdbmgjlegpbaaaK1
import Derived.Test.YthdbmgjlegpbaaaProg
import Derived.Deep.QuietTactic
import Derived.BigQuiet
namespace Go.Proofs.Ythdbmgjlegpbaaa
open Go.RowKit
set_option linter.unusedVariables false

set_option maxRecDepth 100000 in
set_option maxHeartbeats 400000 in
theorem sameTexts_true (A B : Option Addr) (c d : Nat) (xs : List (ByteArray)) (w : World) (b1 b2 : Nat) (hr : Reads w b1 1 A xs.length (xs.map (Value.string))) (hq : Reads w b2 1 B xs.length (xs.map (Value.string))) (hn : xs.length ≤ 140737488355328) :
    Calls Try.prog 20 #[.slice A xs.length c, .slice B xs.length d] w fun e w' => e = .returned (.bool true) ∧ ∃ n, w' = w.drewN n := by
  have hl : ((xs.length : Int) != (xs.length : Int)) = false := by simp
  go_enter Try.func20, Try.ntmps20
  go_wp2
  go_loopw [5] (fun i wr => ∃ k n : Nat, k ≤ xs.length ∧ i = .int .i64 (k : Int) ∧ wr = w.drewN n) (fun i _ => xs.length - (intOf i).toNat)
  case atStart => exact ⟨0, 0, Nat.zero_le _, rfl, rfl⟩
  case round =>
    obtain ⟨k, n, hk, rfl, rfl⟩ := hrel
    by_cases hlt : k < xs.length
    · obtain ⟨b, off, rfl, hbl, hc⟩ := hr.2 (by omega)
      obtain ⟨b', off', rfl, hbl', hc'⟩ := hq.2 (by omega)
      have hcell0 := hc k (Value.string xs[k]) (by simp [hlt])
      have hcelq0 := hc' k (Value.string xs[k]) (by simp [hlt])
      have tt := trivial
      clear hc hc' hr hq
      go_wp2
      go_quiet (fail)
      go_wp2
      go_roundw
      case rel => exact ⟨k + 1, n + nq, by omega, by go_num, rfl⟩
      case measure => simp [intOf]; omega
    · clear hr hq
      go_wp2
      go_ret
      exact ⟨rfl, _, rfl⟩

theorem info_copyTexts : (Try.prog.info? 9).map (fun i => (i.zero, i.size, i.bytes)) = some (some (.string ⟨#[]⟩), 1, 16) := by kernel_rfl
set_option maxRecDepth 100000 in
set_option maxHeartbeats 400000 in
theorem copyTexts_any (A : Option Addr) (c : Nat) (xs : List (ByteArray)) (w : World) (b1 : Nat) (hr : Reads w b1 1 A xs.length (xs.map (Value.string))) (hB : b1 ≤ w.heap.size) (hn : xs.length * 16 ≤ 140737488355328) :
    Calls Try.prog 47 #[.slice A xs.length c] w fun e w' => ∃ v, e = .returned v ∧ w'.ownsRow w.heap.size 9 1 v xs.length (xs.map (Value.string)) ∧ Below w.heap.size w w' := by
  obtain ⟨i0, hi, hz0, hz1, hz2⟩ := info_parts info_copyTexts
  have hown0 := own_empty w w.heap.size 9 1 (Nat.le_refl _)
  have hr1 := hr.alloc hB (.cells #[] 9)
  have hb0 : Below w.heap.size w (w.alloc (.cells #[] 9)) := (Below.refl _ _).alloc (Nat.le_refl _) _
  go_enter Try.func47, Try.ntmps47
  go_wp2_with (at_builtin; refine wpList_append_all _ rfl _ _ 24 rfl w.heap.size 9 i0 _ 1 16 Try.underlying24 hi hz0 hz1 hz2 rfl (by decide) _ 0 [] (by rfl) hown0 b1 A xs.length c (xs.map (Value.string)) (by rfl) hr1 (fun u hu => by simp only [List.mem_map] at hu; obtain ⟨x, _, rfl⟩ := hu; rfl) (by unfold maxLen; omega) (by omega) w hb0 (by simp) ?_; intro v1 w1 hown1 hb1 _)
  go_ret
  exact ⟨_, rfl, by simpa using hown1, hb1⟩

def roomTexts : List Value := [.string ⟨#[126, 114, 111, 111, 109]⟩, .string ⟨#[126, 98, 101, 104, 105, 110, 100]⟩]
set_option maxRecDepth 100000 in
set_option maxHeartbeats 400000 in
theorem lendTexts_any (A : Option Addr) (c : Nat) (xs : List (ByteArray)) (w : World) (b1 : Nat) (hr : Reads w b1 1 A xs.length (xs.map (Value.string))) (hB : b1 ≤ w.heap.size) (hn : xs.length * 16 ≤ 140737488351232) :
    Calls Try.prog 22 #[.slice A xs.length c] w fun e w' => ∃ g cap, e = .returned (.slice (some ⟨g, 0, none⟩) xs.length cap) ∧ w.heap.size ≤ g ∧ xs.length + 2 ≤ cap ∧ cap ≤ maxLen ∧
      w'.ownsRow w.heap.size 9 1 (.slice (some ⟨g, 0, none⟩) (xs.length + 2) cap) (xs.length + 2) ((xs.map (Value.string)) ++ roomTexts) ∧ Below w.heap.size w w' := by
  obtain ⟨i0, hi, hz0, hz1, hz2⟩ := info_parts info_copyTexts
  go_enter Try.func22, Try.ntmps22
  go_wp2_with fail
  refine (copyTexts_any A c xs w b1 hr hB (by omega)).mono ?_
  rintro e w1 ⟨v, rfl, hown, hb⟩
  go_wp2_with (at_builtin; refine wpList_pushes _ rfl _ _ 24 rfl w.heap.size 9 i0 _ 1 16 Try.underlying24 hi hz0 hz1 hz2 rfl (by decide) _ xs.length _ (by rfl) hown 2 roomTexts (by rfl) rfl (by simp [roomTexts, Value.oneCell']) (by unfold maxLen; omega) (by omega) w hb hb.size ?_; intro v2 w2 hown2 hb2; obtain ⟨g, cap, hv, hg, hlt⟩ := hown2.form (by omega); subst hv; obtain ⟨hcap, hmax⟩ := own_cap hown2; have hc1 : xs.length ≤ cap := by omega)
  go_ret
  exact ⟨g, cap, rfl, hg, hcap, hmax, hown2, hb2⟩

set_option maxRecDepth 100000 in
set_option maxHeartbeats 400000 in
theorem keptTexts_true (A : Option Addr) (g c cap : Nat) (xs : List (ByteArray)) (w : World) (b1 b2 : Nat) (hr : Reads w b1 1 (some ⟨g, 0, none⟩) (xs.length + 2) ((xs.map (Value.string)) ++ roomTexts)) (hq : Reads w b2 1 A xs.length (xs.map (Value.string))) (hcap : xs.length + 2 ≤ cap) (hn : xs.length ≤ 140737488355328) :
    Calls Try.prog 26 #[.slice (some ⟨g, 0, none⟩) xs.length cap, .slice A xs.length c] w fun e w' => e = .returned (.bool true) ∧ ∃ n, w' = w.drewN n := by
  have hLl : (xs.map (Value.string)).length = xs.length * 1 := by simp
  have hr1 : Reads w b1 1 (some ⟨g, 0, none⟩) xs.length (xs.map (Value.string)) := hr.head hLl
  obtain ⟨b, off, hbo, hbl, hcr⟩ := hr.2 (by omega)
  obtain ⟨rfl, rfl⟩ : g = b ∧ 0 = off := by injection hbo with hbo; injection hbo with h1 h2; exact ⟨h1, h2⟩
  have hm0 : w.cell? ⟨g, xs.length, none⟩ = some (.string ⟨#[126, 114, 111, 111, 109]⟩) := by have := hcr (xs.length * 1 + 0) (.string ⟨#[126, 114, 111, 111, 109]⟩) (by rw [List.getElem?_append_right (by rw [hLl]; omega), hLl, Nat.add_sub_cancel_left]; try rfl); rw [Nat.zero_add] at this; first | exact this | (rw [← this]; congr 2 <;> first | rfl | omega)
  have hm1 : w.cell? ⟨g, (xs.length + 1), none⟩ = some (.string ⟨#[126, 98, 101, 104, 105, 110, 100]⟩) := by have := hcr (xs.length * 1 + 1) (.string ⟨#[126, 98, 101, 104, 105, 110, 100]⟩) (by rw [List.getElem?_append_right (by rw [hLl]; omega), hLl, Nat.add_sub_cancel_left]; try rfl); rw [Nat.zero_add] at this; first | exact this | (rw [← this]; congr 2 <;> first | rfl | omega)
  clear hcr hr hbo hLl
  go_enter Try.func26, Try.ntmps26
  go_wp2_with fail
  refine (sameTexts_true _ _ cap c xs w b1 b2 hr1 hq hn).mono ?_
  rintro e w1 ⟨rfl, n1, rfl⟩
  clear hr1 hq
  go_wp2_with fail
  go_ret
  exact ⟨rfl, _, rfl⟩

end Go.Proofs.Ythdbmgjlegpbaaa
