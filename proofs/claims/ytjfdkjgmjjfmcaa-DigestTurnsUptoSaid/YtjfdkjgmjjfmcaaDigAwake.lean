/- The walk through awake of cachetlaw19. -/
import Derived.Test.YtjfdkjgmjjfmcaaDigWalks
namespace Go.Proofs.Ytjfdkjgmjjfmcaa
open Go.RowKit
set_option linter.unusedVariables false

theorem good_true (s : ByteArray) (x : Int) (w : World) (hs : s.size ≤ maxLen) (h : ((Sm.hashL s.data.toList : Nat) : Int) = x) :
    Calls Try.prog 40 #[.string s, .int .u64 x] w fun e w' => e = .returned (.bool true) ∧ w = w' :=
  (good_any s x w hs).mono fun e w' ⟨he, hw⟩ => ⟨by rw [he]; exact ret_bool (by simp [h]), hw⟩
theorem good_false (s : ByteArray) (x : Int) (w : World) (hs : s.size ≤ maxLen) (h : ((Sm.hashL s.data.toList : Nat) : Int) ≠ x) :
    Calls Try.prog 40 #[.string s, .int .u64 x] w fun e w' => e = .returned (.bool false) ∧ w = w' :=
  (good_any s x w hs).mono fun e w' ⟨he, hw⟩ => ⟨by rw [he]; exact ret_bool (by simp [h]), hw⟩
def hX : Int := ((Sm.hashL [120] : Nat) : Int)
def hY : Int := ((Sm.hashL [121] : Nat) : Int)
def hZ : Int := ((Sm.hashL [122] : Nat) : Int)
theorem hY_ne_X : hY ≠ hX := fun h => Sm.hash_turned [] [] 121 120 (by decide) (Int.ofNat_inj.1 h)
theorem hZ_ne_Y : hZ ≠ hY := fun h => Sm.hash_turned [] [] 122 121 (by decide) (Int.ofNat_inj.1 h)
theorem hY_ne_0 : hY ≠ 0 := by
  have : Sm.hashL [121] ≠ 0 := by decide +kernel
  intro h; unfold hY at h; omega
theorem diff_known : diffTo [hX, hY] [hX, 0] (min [hX, hY].length [hX, 0].length) = [2] := by
  have := hY_ne_0
  simp [diffTo, List.range, List.range.loop, this]
theorem rot_known : rotL [(2, ⟨#[122]⟩)] [hX, hY] = [2] := by
  have h : (((Sm.hashL (ByteArray.mk #[122]).data.toList : Nat) : Int) == hY) = false := by
    have := hZ_ne_Y
    simpa [hZ] using this
  simp [rotL, rotten, h]

set_option maxRecDepth 100000 in
set_option maxHeartbeats 400000 in
theorem awake19 (w : World) : Calls Try.prog 41 #[] w fun e w' => e = .returned (.bool true) ∧ Below w.heap.size w w' := by
  go_enter Try.func41, Try.ntmps41
  go_wp2_with fail
  refine (of_any (some ⟨w.heap.size, 0, none⟩) 2 [⟨#[120]⟩, ⟨#[121]⟩] _ ((Reads.new w 9 1 2 [.string ⟨#[120]⟩, .string ⟨#[121]⟩] rfl).more (by simp)) (by intro s h; simp only [List.mem_cons, List.not_mem_nil, or_false] at h; rcases h with rfl | rfl <;> decide) (by decide)).mono ?_
  rintro e w1 ⟨v, rfl, hown1, hb1⟩
  have hb1' : Below w.heap.size w w1 := ((Below.refl _ _).alloc (Nat.le_refl _) _).trans (hb1.mono (by simp))
  obtain ⟨g, cap, hv, hg, hlt⟩ := hown1.form (by decide)
  subst hv
  have hr1 : Reads w1 w1.heap.size 1 (some ⟨g, 0, none⟩) 2 [.int .u64 hX, .int .u64 hY] := Reads.of_own hown1
  have hc0 : w1.cell? ⟨g, 0, none⟩ = some (.int .u64 hX) := by
    obtain ⟨b, off, hbo, _, hc⟩ := hr1.2 (by decide)
    injection hbo with hbo; injection hbo with h1 h2; subst h1; subst h2
    exact hc 0 _ rfl
  clear hown1 hb1
  go_wp2_with fail
  refine (good_true ⟨#[120]⟩ _ _ (by decide) (by exact rfl)).mono ?_
  rintro e w' ⟨rfl, rfl⟩
  go_wp2_with fail
  refine (good_false ⟨#[121]⟩ _ _ (by decide) (by exact hY_ne_X)).mono ?_
  rintro e w' ⟨rfl, rfl⟩
  go_wp2_with fail
  refine (differ_any (some ⟨g, 0, none⟩) (some ⟨w1.heap.size, 0, none⟩) cap 2 [hX, hY] [hX, 0] _ ((hr1.alloc (Nat.le_refl _) _).more (by simp)) ((Reads.new w1 22 1 2 [.int .u64 hX, .int .u64 0] rfl).more (by simp)) (by decide) (by decide)).mono ?_
  rintro e w2 ⟨v2, rfl, hown2, hb2⟩
  rw [diff_known] at hown2
  have hr2 : Reads w2 w1.heap.size 1 (some ⟨g, 0, none⟩) 2 [.int .u64 hX, .int .u64 hY] := (hr1.alloc (Nat.le_refl _) _).below (hb2.mono (by simp))
  have hb2' : Below w.heap.size w w2 := hb1'.trans (((Below.refl _ _).alloc hb1'.size _).trans (hb2.mono (by have := hb1'.size; simp; omega)))
  have hs2 := hb2.size
  obtain ⟨A2, c2, hv2, _, hq2⟩ := own_slice hown2
  subst hv2
  clear hown2 hb2 hr1 hc0
  go_wp2_with fail
  refine (sameInts_true A2 (some ⟨w2.heap.size, 0, none⟩) c2 1 [2] _ _ _ (hq2.alloc (Nat.le_refl _) _) (Reads.new w2 3 1 1 [.int .i64 2] rfl) (by decide)).mono ?_
  rintro e w' ⟨rfl, n3, rfl⟩
  have hb3 : Below w.heap.size w ((w2.alloc (.cells #[.int .i64 2] 3)).drewN n3) := below_drewN (hb2'.alloc hb2'.size _) _
  have hr3 : Reads ((w2.alloc (.cells #[.int .i64 2] 3)).drewN n3) w1.heap.size 1 (some ⟨g, 0, none⟩) 2 [.int .u64 hX, .int .u64 hY] := hr2.alloc (by have := hs2; simp at this; omega) _
  have hs3 : w1.heap.size ≤ ((w2.alloc (.cells #[.int .i64 2] 3)).drewN n3).heap.size := by have := hs2; simp at this ⊢; omega
  have hsz3 : ((w2.alloc (.cells #[.int .i64 2] 3)).drewN n3).heap.size = w2.heap.size + 1 := by simp
  clear hq2 hr2 hb2'
  go_wp2_with fail
  generalize ((w2.alloc (.cells #[.int .i64 2] 3)).drewN n3) = w3 at *
  rw [← hsz3]
  refine (rot_any (some ⟨w3.heap.size, 0, none⟩) (some ⟨g, 0, none⟩) 1 cap [(2, ⟨#[122]⟩)] [hX, hY] _ ((Reads.new w3 52 2 1 [.int .i64 2, .string ⟨#[122]⟩] rfl).more (by simp)) ((hr3.alloc hs3 _).more (by simp; omega)) (by intro f h; simp only [List.mem_cons, List.not_mem_nil, or_false] at h; subst h; decide) (by decide) (by decide)).mono ?_
  rintro e w4 ⟨v4, rfl, hown4, hb4⟩
  rw [rot_known] at hown4
  obtain ⟨A4, c4, hv4, _, hq4⟩ := own_slice hown4
  subst hv4
  have hb5 : Below w.heap.size w w4 := hb3.trans (((Below.refl _ _).alloc hb3.size _).trans (hb4.mono (by have := hb3.size; simp; omega)))
  clear hown4 hb4 hb3 hr3
  go_wp2_with fail
  refine (sameInts_true A4 (some ⟨w4.heap.size, 0, none⟩) c4 1 [2] _ _ _ (hq4.alloc (Nat.le_refl _) _) (Reads.new w4 3 1 1 [.int .i64 2] rfl) (by decide)).mono ?_
  rintro e w' ⟨rfl, n5, rfl⟩
  go_wp2_with fail
  refine (num_any _ _).mono ?_
  rintro e w' ⟨rfl, rfl⟩
  go_wp2_with fail
  go_ret
  exact ⟨rfl, below_drewN (hb5.alloc hb5.size _) _⟩
end Go.Proofs.Ytjfdkjgmjjfmcaa
