/- The walks through the laws of cachetlaw19. -/
import Derived.Test.YtjfdkjgmjjfmcaaDigAwake
namespace Go.Proofs.Ytjfdkjgmjjfmcaa
open Go.RowKit
set_option linter.unusedVariables false

theorem sameSums_true' (A B : Option Addr) (c d : Nat) (xs : List ByteArray) (w : World) (b1 b2 : Nat) (hr : Reads w b1 1 A xs.length (xs.map hv)) (hq : Reads w b2 1 B xs.length (xs.map hv)) (hn : xs.length ≤ 140737488355328) :
    Calls Try.prog 33 #[.slice A xs.length c, .slice B xs.length d] w fun e w' => e = .returned (.bool true) ∧ ∃ n, w' = w.drewN n := by
  have e : xs.map hv = (xs.map fun s => ((Sm.hashL s.data.toList : Nat) : Int)).map (Value.int .u64) := by rw [List.map_map]; rfl
  have := sameSums_true A B c d (xs.map fun s => ((Sm.hashL s.data.toList : Nat) : Int)) w b1 b2 (by rw [List.length_map, ← e]; exact hr) (by rw [List.length_map, ← e]; exact hq) (by rwa [List.length_map])
  rwa [List.length_map] at this

set_option maxRecDepth 100000 in
set_option maxHeartbeats 400000 in
theorem digestRots_walk (A0 : Option Addr) (c0 : Nat) (z0 : List (Int × ByteArray)) (A1 : Option Addr) (c1 : Nat) (z1 : List Int) (w : World)
    (rd0 : Reads w w.heap.size 2 A0 z0.length (z0.flatMap fileCells)) (wf0 : ∀ f ∈ z0, (Lit.int .i64 f.1).wf = true ∧ f.2.size ≤ maxLen) (nb0 : z0.length * 24 ≤ 140737488351232)
    (rd1 : Reads w w.heap.size 1 A1 z1.length (z1.map (.int .u64))) (wf1 : ∀ n ∈ z1, (Lit.int .u64 n).wf = true) (nb1 : z1.length * 8 ≤ 140737488351232) :
    Calls Try.prog 8 #[.slice A0 z0.length c0, .slice A1 z1.length c1] w fun e w' => e = .returned (.bool true) ∧ Below w.heap.size w w' := by
  have Hs : Hid (∀ f ∈ z0, f.2.size ≤ maxLen) := fun f hf => (wf0 f hf).2
  clear wf0 wf1
  have hlen : (z0.flatMap fileCells).length = z0.length * 2 := flat_length fileCells 2 (fun _ => rfl) z0
  have Hlen := Lib.hid hlen
  clear hlen
  go_enter Try.func8, Try.ntmps8
  go_wp2_with fail
  refine (lendFiles_any A0 c0 z0 w _ rd0 (Nat.le_refl _) nb0).mono ?_
  rintro e w1 ⟨g, cap, rfl, hg, hcap, hmax, hown1, hb1⟩
  have hq1 := Reads.of_own hown1
  have hr1 := hq1.head Hlen.out
  clear hown1
  go_wp2_with fail
  refine (rot_any _ A1 cap c1 z0 z1 w1 hr1 ((rd1.below hb1).more hb1.size) Hs.out (by omega) (by omega)).mono ?_
  rintro e w2 ⟨v2, rfl, hown2, hb2⟩
  obtain ⟨A2, d2, hv2, _, hr2⟩ := own_slice hown2
  subst hv2
  have hb12 : Below w.heap.size w w2 := hb1.trans (hb2.mono hb1.size)
  clear hown2
  go_wp2_with fail
  refine (rrot_any A0 A1 c0 c1 z0 z1 w2 ((rd0.below hb12).more hb12.size) ((rd1.below hb12).more hb12.size) Hs.out (by omega) (by omega)).mono ?_
  rintro e w3 ⟨v3, rfl, hown3, hb3⟩
  obtain ⟨A3, d3, hv3, _, hr3⟩ := own_slice hown3
  subst hv3
  have hb13 : Below w.heap.size w w3 := hb12.trans (hb3.mono hb12.size)
  clear hown3
  have hle : (rotL z0 z1).length ≤ z0.length := by have := rotL_le z0 z1 z0.length (Nat.le_refl _); rwa [List.take_length] at this
  go_wp2_with fail
  refine (sameInts_true A2 A3 d2 d3 (rotL z0 z1) w3 _ _ (hr2.below hb3) hr3 (by omega)).mono ?_
  rintro e w' ⟨rfl, n4, rfl⟩
  go_wp2_with fail
  refine (keptFiles_true A0 g c0 cap z0 (w3.drewN n4) _ _ (((hq1.below hb2).below (hb3.mono hb2.size)).drewN n4) ((rd0.below hb13).drewN n4) hcap (by omega)).mono ?_
  rintro e w' ⟨rfl, n5, rfl⟩
  go_wp2_with fail
  refine (awake19 _).mono ?_
  rintro e w6 ⟨rfl, hb6⟩
  go_wp2_with fail
  go_ret
  exact ⟨rfl, (below_drewN hb13 _).trans (hb6.mono hb13.size)⟩

set_option maxRecDepth 100000 in
set_option maxHeartbeats 400000 in
theorem digestLists_walk (A0 : Option Addr) (c0 : Nat) (z0 : List ByteArray) (A1 : Option Addr) (c1 : Nat) (z1 : List Int) (A2 : Option Addr) (c2 : Nat) (z2 : List Int) (a3 : ByteArray)
    (w : World) (rd0 : Reads w w.heap.size 1 A0 z0.length (z0.map .string)) (wf0 : ∀ s ∈ z0, s.size ≤ maxLen) (nb0 : z0.length * 16 ≤ 140737488351232)
    (rd1 : Reads w w.heap.size 1 A1 z1.length (z1.map (.int .u64))) (wf1 : ∀ n ∈ z1, (Lit.int .u64 n).wf = true) (nb1 : z1.length * 8 ≤ 140737488351232)
    (rd2 : Reads w w.heap.size 1 A2 z2.length (z2.map (.int .u64))) (wf2 : ∀ n ∈ z2, (Lit.int .u64 n).wf = true) (nb2 : z2.length * 8 ≤ 140737488351232) (b3 : a3.size ≤ 140737488351232) :
    Calls Try.prog 7 #[.slice A0 z0.length c0, .slice A1 z1.length c1, .slice A2 z2.length c2, .string a3] w fun e w' => e = .returned (.bool true) ∧ Below w.heap.size w w' := by
  have m3 := max_of_reach b3
  have Hs := Lib.hid wf0
  clear wf0 wf1 wf2 b3
  go_enter Try.func7, Try.ntmps7
  go_wp2_with fail
  refine (lendTexts_any A0 c0 z0 w _ rd0 (Nat.le_refl _) nb0).mono ?_
  rintro e w1 ⟨g, cap, rfl, hg, hcap, hmax, hown1, hb1⟩
  have hq1 := Reads.of_own hown1
  have hr1 := hq1.head (by simp)
  clear hown1
  go_wp2_with fail
  refine (of_any _ cap z0 w1 hr1 Hs.out (by omega)).mono ?_
  rintro e w2 ⟨v2, rfl, hown2, hb2⟩
  obtain ⟨B2, d2, hv2, _, hr2⟩ := own_slice hown2
  subst hv2
  have hb12 : Below w.heap.size w w2 := hb1.trans (hb2.mono hb1.size)
  clear hown2
  go_wp2_with fail
  refine (rof_any A0 c0 z0 w2 ((rd0.below hb12).more hb12.size) Hs.out (by omega)).mono ?_
  rintro e w3 ⟨v3, rfl, hown3, hb3⟩
  obtain ⟨B3, d3, hv3, _, hr3⟩ := own_slice hown3
  subst hv3
  have hb13 : Below w.heap.size w w3 := hb12.trans (hb3.mono hb12.size)
  clear hown3
  go_wp2_with fail
  refine (sameSums_true' B2 B3 d2 d3 z0 w3 _ _ (hr2.below hb3) hr3 (by omega)).mono ?_
  rintro e w' ⟨rfl, n4, rfl⟩
  have hb14 := below_drewN hb13 n4
  have hq4 := ((hq1.below hb2).below (hb3.mono hb2.size)).drewN n4
  have hs4 : w1.heap.size ≤ (w3.drewN n4).heap.size := Nat.le_trans hb2.size hb3.size
  go_wp2_with fail
  generalize w3.drewN n4 = w4 at *
  refine (differ_any A1 A2 c1 c2 z1 z2 w4 ((rd1.below hb14).more hb14.size) ((rd2.below hb14).more hb14.size) (by omega) (by omega)).mono ?_
  rintro e w5 ⟨v5, rfl, hown5, hb5⟩
  obtain ⟨B5, d5, hv5, _, hr5⟩ := own_slice hown5
  subst hv5
  have hb15 : Below w.heap.size w w5 := hb14.trans (hb5.mono hb14.size)
  clear hown5
  go_wp2_with fail
  refine (rdiffer_any A1 A2 c1 c2 z1 z2 w5 ((rd1.below hb15).more hb15.size) ((rd2.below hb15).more hb15.size) (by omega) (by omega)).mono ?_
  rintro e w6 ⟨v6, rfl, hown6, hb6⟩
  obtain ⟨B6, d6, hv6, _, hr6⟩ := own_slice hown6
  subst hv6
  have hb16 : Below w.heap.size w w6 := hb15.trans (hb6.mono hb15.size)
  clear hown6
  have hle := diffTo_le z1 z2 (min z1.length z2.length)
  have hle2 : min z1.length z2.length ≤ z1.length := Nat.min_le_left _ _
  go_wp2_with fail
  refine (sameInts_true B5 B6 d5 d6 _ w6 _ _ (hr5.below hb6) hr6 (by omega)).mono ?_
  rintro e w' ⟨rfl, n7, rfl⟩
  go_wp2_with fail
  refine (keptTexts_true A0 g c0 cap z0 (w6.drewN n7) _ _ (((hq4.below (hb5.mono hs4)).below (hb6.mono (Nat.le_trans hs4 hb5.size))).drewN n7) ((rd0.below hb16).drewN n7) hcap (by omega)).mono ?_
  rintro e w' ⟨rfl, n8, rfl⟩
  have hb18 : Below w.heap.size w ((w6.drewN n7).drewN n8) := below_drewN (below_drewN hb16 _) _
  clear hr5 hr6 hq4 hr2 hr3 hle hle2 hb16 hb15 hb14
  generalize (w6.drewN n7).drewN n8 = w8 at *
  by_cases h0 : 0 < z1.length
  · obtain ⟨b, off, rfl, hbl, hc⟩ := (rd1.below hb18).2 h0
    have hcell := hc 0 (.int .u64 z1[0]) (by simp [h0])
    rw [Nat.add_zero] at hcell
    clear hc rd1 rd0 rd2
    go_wp2_with fail
    go_quiet ((first | (go_at_call 40; exact quiet_left (good_any _ _ _ m3)) | (go_at_call 25; exact quiet_left (rhash_any _ _ m3))))
    go_wp2_with fail
    refine (rhash_any _ _ m3).mono ?_
    rintro e w' ⟨rfl, rfl⟩
    go_wp2_with fail
    refine (good_true _ _ _ m3 rfl).mono ?_
    rintro e w' ⟨rfl, rfl⟩
    go_wp2_with fail
    refine (awake19 _).mono ?_
    rintro e w9 ⟨rfl, hb9⟩
    go_wp2_with fail
    go_ret
    exact ⟨rfl, (below_drewN hb18 _).trans (hb9.mono hb18.size)⟩
  · clear rd1 rd0 rd2
    go_wp2_with fail
    refine (rhash_any _ _ m3).mono ?_
    rintro e w' ⟨rfl, rfl⟩
    go_wp2_with fail
    refine (good_true _ _ _ m3 rfl).mono ?_
    rintro e w' ⟨rfl, rfl⟩
    go_wp2_with fail
    refine (awake19 _).mono ?_
    rintro e w9 ⟨rfl, hb9⟩
    go_wp2_with fail
    go_ret
    exact ⟨rfl, hb18.trans (hb9.mono hb18.size)⟩
end Go.Proofs.Ytjfdkjgmjjfmcaa
