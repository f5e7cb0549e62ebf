/- The walk through DigestGaps. -/
import Derived.Test.YtjfdkjgmjjfmcaaDigLaws2
namespace Go.Proofs.Ytjfdkjgmjjfmcaa
open Go.RowKit
set_option linter.unusedVariables false

def xT : ByteArray := ⟨#[120]⟩
theorem hx_ne_0 : hI xT ≠ 0 := by
  have : Sm.hashL [120] ≠ 0 := by decide +kernel
  intro h; unfold hI xT at h
  have h2 : Sm.hashL [120] = 0 := by
    have : ((Sm.hashL [120] : Nat) : Int) = 0 := h
    omega
  exact this h2
def inK (k : Nat) (r : Int) : Bool := decide (1 ≤ r) && decide (r ≤ (k : Int))
theorem rotten_zero (k : Nat) (r : Int) : rotten (List.replicate k 0) (r, xT) = inK k r := by
  unfold rotten inK
  have h0 : (List.replicate k (0 : Int)).getD (r - 1).toNat 0 = 0 := by
    rw [List.getD_eq_getElem?_getD, List.getElem?_replicate]; split <;> rfl
  have h1 : (((Sm.hashL xT.data.toList : Nat) : Int) == 0) = false := by have := hx_ne_0; simpa [hI] using this
  rw [h0, h1, List.length_replicate]
  simp
theorem rotL_zero (k : Nat) (rs : List Int) : rotL (rs.map fun r => (r, xT)) (List.replicate k 0) = rs.filter (inK k) := by
  unfold rotL
  induction rs with
  | nil => rfl
  | cons r rs ih =>
    rw [List.map_cons, List.filter_cons, rotten_zero, List.filter_cons]
    split
    · rw [List.map_cons, ih]
    · exact ih
/-- the cells that make([]uint64, k) lays -/
def zeros (k : Nat) : Array Value := madeCells (Value.int .u64 0).cells (k * 1)
theorem zeros_list (k : Nat) : zeros k = ((List.replicate k (0 : Int)).map (Value.int .u64)).toArray := by
  apply Array.ext'
  apply List.ext_getElem?
  intro i
  simp [zeros, madeCells, Value.cells, Nat.mod_one]
  by_cases h : i < k <;> simp [h]

set_option maxRecDepth 100000 in
set_option maxHeartbeats 800000 in
theorem digestGaps_walk (A0 : Option Addr) (c0 : Nat) (z0 : List Int) (a1 : Int)
    (w : World) (rd0 : Reads w w.heap.size 1 A0 z0.length (z0.map (.int .i64))) (wf0 : ∀ n ∈ z0, (Lit.int .i64 n).wf = true) (nb0 : z0.length * 8 ≤ 140737488351232) (w1 : (Lit.int .i64 a1).wf = true) :
    Calls Try.prog 11 #[.slice A0 z0.length c0, .int .i64 a1] w fun e w' => e = .returned (.bool true) ∧ Below w.heap.size w w' := by
  obtain ⟨iF, hiF, hzF0, hzF1, hzF2⟩ := info_parts info_copyFiles
  obtain ⟨iI, hiI, hzI0, hzI1, hzI2⟩ := info_parts info_int
  obtain ⟨iU, hiU, hzU0, hzU1, hzU2⟩ := info_parts info_u64
  obtain ⟨k, hk7, hk⟩ := and_low a1 7 (by omega)
  rw [show ((7 : Nat) : Int) = 7 from rfl] at hk
  have hmk := fun W : World => run_make_rowN (P := Try.prog) 37 22 iU _ Try.underlying37 hiU hzU0 .i64 .i64 k k (Nat.le_refl _) (by rw [hzU2]; omega) (by omega) W
  rw [hzU1] at hmk
  have hmk2 : ∀ W : World, (Instr.makeSlice 37 (.int .i64 (k : Int)) (.int .i64 (k : Int))).run Try.prog W = .ok (.slice (some ⟨W.heap.size, 0, none⟩) k k) (W.alloc (.cells (zeros k) 22)) := hmk
  clear hmk
  clear wf0 w1 hzU0 hzU1 hzU2 hiU
  go_enter Try.func11, Try.ntmps11
  go_wp2_with fail
  refine (awake19 _).mono ?_
  rintro e w1 ⟨rfl, hb1⟩
  go_wp2_with fail
  have hb2 : Below w.heap.size w (w1.alloc (.cells (zeros k) 22)) := hb1.alloc hb1.size _
  have hr2 : Reads (w1.alloc (.cells (zeros k) 22)) (w1.heap.size + 1) 1 (some ⟨w1.heap.size, 0, none⟩) (List.replicate k (0 : Int)).length ((List.replicate k (0 : Int)).map (.int .u64)) := by
    rw [zeros_list]
    exact Reads.new w1 22 1 _ _ (by simp)
  have hsz2 : (w1.alloc (.cells (zeros k) 22)).heap.size = w1.heap.size + 1 := by simp
  clear hmk2
  generalize hW2 : (w1.alloc (.cells (zeros k) 22)) = w2 at *
  clear hW2
  have hsz2' : w1.heap.size + 1 ≤ w2.heap.size := by omega
  have HL := Lib.hid (List.length_replicate (n := k) (a := (0 : Int)))
  clear hsz2
  go_loopw [7, 8, 9] (fun f t i wr => ∃ (n : Nat) (rs : List Int), n ≤ z0.length ∧ n ≤ 20 ∧ rs.length = n ∧ i = .int .i64 (n : Int) ∧ wr.ownsRow w2.heap.size 52 2 f n ((rs.map fun r => (r, xT)).flatMap fileCells) ∧
      wr.ownsRow w2.heap.size 3 1 t (rs.filter (inK k)).length ((rs.filter (inK k)).map (.int .i64)) ∧ Below w2.heap.size w2 wr) (fun _ _ i _ => 20 - (intOf i).toNat)
  case atStart => exact ⟨0, [], by omega, by omega, rfl, rfl, own_nil _ _ _ _, own_nil _ _ _ _, Below.refl _ _⟩
  case round =>
    obtain ⟨n, rs, hn, hn20, hrl, rfl, hof, hot, hbr⟩ := hrel
    have hbw : Below w.heap.size w wr := hb2.trans (hbr.mono hb2.size)
    have hfl : (rs.filter (inK k)).length ≤ n := by have := List.length_filter_le (inK k) rs; omega
    have Hrl := Lib.hid hrl
    clear hrl
    by_cases hlt : n < z0.length ∧ n < 20
    · obtain ⟨hlt, hlt20⟩ := hlt
      obtain ⟨b, off, rfl, hbl, hc⟩ := (rd0.below hbw).2 (by omega)
      have hcell := hc n (.int .i64 z0[n]) (by simp [hlt])
      clear hc rd0
      generalize hr : z0[n].tmod 12 = r
      have Hr := Lib.hid hr
      by_cases hin : 1 ≤ r ∧ r ≤ (k : Int)
      · obtain ⟨h1, h2⟩ := hin
        have hin : inK k r = true := by simp [inK, h1, h2]
        have Hin := Lib.hid hin
        clear hin
        go_wp2_with (first | (at_builtin; refine wpList_push_beside wr rfl _ _ 46 rfl w2.heap.size 52 iF _ 2 24 Try.underlying46 hiF hzF0 hzF1 hzF2 rfl (by decide) _ n _ (by rfl) hof [.int .i64 r, .string xT] (by rfl) rfl (by simp [Value.oneCell']) (by unfold maxLen; omega) (by omega) w2 hbr hbr.size ?_; intro v3 w3 hof3 hb3 hgr3; have hot3 := own_beside hot hof (by decide) hgr3; clear hgr3) | (at_builtin; refine wpList_push_beside w3 rfl _ _ 42 rfl w2.heap.size 3 iI _ 1 8 Try.underlying42 hiI hzI0 hzI1 hzI2 rfl (by decide) _ (rs.filter (inK k)).length _ (by rfl) hot3 [.int .i64 r] (by rfl) rfl (by simp [Value.oneCell']) (by unfold maxLen; omega) (by omega) w2 hb3 hb3.size ?_; intro v4 w4 hot4 hb4 hgr4; have hof4 := own_beside hof3 hot3 (by decide) hgr4; clear hgr4))
        go_roundw
        case rel => exact ⟨n + 1, rs ++ [r], by omega, by omega, by rw [List.length_append, Hrl.out]; rfl, by go_num, by rw [List.map_append, List.flatMap_append]; exact hof4, by rw [List.filter_append, List.filter_cons, Hin.out]; simpa using hot4, hb4⟩
        case measure => simp [intOf]; omega
      · have hin : inK k r = false := by
          unfold inK
          by_cases h1 : 1 ≤ r
          · have : ¬ r ≤ (k : Int) := fun h2 => hin ⟨h1, h2⟩
            simp [this]
          · simp [h1]
        rename_i hin'
        have Hin := Lib.hid hin
        clear hin
        by_cases h1 : 1 ≤ r
        · have h2 : ¬ r ≤ (k : Int) := fun h2 => hin' ⟨h1, h2⟩
          clear hin'
          go_wp2_with (at_builtin; refine wpList_push_beside wr rfl _ _ 46 rfl w2.heap.size 52 iF _ 2 24 Try.underlying46 hiF hzF0 hzF1 hzF2 rfl (by decide) _ n _ (by rfl) hof [.int .i64 r, .string xT] (by rfl) rfl (by simp [Value.oneCell']) (by unfold maxLen; omega) (by omega) w2 hbr hbr.size ?_; intro v3 w3 hof3 hb3 hgr3; have hot3 := own_beside hot hof (by decide) hgr3; clear hgr3)
          go_roundw
          case rel => exact ⟨n + 1, rs ++ [r], by omega, by omega, by rw [List.length_append, Hrl.out]; rfl, by go_num, by rw [List.map_append, List.flatMap_append]; exact hof3, by rw [List.filter_append, List.filter_cons, Hin.out]; simpa using hot3, hb3⟩
          case measure => simp [intOf]; omega
        · clear hin'
          go_wp2_with (at_builtin; refine wpList_push_beside wr rfl _ _ 46 rfl w2.heap.size 52 iF _ 2 24 Try.underlying46 hiF hzF0 hzF1 hzF2 rfl (by decide) _ n _ (by rfl) hof [.int .i64 r, .string xT] (by rfl) rfl (by simp [Value.oneCell']) (by unfold maxLen; omega) (by omega) w2 hbr hbr.size ?_; intro v3 w3 hof3 hb3 hgr3; have hot3 := own_beside hot hof (by decide) hgr3; clear hgr3)
          go_roundw
          case rel => exact ⟨n + 1, rs ++ [r], by omega, by omega, by rw [List.length_append, Hrl.out]; rfl, by go_num, by rw [List.map_append, List.flatMap_append]; exact hof3, by rw [List.filter_append, List.filter_cons, Hin.out]; simpa using hot3, hb3⟩
          case measure => simp [intOf]; omega
    · have hle : z0.length ≤ n ∨ 20 ≤ n := by omega
      clear rd0
      have hff : ((rs.map fun r => (r, xT)).flatMap fileCells).length = rs.length * 2 := by rw [flat_length fileCells 2 (fun _ => rfl)]; simp
      obtain ⟨Af, cf, hvf, _, hrf⟩ := own_slice hof
      subst hvf
      obtain ⟨At, ct, hvt, _, hrt⟩ := own_slice hot
      subst hvt
      have hq := hr2.below (hbr.mono hsz2')
      have hlm : (rs.map fun r => (r, xT)).length = n := by rw [List.length_map, Hrl.out]
      rw [← hlm] at hrf
      have hcall := rot_any Af (some ⟨w1.heap.size, 0, none⟩) cf k (rs.map fun r => (r, xT)) (List.replicate k 0) wr hrf (hq.more (Nat.le_trans hsz2' hbr.size)) (by intro f hf; simp only [List.mem_map] at hf; obtain ⟨r, _, rfl⟩ := hf; exact (by decide : xT.size ≤ maxLen)) (by omega) (by rw [HL.out]; omega)
      rw [rotL_zero, HL.out, hlm] at hcall
      have Hcall := Lib.hid hcall
      clear hcall hlm hff hof hot hq hr2
      rcases hle with hle | hle
      · go_wp2_with fail
        refine Hcall.out.mono ?_
        rintro e w5 ⟨v5, rfl, hown5, hb5⟩
        obtain ⟨A5, c5, hv5, _, hr5⟩ := own_slice hown5
        subst hv5
        clear Hcall hown5
        go_wp2_with fail
        refine (sameInts_true A5 At c5 ct _ w5 _ _ hr5 (hrt.below hb5) (by omega)).mono ?_
        rintro e w' ⟨rfl, n6, rfl⟩
        go_wp2_with fail
        refine (num_any _ _).mono ?_
        rintro e w' ⟨rfl, rfl⟩
        go_wp2_with fail
        go_ret
        exact ⟨rfl, below_drewN (hbw.trans (hb5.mono hbw.size)) _⟩
      · by_cases hlt' : n < z0.length
        all_goals
          go_wp2_with fail
          refine Hcall.out.mono ?_
          rintro e w5 ⟨v5, rfl, hown5, hb5⟩
          obtain ⟨A5, c5, hv5, _, hr5⟩ := own_slice hown5
          subst hv5
          clear Hcall hown5
          go_wp2_with fail
          refine (sameInts_true A5 At c5 ct _ w5 _ _ hr5 (hrt.below hb5) (by omega)).mono ?_
          rintro e w' ⟨rfl, n6, rfl⟩
          go_wp2_with fail
          refine (num_any _ _).mono ?_
          rintro e w' ⟨rfl, rfl⟩
          go_wp2_with fail
          go_ret
          exact ⟨rfl, below_drewN (hbw.trans (hb5.mono hbw.size)) _⟩
end Go.Proofs.Ytjfdkjgmjjfmcaa
