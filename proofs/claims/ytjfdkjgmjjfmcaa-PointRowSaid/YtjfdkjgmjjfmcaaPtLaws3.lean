/- The walks through PointMany and PointTails. -/
import Derived.Test.YtjfdkjgmjjfmcaaPtLaws
namespace Go.Proofs.Ytjfdkjgmjjfmcaa
open Go.RowKit
set_option linter.unusedVariables false

def Pt.many (k : Nat) : List Pt.Point := (List.range k).map fun i => (⟨#[115]⟩, ((i : Nat) : Int), -((i : Nat) : Int))
theorem many_len (k : Nat) : (Pt.many k).length = k := by simp [Pt.many]
theorem many_snoc (k : Nat) : Pt.many (k + 1) = Pt.many k ++ [(⟨#[115]⟩, (k : Int), -(k : Int))] := by simp [Pt.many, List.range_succ]
theorem many_wf (k : Nat) (hk : k ≤ 100) : ∀ p ∈ Pt.many k, Pt.wf p := by
  intro p hp
  unfold Pt.many at hp
  rw [List.mem_map] at hp
  obtain ⟨i, hi, rfl⟩ := hp
  rw [List.mem_range] at hi
  exact ⟨⟨show -9223372036854775808 ≤ (i : Int) by omega, show (i : Int) ≤ 9223372036854775807 by omega⟩, ⟨show -9223372036854775808 ≤ -(i : Int) by omega, show -(i : Int) ≤ 9223372036854775807 by omega⟩⟩
theorem many_batch : ∀ k : Nat, k < 12 → Pt.batchB (Pt.many k) = decide (k ≤ 8) := by decide +kernel
theorem empty_isEmpty : ((⟨#[]⟩ : ByteArray) == ⟨#[]⟩) = true := by decide +kernel

set_option maxRecDepth 100000 in
set_option maxHeartbeats 1600000 in
theorem pointMany_walk (a0 : Int) (w0 : (Lit.int .i64 a0).wf = true) (w : World) :
    Calls Try.prog 20 #[.int .i64 a0] w fun e w' => e = .returned (.bool true) ∧ Below w.heap.size w w' := by
  obtain ⟨i0, hi, hz0, hz1, hz2⟩ := info_parts info_point
  obtain ⟨k, hk, hpick⟩ := pick_of a0 12 (by omega) (by omega)
  rw [show ((12 : Nat) : Int) = 12 from rfl] at hpick
  have hbat := many_batch k hk
  have HB := Lib.hid hbat
  have hlen := many_len k
  have HL := Lib.hid hlen
  clear w0 hbat hlen
  go_enter Try.func20, Try.ntmps20
  go_wp2_with fail
  refine (awake3 _).mono ?_
  rintro e w1 ⟨rfl, hb1⟩
  have Hb1 := Lib.hid hb1
  have hs1 := hb1.size
  clear hb1
  go_wp2_with fail
  simp only [hpick]
  have Hpick := Lib.hid hpick
  clear hpick
  go_loopw [4, 5] (fun v i wr => ∃ j : Nat, j ≤ k ∧ i = .int .i64 (j : Int) ∧ Hid (wr.ownsRow w1.heap.size 85 3 v (Pt.many j).length ((Pt.many j).flatMap pointCells)) ∧ Hid (Below w1.heap.size w1 wr)) (fun _ i _ => k - (intOf i).toNat)
  case atStart => exact ⟨0, Nat.zero_le _, rfl, Lib.hid (own_nil _ _ _ _), Lib.hid (Below.refl _ _)⟩
  case round =>
    obtain ⟨j, hj, rfl, hown, hbw⟩ := hrel
    by_cases hlt : j < k
    · have Hlj := Lib.hid (many_len j)
      have hjl : (Pt.many j).length ≤ 12 := by rw [Hlj.out]; omega
      have hsw := hbw.out.size
      go_wp2_with (at_builtin; refine wpList_push _ rfl _ _ 70 rfl w1.heap.size 85 i0 _ 3 32 Try.underlying70 hi hz0 hz1 hz2 rfl (by decide) _ (Pt.many j).length _ (by rfl) hown.out [.string ⟨#[115]⟩, .int .i64 (j : Int), .int .i64 (-(j : Int))] (by rfl) rfl (by simp [Value.oneCell']) (by unfold maxLen; omega) (by omega) w1 hbw.out hsw ?_; intro v8 w8 hown8 hb8)
      have Hown8 : Hid (w8.ownsRow w1.heap.size 85 3 v8 (Pt.many (j + 1)).length ((Pt.many (j + 1)).flatMap pointCells)) := by
        show World.ownsRow _ _ _ _ _ _ _
        rw [many_snoc, List.length_append, List.flatMap_append]; exact hown8
      have Hb8 := Lib.hid hb8
      clear hown8 hb8 hown hbw
      go_wp2_with fail
      go_roundw
      case rel => exact ⟨j + 1, by omega, by go_num, Hown8, Hb8⟩
      case measure => simp [intOf]; omega
    · obtain rfl : j = k := by omega
      obtain ⟨A, c, rfl, hnc, hrd⟩ := own_slice hown.out
      have hjl : (Pt.many j).length ≤ 12 := by rw [HL.out]; omega
      have hwf := many_wf j (by omega)
      have hsw := hbw.out.size
      have HP := Lib.hid (put_any A c (Pt.many j) wr wr.heap.size hrd (Nat.le_refl _) (by omega) hwf)
      have HBt := fun W (hb : Below wr.heap.size wr W) => Lib.hid (batch_any A c (Pt.many j) W wr.heap.size (hrd.below hb) hb.size (by omega) hwf)
      have HS := fun W (hb : Below wr.heap.size wr W) => Lib.hid (hrd.below hb)
      clear hown hrd hwf
      by_cases h8 : j ≤ 8
      · have hbt : Pt.batchB (Pt.many j) = true := by rw [HB.out]; simp [h8]
        have hps := Pt.ptsL_le hbt
        have Hls : Hid ((Pt.ptsB (Pt.many j)).data.toList = Pt.ptsL (Pt.many j)) := Pt.ptsB_list _
        have hsz := pts_size (Pt.many j)
        have hg := Pt.getPts_put (⟨#[120, 120]⟩ ++ Pt.ptsB (Pt.many j) ++ ⟨#[121]⟩) (Pt.many j) [120, 120] [121] (by rw [Wr.append_list, Wr.append_list, Hls.out]; simp) hbt
        have HG := fun W => Lib.hid (get_any (⟨#[120, 120]⟩ ++ Pt.ptsB (Pt.many j) ++ ⟨#[121]⟩) 2 W (by rw [ByteArray.size_append, ByteArray.size_append, hsz, show (⟨#[120, 120]⟩ : ByteArray).size = 2 from rfl, show (⟨#[121]⟩ : ByteArray).size = 1 from rfl]; omega) (by omega))
        rw [show (([120, 120] : List UInt8).length : Int) = 2 from rfl, ← hsz] at hg
        rw [hg] at HG
        rw [putR_ok hbt] at HP
        rw [hbt] at HBt
        have hss : ((2 + ((Pt.ptsB (Pt.many j)).size : Int)) == 2 + ((Pt.ptsB (Pt.many j)).size : Int)) = true := by simp
        have hsl : (Pt.ptsB (Pt.many j)).size ≤ 300 := by omega
        have h8' : ¬ (8 : Int) < (j : Int) := by omega
        clear hg hbt hps Hls hsz HB
        generalize Pt.ptsB (Pt.many j) = S at *
        generalize Pt.many j = M at *
        go_wp2_with fail
        refine HP.out.mono ?_
        rintro e w2 ⟨rfl, hb2⟩
        have Hb2 := Lib.hid hb2
        clear hb2
        simp only
        go_wp2_with fail
        refine (HG _).out.mono ?_
        rintro e w3 ⟨v3, rfl, hown3, hb3⟩
        obtain ⟨A3, c3, rfl, hnc3, hrd3⟩ := own_slice hown3
        have Hrd3 := Lib.hid hrd3
        have Hb3 : Hid (Below wr.heap.size wr w3) := Hb2.out.trans (hb3.mono Hb2.out.size)
        clear hown3 hrd3 hb3
        go_wp2_with fail
        refine (HBt _ Hb3.out).out.mono ?_
        rintro e w4 ⟨rfl, hb4⟩
        have Hb4 := Lib.hid hb4
        clear hb4
        go_wp2_with fail
        refine (errno_any _ _).mono ?_
        rintro e w' ⟨rfl, rfl⟩
        go_wp2_with fail
        refine (errno_any _ _).mono ?_
        rintro e w' ⟨rfl, rfl⟩
        go_wp2_with fail
        have hb5 : Below wr.heap.size wr w4 := Hb3.out.trans (Hb4.out.mono Hb3.out.size)
        refine (samePoints_true A3 A c3 c M w4 w3.heap.size wr.heap.size (Hrd3.out.below Hb4.out) (HS w4 hb5).out (by omega)).mono ?_
        rintro e w5 ⟨rfl, n5, rfl⟩
        go_wp2_with fail
        go_ret
        exact ⟨rfl, below_drewN (Hb1.out.trans ((hbw.out.mono hs1).trans (hb5.mono (Nat.le_trans hs1 hsw)))) _⟩
      · have hbt : Pt.batchB (Pt.many j) = false := by rw [HB.out]; simp [h8]
        rw [putR_no hbt] at HP
        rw [hbt] at HBt
        have h8' : (8 : Int) < (j : Int) := by omega
        have he := empty_isEmpty
        clear hbt HB
        generalize Pt.many j = M at *
        go_wp2_with fail
        refine HP.out.mono ?_
        rintro e w2 ⟨rfl, hb2⟩
        have Hb2 := Lib.hid hb2
        clear hb2
        simp only
        go_wp2_with fail
        refine (HBt _ Hb2.out).out.mono ?_
        rintro e w4 ⟨rfl, hb4⟩
        have Hb4 := Lib.hid hb4
        clear hb4
        go_wp2_with fail
        refine (errno_any _ _).mono ?_
        rintro e w' ⟨rfl, rfl⟩
        go_wp2_with fail
        go_ret
        exact ⟨rfl, Hb1.out.trans ((hbw.out.mono hs1).trans ((Hb2.out.trans (Hb4.out.mono Hb2.out.size)).mono (Nat.le_trans hs1 hsw)))⟩

theorem pt_wf_of {z : List Pt.Point} (h : ∀ p ∈ z, (Lit.int .i64 p.2.1).wf = true ∧ (Lit.int .i64 p.2.2).wf = true ∧ p.1.size ≤ maxLen) : ∀ p ∈ z, Pt.wf p := fun p hp => ⟨wf_int (h p hp).1, wf_int (h p hp).2.1⟩

set_option maxRecDepth 100000 in
set_option maxHeartbeats 1600000 in
theorem pointTails_walk {w : World} (A0 : Option Addr) (c0 : Nat) (z0 : List Pt.Point) (a1 : ByteArray) (a2 : Int) (rd0 : Reads w w.heap.size 3 A0 z0.length (z0.flatMap pointCells)) (wf0 : ∀ p ∈ z0, (Lit.int .i64 p.2.1).wf = true ∧ (Lit.int .i64 p.2.2).wf = true ∧ p.1.size ≤ maxLen) (nb0 : z0.length * 32 ≤ 140737488351232) (b1 : a1.size ≤ 140737488351232) (w2 : (Lit.int .i64 a2).wf = true) :
    Calls Try.prog 21 #[.slice A0 z0.length c0, .string a1, .int .i64 a2] w fun e w' => e = .returned (.bool true) ∧ Below w.heap.size w w' := by
  have hwf := pt_wf_of wf0
  have HP := fun W (hb : Below w.heap.size w W) => Lib.hid (put_any A0 c0 z0 W w.heap.size (rd0.below hb) hb.size (by omega) hwf)
  have HBt := fun W (hb : Below w.heap.size w W) => Lib.hid (batch_any A0 c0 z0 W w.heap.size (rd0.below hb) hb.size (by omega) hwf)
  have HS := fun W (hb : Below w.heap.size w W) => Lib.hid (rd0.below hb)
  clear wf0 hwf rd0 w2
  cases hbt : Pt.batchB z0
  · rw [hbt] at HBt
    rw [putR_no hbt] at HP
    have he := empty_isEmpty
    clear hbt
    go_enter Try.func21, Try.ntmps21
    go_wp2_with fail
    refine (awake3 _).mono ?_
    rintro e w1 ⟨rfl, hb1⟩
    have Hb1 := Lib.hid hb1
    clear hb1
    go_wp2_with fail
    refine (HP _ Hb1.out).out.mono ?_
    rintro e w2 ⟨rfl, hb2⟩
    have Hb2 : Hid (Below w.heap.size w w2) := Hb1.out.trans (hb2.mono Hb1.out.size)
    clear hb2
    simp only
    go_wp2_with fail
    refine (errno_any _ _).mono ?_
    rintro e w' ⟨rfl, rfl⟩
    go_wp2_with fail
    refine (HBt _ Hb2.out).out.mono ?_
    rintro e w3 ⟨rfl, hb3⟩
    have Hb3 : Hid (Below w.heap.size w w3) := Hb2.out.trans (hb3.mono Hb2.out.size)
    clear hb3
    go_wp2_with fail
    go_ret
    exact ⟨rfl, Hb3.out⟩
  · have hps := Pt.ptsL_le hbt
    have h8 := Pt.batch_len hbt
    have hpos : 0 < (Pt.ptsL z0).length := by rcases Pt.ptsL_pos z0 with h | h <;> omega
    have Hls := Pt.ptsB_list z0
    have hsz := pts_size z0
    obtain ⟨k, hk, hpick⟩ := pick_of a2 (Pt.ptsB z0).size (by omega) (by omega)
    have hg := Pt.getPts_put (Pt.ptsB z0 ++ a1) z0 [] a1.data.toList (by rw [Wr.append_list, Hls]; simp) hbt
    have hg2 := Pt.getPts_cut ((Pt.ptsB z0).extract 0 k) z0 k (by rw [Lib.extract_data, Hls]; simp) hbt (by omega)
    have hg3 := Pt.getPts_out (Pt.ptsB z0) ((Pt.ptsB z0).size + 1) (.inr (by omega))
    have HG := fun W => Lib.hid (get_any (Pt.ptsB z0 ++ a1) 0 W (by rw [ByteArray.size_append]; omega) (by omega))
    have HG2 := fun W => Lib.hid (get_any ((Pt.ptsB z0).extract 0 k) 0 W (by rw [ByteArray.size_extract]; omega) (by omega))
    have HG3 := fun W => Lib.hid (get_any (Pt.ptsB z0) ((Pt.ptsB z0).size + 1) W (by omega) (by omega))
    rw [show (([] : List UInt8).length : Int) = 0 from rfl, ← hsz, Int.zero_add] at hg
    rw [hg] at HG
    rw [hg2] at HG2
    rw [hg3] at HG3
    rw [putR_ok hbt] at HP
    have hss : (((Pt.ptsB z0).size : Int) == ((Pt.ptsB z0).size : Int)) = true := by simp
    have hne := nonempty_of (s := Pt.ptsB z0) (by omega)
    have hsl : (Pt.ptsB z0).size ≤ 300 := by omega
    have hsp : 0 < (Pt.ptsB z0).size := by omega
    clear hg hg2 hg3 hbt hps Hls hsz hpos
    generalize Pt.ptsB z0 = S at *
    go_enter Try.func21, Try.ntmps21
    go_wp2_with fail
    refine (awake3 _).mono ?_
    rintro e w1 ⟨rfl, hb1⟩
    have Hb1 := Lib.hid hb1
    clear hb1
    go_wp2_with fail
    refine (HP _ Hb1.out).out.mono ?_
    rintro e w2 ⟨rfl, hb2⟩
    have Hb2 : Hid (Below w.heap.size w w2) := Hb1.out.trans (hb2.mono Hb1.out.size)
    clear hb2
    simp only
    go_wp2_with fail
    refine (errno_any _ _).mono ?_
    rintro e w' ⟨rfl, rfl⟩
    go_wp2_with fail
    refine (HG _).out.mono ?_
    rintro e w3 ⟨v3, rfl, hown3, hb3⟩
    obtain ⟨A3, c3, rfl, hnc3, hrd3⟩ := own_slice hown3
    have Hrd3 := Lib.hid hrd3
    have Hb3 : Hid (Below w.heap.size w w3) := Hb2.out.trans (hb3.mono Hb2.out.size)
    clear hown3 hrd3 hb3
    go_wp2_with fail
    refine (HG2 _).out.mono ?_
    rintro e w4 ⟨v4, rfl, hown4, hb4⟩
    obtain ⟨A4, c4, rfl, hnc4, _⟩ := own_slice hown4
    have Hb4 := Lib.hid hb4
    clear hown4 hb4
    go_wp2_with fail
    refine (HG3 _).out.mono ?_
    rintro e w5 ⟨v5, rfl, hown5, hb5⟩
    obtain ⟨A5, c5, rfl, hnc5, _⟩ := own_slice hown5
    have Hb5 : Hid (Below w3.heap.size w3 w5) := Hb4.out.trans (hb5.mono Hb4.out.size)
    clear hown5 hb5
    go_wp2_with fail
    refine (errno_any _ _).mono ?_
    rintro e w' ⟨rfl, rfl⟩
    go_wp2_with fail
    have hb6 : Below w.heap.size w w5 := Hb3.out.trans (Hb5.out.mono Hb3.out.size)
    refine (samePoints_true A3 A0 c3 c0 z0 w5 w3.heap.size w.heap.size (Hrd3.out.below Hb5.out) (HS w5 hb6).out (by omega)).mono ?_
    rintro e w6 ⟨rfl, n6, rfl⟩
    go_wp2_with fail
    refine (errno_any _ _).mono ?_
    rintro e w' ⟨rfl, rfl⟩
    go_wp2_with fail
    refine (errno_any _ _).mono ?_
    rintro e w' ⟨rfl, rfl⟩
    go_wp2_with fail
    go_ret
    exact ⟨rfl, below_drewN hb6 _⟩
end Go.Proofs.Ytjfdkjgmjjfmcaa
