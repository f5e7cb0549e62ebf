/- The walks through SegmentPuts, SegmentGets and SegmentRanges. -/
import Derived.Test.YthpnhodpfhagaaaSgLaws
import Derived.Test.YthpnhodpfhagaaaSpoilPts
namespace Go.Proofs.Ythpnhodpfhagaaa
open Go.RowKit
set_option linter.unusedVariables false

theorem sg_wf_of {z : List Pt.Point} (h : ∀ p ∈ z, (Lit.int .i64 p.2.1).wf = true ∧ (Lit.int .i64 p.2.2).wf = true ∧ p.1.size ≤ maxLen) : ∀ p ∈ z, Pt.wf p := fun p hp => ⟨wf_int (h p hp).1, wf_int (h p hp).2.1⟩
theorem sg_sz_of {z : List Pt.Point} (h : ∀ p ∈ z, (Lit.int .i64 p.2.1).wf = true ∧ (Lit.int .i64 p.2.2).wf = true ∧ p.1.size ≤ maxLen) : ∀ p ∈ z, p.1.size ≤ 9223372036854775807 := fun p hp => (h p hp).2.2
theorem getR_len (s : ByteArray) : (Sg.getR s).2.1.length ≤ 64 := by
  unfold Sg.getR
  split
  · simp
  · split
    · simp
    · split
      · simp
      · rename_i hc
        rw [Bool.not_eq_false] at hc
        show (Sg.colsR _).2.1.length ≤ 64
        have key : ∀ t, (Sg.colsR t).2.2 = true → (Sg.colsR t).2.1.length ≤ 64 := by
          intro t
          unfold Sg.colsR
          split
          · simp
          · split
            · simp
            · exact fun h => rise_len h
        exact key _ hc
set_option maxRecDepth 100000 in
set_option maxHeartbeats 2000000 in
theorem segmentPuts_walk {w : World} (a0 : Int) (A1 : Option Addr) (c1 : Nat) (z1 : List Pt.Point) (w0 : (Lit.int .i64 a0).wf = true) (rd1 : Reads w w.heap.size 3 A1 z1.length (z1.flatMap pointCells)) (wf1 : ∀ p ∈ z1, (Lit.int .i64 p.2.1).wf = true ∧ (Lit.int .i64 p.2.2).wf = true ∧ p.1.size ≤ maxLen) (nb1 : z1.length * 32 ≤ 140737488351232) :
    Calls Try.prog 9 #[.int .i64 a0, .slice A1 z1.length c1] w fun e w' => e = .returned (.bool true) ∧ Below w.heap.size w w' := by
  have hwf := sg_wf_of wf1
  have hsz := sg_sz_of wf1
  have HLd := Lib.hid (lendPoints_any A1 c1 z1 w w.heap.size rd1 (Nat.le_refl _) nb1)
  have HRp := fun W (hb : Below w.heap.size w W) => Lib.hid (rsgput_any a0 A1 c1 z1 W w.heap.size (rd1.below hb) hb.size (by omega) hwf hsz)
  have HPg := fun g cap (W : World) (hr : Reads W W.heap.size 3 (some ⟨g, 0, none⟩) z1.length (z1.flatMap pointCells)) => Lib.hid (sgput_any a0 (some ⟨g, 0, none⟩) cap z1 W W.heap.size hr (Nat.le_refl _) (by omega) hwf)
  have Hrd1 := Lib.hid rd1
  generalize Sg.putR a0 z1 = X at *
  obtain ⟨S, E⟩ := X
  have hee : (E == E) = true := by simp
  clear wf1 hwf hsz rd1 w0
  go_enter Try.func9, Try.ntmps9
  go_wp2_with fail
  refine HLd.out.mono ?_
  rintro e w1 ⟨g, cap, rfl, hg, hcap, hmax, hown1, hb1⟩
  have hrX := Reads.of_own hown1
  have hrH := hrX.head (xs := z1.flatMap pointCells) (ys := roomPoints) (flat_length pointCells 3 (fun _ => rfl) z1)
  have HP := HPg g cap w1 hrH
  have HK := fun W (hx : Below w1.heap.size w1 W) (hw : Below w.heap.size w W) => Lib.hid (keptPoints_true A1 g c1 cap z1 W w1.heap.size w.heap.size (hrX.below hx) (Hrd1.out.below hw) hcap (by omega))
  have Hb1 := Lib.hid hb1
  have hs1 := hb1.size
  clear hown1 hb1 hrX hrH HLd Hrd1 hg hmax HPg
  go_wp2_with fail
  refine HP.out.mono ?_
  rintro e w2 ⟨rfl, hb2⟩
  have Hb2 := Lib.hid hb2
  clear hb2
  simp only
  go_wp2_with fail
  refine (HRp w2 (Hb1.out.trans (Hb2.out.mono hs1))).out.mono ?_
  rintro e w3 ⟨rfl, hb3⟩
  have Hb3 : Hid (Below w1.heap.size w1 w3) := Hb2.out.trans (hb3.mono Hb2.out.size)
  have hs3 := Hb3.out.size
  have Hb03 : Hid (Below w.heap.size w w3) := Hb1.out.trans (Hb3.out.mono hs1)
  clear hb3 Hb2
  simp only
  go_wp2_with fail
  refine (errno_any _ _).mono ?_
  rintro e w' ⟨rfl, rfl⟩
  go_wp2_with fail
  refine (HK w3 Hb3.out Hb03.out).out.mono ?_
  rintro e w7 ⟨rfl, n7, rfl⟩
  go_wp2_with fail
  refine (awake13 _).mono ?_
  rintro e w11 ⟨rfl, hb11⟩
  have Hb11 : Hid (Below w.heap.size w w11) := (below_drewN Hb03.out n7).trans (hb11.mono (below_drewN Hb03.out n7).size)
  clear hb11
  go_wp2_with fail
  go_ret
  exact ⟨rfl, Hb11.out⟩

set_option maxRecDepth 100000 in
set_option maxHeartbeats 2000000 in
theorem segmentGets_walk (a0 : ByteArray) (b0 : a0.size ≤ 140737488351232) (w : World) :
    Calls Try.prog 10 #[.string a0] w fun e w' => e = .returned (.bool true) ∧ Below w.heap.size w w' := by
  have HG := fun W => Lib.hid (sgget_any a0 W (by omega))
  have HR := fun W => Lib.hid (rsgget_any a0 W (by omega))
  have HN := fun W => Lib.hid (sgrange_any a0 W (by omega))
  have HRl := getR_len a0
  generalize Sg.getR a0 = X at *
  obtain ⟨r, R, eR⟩ := X
  simp only at HRl
  have htt : (r != r) = false := by simp
  have hee : (eR != eR) = false := by simp
  go_enter Try.func10, Try.ntmps10
  go_wp2_with fail
  refine (HG _).out.mono ?_
  rintro e w4 ⟨v4, rfl, hown4, hb4⟩
  simp only at hown4
  obtain ⟨A4, c4, rfl, hnc4, hrd4⟩ := own_slice hown4
  have Hown4 := Lib.hid hown4
  have Hrd4 := Lib.hid hrd4
  have Hb4 := Lib.hid hb4
  have hs4 := hb4.size
  clear hown4 hrd4 hb4
  simp only
  go_wp2_with fail
  refine (HG _).out.mono ?_
  rintro e w5 ⟨v5, rfl, hown5, hb5⟩
  simp only at hown5
  obtain ⟨A5, c5, rfl, hnc5, _⟩ := own_slice hown5
  have Hown5 := Lib.hid hown5
  have Hb5 := Lib.hid hb5
  clear hown5 hb5
  simp only
  go_wp2_with fail
  refine (HR _).out.mono ?_
  rintro e w6' ⟨v6, rfl, hown6, hb6⟩
  simp only at hown6
  obtain ⟨A6, c6, rfl, hnc6, hrd6⟩ := own_slice hown6
  have Hown6 := Lib.hid hown6
  have Hb6 := Lib.hid hb6
  clear hown6 hrd6 hb6
  simp only
  go_wp2_with fail
  refine (HN _).out.mono ?_
  rintro e w6 ⟨rfl, hb66⟩
  have Hb66 := Lib.hid hb66
  have Hb56 : Hid (Below w5.heap.size w5 w6) := Hb6.out.trans (hb66.mono Hb6.out.size)
  have Hb46 : Hid (Below w4.heap.size w4 w6) := Hb5.out.trans (Hb56.out.mono Hb5.out.size)
  have Hb06 : Hid (Below w.heap.size w w6) := Hb4.out.trans (Hb46.out.mono hs4)
  have hs5 := Hb5.out.size
  have hs6 := Hb6.out.size
  clear hb66
  have hO4 : w6.ownsRow w.heap.size 70 3 (.slice A4 R.length c4) R.length (R.flatMap pointCells) := own_only Hown4.out (Only.new (fun _ => False) Hb46.out) (fun _ _ h => h)
  have hO5 : w6.ownsRow w4.heap.size 70 3 (.slice A5 R.length c5) R.length (R.flatMap pointCells) := own_only Hown5.out (Only.new (fun _ => False) Hb56.out) (fun _ _ h => h)
  have hO6 : w6.ownsRow w5.heap.size 70 3 (.slice A6 R.length c6) R.length (R.flatMap pointCells) := own_only Hown6.out (Only.new (fun _ => False) Hb66.out) (fun _ _ h => h)
  have HO4 := Lib.hid hO4
  have HO5 := Lib.hid hO5
  have HO6 := Lib.hid hO6
  have HrX4 := Lib.hid (Reads.of_own hO4)
  have HrX6 := Lib.hid (Reads.of_own hO6)
  have hlt4 : ∀ k, Value.ownBlock (.slice A4 R.length c4) = some k → w.heap.size ≤ k ∧ k < w4.heap.size := fun k hk => own_lt Hown4.out hk
  have Hlt4 := Lib.hid hlt4
  clear hO4 hO5 hO6 hlt4
  simp only
  go_wp2_with fail
  refine (samePoints_true A4 A6 c4 c6 R _ _ _ HrX4.out HrX6.out (by omega)).mono ?_
  rintro e w8 ⟨rfl, n8, rfl⟩
  go_wp2_with fail
  refine (errno_any _ _).mono ?_
  rintro e w' ⟨rfl, rfl⟩
  go_wp2_with fail
  refine (errno_any _ _).mono ?_
  rintro e w' ⟨rfl, rfl⟩
  go_wp2_with fail
  refine (errno_any _ _).mono ?_
  rintro e w' ⟨rfl, rfl⟩
  go_wp2_with fail
  refine (spoilPoints_any A4 c4 R _ w.heap.size (own_drewN HO4.out n8) (by omega)).mono ?_
  rintro e w9 ⟨rfl, ho9⟩
  have hO5' := own_only (own_drewN HO5.out n8) ho9 (fun g hg e => by have := (Hlt4.out g e).2; have := (own_lt HO5.out hg).1; omega)
  have hO6' := own_only (own_drewN HO6.out n8) ho9 (fun g hg e => by have := (Hlt4.out g e).2; have := (own_lt HO6.out hg).1; omega)
  have Hr5 := Lib.hid (Reads.of_own hO5')
  have Hr6 := Lib.hid (Reads.of_own hO6')
  have Hb9 : Hid (Below w.heap.size w w9) := (below_drewN Hb06.out n8).trans (ho9.below (fun k hk e => by have := (Hlt4.out k e).1; omega) (below_drewN Hb06.out n8).size)
  clear ho9 hO5' hO6'
  go_wp2_with fail
  refine (samePoints_true A5 A6 c5 c6 R _ _ _ Hr5.out Hr6.out (by omega)).mono ?_
  rintro e w10 ⟨rfl, n10, rfl⟩
  go_wp2_with fail
  refine (awake13 _).mono ?_
  rintro e w11 ⟨rfl, hb11⟩
  have Hb11 : Hid (Below w.heap.size w w11) := (below_drewN Hb9.out n10).trans (hb11.mono (below_drewN Hb9.out n10).size)
  clear hb11
  go_wp2_with fail
  go_ret
  exact ⟨rfl, Hb11.out⟩

theorem sg_rise0 : Sg.riseB [] = true := by decide +kernel
set_option maxRecDepth 100000 in
set_option maxHeartbeats 1000000 in
theorem segmentRanges_walk (a0 : Int) (w0 : (Lit.int .i64 a0).wf = true) (w : World) :
    Calls Try.prog 13 #[.int .i64 a0] w fun e w' => e = .returned (.bool true) ∧ Below w.heap.size w w' := by
  have ha := wf_int w0
  clear w0
  have HP := fun W => sgput_nil a0 W
  by_cases hr : a0 < 1 ∨ 512 < a0
  · rw [putR_range hr] at HP
    have HP' := fun W => Lib.hid (HP W)
    clear HP
    by_cases h1 : a0 < 1
    all_goals
      go_enter Try.func13, Try.ntmps13
      go_wp2_with fail
      refine (awake13 _).mono ?_
      rintro e w1 ⟨rfl, hb1⟩
      have Hb1 := Lib.hid hb1
      clear hb1
      go_wp2_with fail
      refine (HP' _).out.mono ?_
      rintro e w2 ⟨rfl, hb2⟩
      have Hb2 : Hid (Below w.heap.size w w2) := Hb1.out.trans (hb2.mono Hb1.out.size)
      clear hb2
      go_wp2_with fail
      refine (errno_any _ _).mono ?_
      rintro e w' ⟨rfl, rfl⟩
      go_wp2_with fail
      go_ret
      exact ⟨rfl, Hb2.out⟩
  · rw [putR_good hr sg_rise0] at HP
    have hfs : (Sg.fileB (Sg.bodyB a0 [])).size ≤ 5000 := by rw [file_size]; have := body_le (r := a0) sg_rise0; omega
    have HN := fun W => sgrange_any (Sg.fileB (Sg.bodyB a0 [])) W (by omega)
    rw [get_file (by omega) sg_rise0] at HN
    generalize Sg.fileB (Sg.bodyB a0 []) = S at *
    have HP' := fun W => Lib.hid (HP W)
    have HN' := fun W => Lib.hid (HN W)
    clear HP HN
    have hr1 : ¬ a0 < 1 := by omega
    have hr2 : ¬ 512 < a0 := by omega
    have haa : (a0 == a0) = true := by simp
    go_enter Try.func13, Try.ntmps13
    go_wp2_with fail
    refine (awake13 _).mono ?_
    rintro e w1 ⟨rfl, hb1⟩
    have Hb1 := Lib.hid hb1
    clear hb1
    go_wp2_with fail
    refine (HP' _).out.mono ?_
    rintro e w2 ⟨rfl, hb2⟩
    have Hb2 : Hid (Below w.heap.size w w2) := Hb1.out.trans (hb2.mono Hb1.out.size)
    clear hb2
    simp only
    go_wp2_with fail
    refine (HN' _).out.mono ?_
    rintro e w3 ⟨rfl, hb3⟩
    have Hb3 : Hid (Below w.heap.size w w3) := Hb2.out.trans (hb3.mono Hb2.out.size)
    clear hb3
    simp only
    go_wp2_with fail
    refine (errno_any _ _).mono ?_
    rintro e w' ⟨rfl, rfl⟩
    go_wp2_with fail
    refine (errno_any _ _).mono ?_
    rintro e w' ⟨rfl, rfl⟩
    go_wp2_with fail
    go_ret
    exact ⟨rfl, Hb3.out⟩
end Go.Proofs.Ythpnhodpfhagaaa
