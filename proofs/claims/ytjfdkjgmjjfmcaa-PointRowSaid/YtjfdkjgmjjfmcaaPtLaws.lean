/- The walks through awake of cachetlaw3 and its laws PointSmall, PointNames. -/
import Derived.Test.YtjfdkjgmjjfmcaaPtPut
import Derived.Test.YtjfdkjgmjjfmcaaPtBack
import Derived.Test.YtjfdkjgmjjfmcaaWireLaws
import Derived.Test.YtjfdkjgmjjfmcaaSamePts
namespace Go.Proofs.Ytjfdkjgmjjfmcaa
open Go.RowKit
set_option linter.unusedVariables false

theorem putR_ok {ps : List Pt.Point} (h : Pt.batchB ps = true) : Pt.putR ps = (Pt.ptsB ps, 0) := by unfold Pt.putR; rw [h]; rfl
theorem putR_no {ps : List Pt.Point} (h : Pt.batchB ps = false) : Pt.putR ps = (⟨#[]⟩, 300) := by unfold Pt.putR; rw [h]; rfl
def Pt.p0 : Pt.Point := (⟨#[97]⟩, 1, -1)
def Pt.z0 : Pt.Point := (⟨#[]⟩, 0, 0)
theorem may_p0 : Pt.mayB Pt.p0 = true := by decide +kernel
theorem may_z0 : Pt.mayB Pt.z0 = false := by decide +kernel
theorem batch_p0 : Pt.batchB [Pt.p0] = true := by decide +kernel
theorem batch_z0 : Pt.batchB [Pt.z0] = false := by decide +kernel
theorem wf_p0 : Pt.wf Pt.p0 := by unfold Pt.wf Pt.p0; simp
theorem wf_z0 : Pt.wf Pt.z0 := by unfold Pt.wf Pt.z0; simp
theorem pts_size (ps : List Pt.Point) : (Pt.ptsB ps).size = (Pt.ptsL ps).length := by rw [← Wr.len_list, Pt.ptsB_list]
theorem get_p0 : Pt.getPts (Pt.ptsB [Pt.p0]) 0 = ([Pt.p0], ((Pt.ptsB [Pt.p0]).size : Int), 0) := by
  have := Pt.getPts_put (Pt.ptsB [Pt.p0]) [Pt.p0] [] [] (by rw [Pt.ptsB_list]; simp) batch_p0
  rw [pts_size]
  simpa using this
/-- one point in a new row -/
theorem reads_one (W : World) (p : Pt.Point) : Reads (W.alloc (.cells #[.string p.1, .int .i64 p.2.1, .int .i64 p.2.2] 85)) (W.heap.size + 1) 3 (some ⟨W.heap.size, 0, none⟩) [p].length ([p].flatMap pointCells) :=
  Reads.new W 85 3 1 (pointCells p) rfl
theorem put_one (p : Pt.Point) (W : World) (g : Nat) (hg : W.heap.size = g) (hp : Pt.wf p) :
    Calls Try.prog 56 #[.slice (some ⟨g, 0, none⟩) 1 1] (W.alloc (.cells #[.string p.1, .int .i64 p.2.1, .int .i64 p.2.2] 85)) fun e w' => e = .returned (.tuple #[.string (Pt.putR [p]).1, .int .i64 (Pt.putR [p]).2]) ∧ Below (g + 1) (W.alloc (.cells #[.string p.1, .int .i64 p.2.1, .int .i64 p.2.2] 85)) w' := by
  subst hg
  have := put_any (some ⟨W.heap.size, 0, none⟩) 1 [p] (W.alloc (.cells #[.string p.1, .int .i64 p.2.1, .int .i64 p.2.2] 85)) (W.heap.size + 1) (reads_one W p) (by simp) (by simp) (by simpa using hp)
  simp only [World.size_alloc] at this
  exact this
set_option maxRecDepth 100000 in
set_option maxHeartbeats 800000 in
theorem awake3 (w : World) : Calls Try.prog 64 #[] w fun e w' => e = .returned (.bool true) ∧ Below w.heap.size w w' := by
  have h1 := fun W g hg => put_one Pt.p0 W g hg wf_p0
  have h2 := fun W g hg => put_one Pt.z0 W g hg wf_z0
  have h3 := fun W => get_any (Pt.ptsB [Pt.p0]) 0 W (by rw [pts_size]; have := Pt.ptsL_le batch_p0; omega) (by omega)
  have h4 := fun W => may_any Pt.p0 W wf_p0
  have h5 := fun W => may_any Pt.z0 W wf_z0
  rw [putR_ok batch_p0] at h1
  rw [putR_no batch_z0] at h2
  rw [get_p0] at h3
  rw [may_p0] at h4
  rw [may_z0] at h5
  generalize Pt.ptsB [Pt.p0] = S at *
  simp only [Pt.p0, Pt.z0] at h1 h2 h4 h5
  have H1 := fun W g hg => Lib.hid (h1 W g hg)
  have H2 := fun W g hg => Lib.hid (h2 W g hg)
  have H3 := fun W => Lib.hid (h3 W)
  have H4 := fun W => Lib.hid (h4 W)
  have H5 := fun W => Lib.hid (h5 W)
  have hss : ((S.size : Int) == (S.size : Int)) = true := by simp
  clear h1 h2 h3 h4 h5
  go_enter Try.func64, Try.ntmps64
  go_wp2_with fail
  have hP := Blk.alloc (Blk.new w 85 #[.string ⟨#[97]⟩, .int .i64 1, .int .i64 (-1)]) (.cells #[.string ⟨#[97]⟩, .int .i64 1, .int .i64 (-1)] 85)
  have hb0 : Below w.heap.size w ((w.alloc (.cells #[.string ⟨#[97]⟩, .int .i64 1, .int .i64 (-1)] 85)).alloc (.cells #[.string ⟨#[97]⟩, .int .i64 1, .int .i64 (-1)] 85)) := ((Below.refl _ _).alloc (Nat.le_refl _) _).alloc (by simp) _
  refine (H1 (w.alloc (.cells #[.string ⟨#[97]⟩, .int .i64 1, .int .i64 (-1)] 85)) (w.heap.size + 1) (by simp)).out.mono ?_
  rintro e w1 ⟨rfl, hb1⟩
  have HP1 := Lib.hid (Blk.below hP hb1 (by omega))
  have hs1 := hb1.size
  simp only [World.size_alloc] at hs1
  have Hb1 := Lib.hid (hb0.trans (hb1.mono (by omega)))
  clear hP hb0 hb1
  simp only
  go_wp2_with fail
  refine (H3 _).out.mono ?_
  rintro e w2 ⟨v, rfl, hown, hb2⟩
  obtain ⟨A, c, rfl, hnc, hrd⟩ := own_slice hown
  have HP2 := Lib.hid (Blk.below HP1.out hb2 HP1.out.lt)
  have Hrd := Lib.hid hrd
  have Hb2 := Lib.hid hb2
  have hs2 := hb2.size
  clear hown hrd hb2
  go_wp2_with fail
  have hb3' : Below w2.heap.size w2 (w2.alloc (.cells #[.string ⟨#[]⟩, .int .i64 0, .int .i64 0] 85)) := (Below.refl _ _).alloc (Nat.le_refl _) _
  refine (H2 w2 _ rfl).out.mono ?_
  rintro e w3 ⟨rfl, hb3⟩
  have Hb3 : Hid (Below w2.heap.size w2 w3) := hb3'.trans (hb3.mono (by omega))
  clear hb3' hb3
  obtain ⟨hc0, hc1, hc2⟩ := pt3_of (Blk.below HP2.out Hb3.out HP2.out.lt)
  have HP3 := Lib.hid (Blk.below HP2.out Hb3.out HP2.out.lt)
  have hs3 := Hb3.out.size
  go_wp2_with fail
  refine (H4 _).out.mono ?_
  rintro e w4 ⟨rfl, hb4⟩
  have Hb4 := Lib.hid hb4
  have HP4 := Lib.hid (Blk.below HP3.out hb4 HP3.out.lt)
  have hs4 := hb4.size
  clear hb4 hc0 hc1 hc2
  go_wp2_with fail
  refine (H5 _).out.mono ?_
  rintro e w5 ⟨rfl, hb5⟩
  have Hb5 := Lib.hid hb5
  obtain ⟨hc0, hc1, hc2⟩ := pt3_of (Blk.below HP4.out hb5 HP4.out.lt)
  have hs5 := hb5.size
  clear hb5
  go_wp2_with fail
  refine (errno_any _ _).mono ?_
  rintro e w' ⟨rfl, rfl⟩
  go_wp2_with fail
  refine (errno_any _ _).mono ?_
  rintro e w' ⟨rfl, rfl⟩
  go_wp2_with fail
  have hb6 : Below w2.heap.size w2 (w5.alloc (.cells #[.string ⟨#[97]⟩, .int .i64 1, .int .i64 (-1)] 85)) := (Hb3.out.trans ((Hb4.out.mono hs3).trans (Hb5.out.mono (by omega)))).alloc (by omega) _
  refine (samePoints_true A _ c _ [Pt.p0] _ w2.heap.size (w5.heap.size + 1) (Hrd.out.below hb6) (reads_one w5 Pt.p0) (by simp)).mono ?_
  rintro e w7 ⟨rfl, n7, rfl⟩
  go_wp2_with fail
  refine (errno_any _ _).mono ?_
  rintro e w' ⟨rfl, rfl⟩
  go_wp2_with fail
  go_ret
  exact ⟨rfl, below_drewN (Hb1.out.trans ((Hb2.out.mono (by omega)).trans (hb6.mono (by omega)))) _⟩
end Go.Proofs.Ytjfdkjgmjjfmcaa
