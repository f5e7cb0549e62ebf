/- The walk through awake of cachetlaw13. -/
import Derived.Test.YthpnhodpfhagaaaSgBack
import Derived.Test.YthpnhodpfhagaaaSgPutGo
import Derived.Test.YthpnhodpfhagaaaErr
import Derived.Test.YthpnhodpfhagaaaSamePts
namespace Go.Proofs.Ythpnhodpfhagaaa
open Go.RowKit
set_option linter.unusedVariables false

def Sg.p1 : Pt.Point := (⟨#[97]⟩, 1, 7)
theorem sg_wf1 : Pt.wf Sg.p1 := by unfold Pt.wf Sg.p1; simp
theorem sg_rise1 : Sg.riseB [Sg.p1] = true := by decide +kernel
theorem sg_get_x : Sg.getR (Sg.fileB (Sg.bodyB 2 [Sg.p1]) ++ ⟨#[120]⟩) = (0, [], 1301) := by decide +kernel
theorem sg_reads_one (W : World) (p : Pt.Point) : Reads (W.alloc (.cells #[.string p.1, .int .i64 p.2.1, .int .i64 p.2.2] 70)) (W.heap.size + 1) 3 (some ⟨W.heap.size, 0, none⟩) [p].length ([p].flatMap pointCells) :=
  Reads.new W 70 3 1 (pointCells p) rfl
theorem sgput_one (r : Int) (p : Pt.Point) (W : World) (g : Nat) (hg : W.heap.size = g) (hp : Pt.wf p) :
    Calls Try.prog 34 #[.int .i64 r, .slice (some ⟨g, 0, none⟩) 1 1] (W.alloc (.cells #[.string p.1, .int .i64 p.2.1, .int .i64 p.2.2] 70)) fun e w' => e = .returned (.tuple #[.string (Sg.putR r [p]).1, .int .i64 (Sg.putR r [p]).2]) ∧ Below (g + 1) (W.alloc (.cells #[.string p.1, .int .i64 p.2.1, .int .i64 p.2.2] 70)) w' := by
  subst hg
  have := sgput_any r (some ⟨W.heap.size, 0, none⟩) 1 [p] (W.alloc (.cells #[.string p.1, .int .i64 p.2.1, .int .i64 p.2.2] 70)) (W.heap.size + 1) (sg_reads_one W p) (by simp) (by simp) (by simpa using hp)
  simp only [World.size_alloc] at this
  exact this
theorem sgput_nil (r : Int) (w : World) : Calls Try.prog 34 #[.int .i64 r, .slice none 0 0] w fun e w' => e = .returned (.tuple #[.string (Sg.putR r []).1, .int .i64 (Sg.putR r []).2]) ∧ Below w.heap.size w w' :=
  sgput_any r none 0 [] w w.heap.size Reads.none_ (Nat.le_refl _) (by simp) (by simp)
set_option maxRecDepth 100000 in
set_option maxHeartbeats 800000 in
theorem awake13 (w : World) : Calls Try.prog 37 #[] w fun e w' => e = .returned (.bool true) ∧ Below w.heap.size w w' := by
  have h1 := fun W g hg => sgput_one 2 Sg.p1 W g hg sg_wf1
  have hfs : (Sg.fileB (Sg.bodyB 2 [Sg.p1])).size ≤ 5000 := by rw [file_size]; have := body_le (r := 2) sg_rise1; omega
  have h2 := fun W => sgget_any (Sg.fileB (Sg.bodyB 2 [Sg.p1])) W (by omega)
  have h3 := fun W => sgput_nil 0 W
  have h4 := fun W => sgget_any (Sg.fileB (Sg.bodyB 2 [Sg.p1]) ++ ⟨#[120]⟩) W (by rw [ByteArray.size_append]; show _ + 1 ≤ _; omega)
  have h5 := fun W => sgrange_any (Sg.fileB (Sg.bodyB 2 [Sg.p1])) W (by omega)
  rw [putR_good (by omega) sg_rise1] at h1
  rw [get_file (by omega) sg_rise1] at h2 h5
  rw [putR_range (by omega)] at h3
  rw [sg_get_x] at h4
  generalize Sg.fileB (Sg.bodyB 2 [Sg.p1]) = S at *
  simp only [Sg.p1] at h1
  have H1 := fun W g hg => Lib.hid (h1 W g hg)
  have H2 := fun W => Lib.hid (h2 W)
  have H3 := fun W => Lib.hid (h3 W)
  have H4 := fun W => Lib.hid (h4 W)
  have H5 := fun W => Lib.hid (h5 W)
  clear h1 h2 h3 h4 h5
  go_enter Try.func37, Try.ntmps37
  go_wp2_with fail
  refine (H1 w _ rfl).out.mono ?_
  rintro e w1 ⟨rfl, hb1⟩
  have hb0 : Below w.heap.size w (w.alloc (.cells #[.string ⟨#[97]⟩, .int .i64 1, .int .i64 7] 70)) := (Below.refl _ _).alloc (Nat.le_refl _) _
  have Hb1 := Lib.hid (hb0.trans (hb1.mono (by omega)))
  have hs1 := Hb1.out.size
  clear hb0 hb1
  simp only
  go_wp2_with fail
  refine (H2 _).out.mono ?_
  rintro e w2 ⟨v, rfl, hown, hb2⟩
  simp only at hown
  obtain ⟨A, c, rfl, hnc, hrd⟩ := own_slice hown
  have Hrd := Lib.hid hrd
  have Hb2 := Lib.hid hb2
  have hs2 := hb2.size
  clear hown hrd hb2
  go_wp2_with fail
  refine (H3 _).out.mono ?_
  rintro e w3 ⟨rfl, hb3⟩
  have Hb3 := Lib.hid hb3
  have hs3 := hb3.size
  clear hb3
  go_wp2_with fail
  refine (H4 _).out.mono ?_
  rintro e w4 ⟨v4, rfl, hown4, hb4⟩
  have Hb4 := Lib.hid hb4
  have hs4 := hb4.size
  clear hown4 hb4
  go_wp2_with fail
  refine (H5 _).out.mono ?_
  rintro e w5 ⟨rfl, hb5⟩
  have Hb5 := Lib.hid hb5
  have hs5 := hb5.size
  clear hb5
  go_wp2_with fail
  refine (errno_any _ _).mono ?_
  rintro e w' ⟨rfl, rfl⟩
  go_wp2_with fail
  have hb6 : Below w2.heap.size w2 (w5.alloc (.cells #[.string ⟨#[97]⟩, .int .i64 1, .int .i64 7] 70)) := (Hb3.out.trans ((Hb4.out.mono hs3).trans (Hb5.out.mono (by omega)))).alloc (by omega) _
  refine (samePoints_true A _ c _ [Sg.p1] _ w2.heap.size (w5.heap.size + 1) (Hrd.out.below hb6) (sg_reads_one w5 Sg.p1) (by simp)).mono ?_
  rintro e w7 ⟨rfl, n7, rfl⟩
  go_wp2_with fail
  refine (errno_any _ _).mono ?_
  rintro e w' ⟨rfl, rfl⟩
  go_wp2_with fail
  refine (errno_any _ _).mono ?_
  rintro e w' ⟨rfl, rfl⟩
  go_wp2_with fail
  refine (errno_any _ _).mono ?_
  rintro e w' ⟨rfl, rfl⟩
  go_wp2_with fail
  refine (errno_any _ _).mono ?_
  rintro e w' ⟨rfl, rfl⟩
  go_wp2_with fail
  go_ret
  exact ⟨rfl, below_drewN (Hb1.out.trans ((Hb2.out.mono (by omega)).trans (hb6.mono (by omega)))) _⟩
end Go.Proofs.Ythpnhodpfhagaaa
