/- The walk through awake of cachetlaw15. -/
import Derived.Test.YthdbmgjlegpbaaaQrLast2
import Derived.Test.YthdbmgjlegpbaaaQrRagg
import Derived.Test.YthdbmgjlegpbaaaSgBack
import Derived.Test.YthdbmgjlegpbaaaSgPut
import Derived.Test.YthdbmgjlegpbaaaErr
namespace Go.Proofs.Ythdbmgjlegpbaaa
open Go.RowKit
set_option linter.unusedVariables false

def Qr.p1 : Pt.Point := (⟨#[97]⟩, 1, 7)
theorem qr_wf1 : Pt.wf Qr.p1 := by unfold Pt.wf Qr.p1; simp
theorem qr_rise1 : Sg.riseB [Qr.p1] = true := by decide +kernel
theorem qr_reads_one (W : World) (p : Pt.Point) : Reads (W.alloc (.cells #[.string p.1, .int .i64 p.2.1, .int .i64 p.2.2] 52)) (W.heap.size + 1) 3 (some ⟨W.heap.size, 0, none⟩) [p].length ([p].flatMap pointCells) :=
  Reads.new W 52 3 1 (pointCells p) rfl
theorem rsgput_one (r : Int) (p : Pt.Point) (W : World) (g : Nat) (hg : W.heap.size = g) (hp : Pt.wf p) (hz : p.1.size ≤ 9223372036854775807) :
    Calls Try.prog 37 #[.int .i64 r, .slice (some ⟨g, 0, none⟩) 1 1] (W.alloc (.cells #[.string p.1, .int .i64 p.2.1, .int .i64 p.2.2] 52)) fun e w' => e = .returned (.tuple #[.string (Sg.putR r [p]).1, .int .i64 (Sg.putR r [p]).2]) ∧ Below (g + 1) (W.alloc (.cells #[.string p.1, .int .i64 p.2.1, .int .i64 p.2.2] 52)) w' := by
  subst hg
  have := rsgput_any r (some ⟨W.heap.size, 0, none⟩) 1 [p] (W.alloc (.cells #[.string p.1, .int .i64 p.2.1, .int .i64 p.2.2] 52)) (W.heap.size + 1) (qr_reads_one W p) (by simp) (by simp) (by simpa using hp) (by simpa using hz)
  simp only [World.size_alloc] at this
  exact this
/-- query.Last of one text and no buffer -/
theorem last_one (S s : ByteArray) (t : Int) (W : World) (g : Nat) (hg : W.heap.size = g) (hS : S.size ≤ 140737488355328) :
    Calls Try.prog 24 #[.slice (some ⟨g, 0, none⟩) 1 1, .slice none 0 0, .string s, .int .i64 t] (W.alloc (.cells #[.string S] 9)) fun e w' => e = .returned (.tuple #[.int .i64 (Qr.lastR [S] [] s t).1, .bool (Qr.lastR [S] [] s t).2.1, .int .i64 (Qr.lastR [S] [] s t).2.2]) ∧ Below (g + 1) (W.alloc (.cells #[.string S] 9)) w' := by
  subst hg
  have := last_any (some ⟨W.heap.size, 0, none⟩) 1 [S] (none, 0, []) s t (W.alloc (.cells #[.string S] 9)) (W.heap.size + 1) (Reads.new W 9 1 1 [.string S] rfl) Reads.none_ (by simp) (by simp) (by simpa using hS) (by simp)
  unfold LastPost at this
  simp only [World.size_alloc] at this
  exact this
theorem qr_last1 : Qr.lastR [Sg.fileB (Sg.bodyB 1 [Qr.p1])] [] ⟨#[97]⟩ 1 = (7, true, 0) := by
  have h : Sg.getR (Sg.fileB (Sg.bodyB 1 [Qr.p1])) = (1, [Qr.p1], 0) := get_file (by omega) qr_rise1
  unfold Qr.lastR Qr.okS
  simp only [List.all_cons, List.all_nil, h, List.map_cons, List.map_nil, Qr.ptsOf]
  decide +kernel
theorem qr_last2 : Qr.lastR [Sg.fileB (Sg.bodyB 1 [Qr.p1])] [] ⟨#[97]⟩ 2 = (0, false, 0) := by
  have h : Sg.getR (Sg.fileB (Sg.bodyB 1 [Qr.p1])) = (1, [Qr.p1], 0) := get_file (by omega) qr_rise1
  unfold Qr.lastR Qr.okS
  simp only [List.all_cons, List.all_nil, h, List.map_cons, List.map_nil, Qr.ptsOf]
  decide +kernel
theorem qr_last3 : Qr.lastR [⟨#[120]⟩] [] ⟨#[97]⟩ 2 = (0, false, 1500) := by
  have h : Sg.getR ⟨#[120]⟩ = (0, [], 1300) := get_short (by decide)
  unfold Qr.lastR Qr.okS
  simp only [List.all_cons, List.all_nil, h, List.map_cons, List.map_nil, Qr.ptsOf]
  decide +kernel
def Qr.p34 : List Pt.Point := [(⟨#[]⟩, 0, 3), (⟨#[]⟩, 0, 4)]
theorem qr_agg : Qr.aggR Qr.p34 2 = (7, true, 0) := by decide +kernel
theorem agg_two (W : World) (g : Nat) (hg : W.heap.size = g) :
    Calls Try.prog 29 #[.slice (some ⟨g, 0, none⟩) 2 2, .int .i64 2] (W.alloc (.cells #[.string ⟨#[]⟩, .int .i64 0, .int .i64 3, .string ⟨#[]⟩, .int .i64 0, .int .i64 4] 52)) fun e w' => e = .returned (.tuple #[.int .i64 7, .bool true, .int .i64 0]) ∧ Below (g + 1) (W.alloc (.cells #[.string ⟨#[]⟩, .int .i64 0, .int .i64 3, .string ⟨#[]⟩, .int .i64 0, .int .i64 4] 52)) w' := by
  subst hg
  have := aggregate_any (some ⟨W.heap.size, 0, none⟩) 2 Qr.p34 2 (W.alloc (.cells #[.string ⟨#[]⟩, .int .i64 0, .int .i64 3, .string ⟨#[]⟩, .int .i64 0, .int .i64 4] 52)) (W.heap.size + 1) (Reads.new W 52 3 2 (Qr.p34.flatMap pointCells) rfl) (by simp) (by decide) (by intro p hp; unfold Qr.p34 at hp; simp at hp; rcases hp with rfl | rfl <;> (unfold Pt.wf; simp))
  rw [qr_agg] at this
  unfold AggPost at this
  simp only [World.size_alloc] at this
  exact this
set_option maxRecDepth 100000 in
set_option maxHeartbeats 2000000 in
theorem awake15 (w : World) : Calls Try.prog 28 #[] w fun e w' => e = .returned (.bool true) ∧ Below w.heap.size w w' := by
  have h1 := fun W g hg => rsgput_one 1 Qr.p1 W g hg qr_wf1 (by decide)
  have hfs : (Sg.fileB (Sg.bodyB 1 [Qr.p1])).size ≤ 5000 := by rw [file_size]; have := body_le (r := 1) qr_rise1; omega
  have h2 := fun W g hg => last_one (Sg.fileB (Sg.bodyB 1 [Qr.p1])) ⟨#[97]⟩ 1 W g hg (by omega)
  have h3 := fun W g hg => last_one (Sg.fileB (Sg.bodyB 1 [Qr.p1])) ⟨#[97]⟩ 2 W g hg (by omega)
  have h4 := fun W g hg => last_one ⟨#[120]⟩ ⟨#[97]⟩ 2 W g hg (by decide)
  rw [putR_good (by omega) qr_rise1] at h1
  rw [qr_last1] at h2
  rw [qr_last2] at h3
  rw [qr_last3] at h4
  generalize Sg.fileB (Sg.bodyB 1 [Qr.p1]) = S at *
  simp only [Qr.p1] at h1
  have H1 := fun W g hg => Lib.hid (h1 W g hg)
  have H2 := fun W g hg => Lib.hid (h2 W g hg)
  have H3 := fun W g hg => Lib.hid (h3 W g hg)
  have H4 := fun W g hg => Lib.hid (h4 W g hg)
  have H5 := fun W g hg => Lib.hid (agg_two W g hg)
  clear h1 h2 h3 h4
  go_enter Try.func28, Try.ntmps28
  go_wp2_with fail
  refine (H1 w _ rfl).out.mono ?_
  rintro e w1 ⟨rfl, hb1⟩
  have Hb1 : Hid (Below w.heap.size w w1) := ((Below.refl _ _).alloc (Nat.le_refl _) _).trans (hb1.mono (by omega))
  have hs1 := Hb1.out.size
  clear hb1
  simp only
  go_wp2_with fail
  refine (H2 w1 _ rfl).out.mono ?_
  rintro e w2 ⟨rfl, hb2⟩
  have Hb2 : Hid (Below w.heap.size w w2) := (Hb1.out.alloc hs1 _).trans (hb2.mono (by omega))
  have hs2 := Hb2.out.size
  clear hb2
  simp only
  go_wp2_with fail
  refine (H3 w2 _ rfl).out.mono ?_
  rintro e w3 ⟨rfl, hb3⟩
  have Hb3 : Hid (Below w.heap.size w w3) := (Hb2.out.alloc hs2 _).trans (hb3.mono (by omega))
  have hs3 := Hb3.out.size
  clear hb3
  simp only
  go_wp2_with fail
  refine (H4 w3 _ rfl).out.mono ?_
  rintro e w4 ⟨rfl, hb4⟩
  have Hb4 : Hid (Below w.heap.size w w4) := (Hb3.out.alloc hs3 _).trans (hb4.mono (by omega))
  have hs4 := Hb4.out.size
  clear hb4
  simp only
  go_wp2_with fail
  refine (H5 w4 _ rfl).out.mono ?_
  rintro e w5 ⟨rfl, hb5⟩
  have Hb5 : Hid (Below w.heap.size w w5) := (Hb4.out.alloc hs4 _).trans (hb5.mono (by omega))
  clear hb5
  simp only
  go_wp2_with fail
  refine (errno_any _ _).mono ?_
  rintro e w' ⟨rfl, rfl⟩
  go_wp2_with fail
  refine (errno_any _ _).mono ?_
  rintro e w' ⟨rfl, rfl⟩
  go_wp2_with fail
  refine (errno_any _ _).mono ?_
  rintro e w' ⟨rfl, rfl⟩
  go_wp2_with fail
  refine (errno_any _ _).mono ?_
  rintro e w' ⟨rfl, rfl⟩
  go_wp2_with fail
  go_ret
  exact ⟨rfl, Hb5.out⟩
end Go.Proofs.Ythdbmgjlegpbaaa
