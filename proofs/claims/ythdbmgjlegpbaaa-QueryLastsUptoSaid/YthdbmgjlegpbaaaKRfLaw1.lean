/- The walk through QueryLasts. -/
import Derived.Test.YthdbmgjlegpbaaaKRfCom
namespace Go.Proofs.Ythdbmgjlegpbaaa
open Go.RowKit
set_option linter.unusedVariables false

set_option maxRecDepth 100000 in
set_option maxHeartbeats 4000000 in
theorem queryLasts_go {w : World} (A0 : Option Addr) (c0 : Nat) (z0 : List Lay) (ok0 : ListsOk w A0 z0) (A1 : Option Addr) (c1 : Nat) (z1 : List Pt.Point) (rd1 : Reads w w.heap.size 3 A1 z1.length (z1.flatMap pointCells)) (nb1 : z1.length ≤ 1048576) (s : ByteArray) (t : Int) (bad : Bool) :
    Calls Try.prog 4 #[.slice A0 z0.length c0, .slice A1 z1.length c1, .string s, .int .i64 t, .bool bad] w fun e w' => e = .returned (.bool true) ∧ Below w.heap.size w w' := by
  have HF := Lib.hid (files_of ok0 c0 bad w (Below.refl _ _))
  obtain ⟨X, hX⟩ : ∃ X, X = Rf.segsR (z0.map (·.2.2)) bad := ⟨_, rfl⟩
  have hXl : X.length ≤ 513 := by rw [hX]; exact Rf.segs_len _ _
  have hXs : ∀ s ∈ X, s.size ≤ 140737488355328 := fun s hs => by
    have := Rf.segs_size _ _ s (by rw [← hX]; exact hs)
    omega
  rw [← hX] at HF
  have HXs := Lib.hid hXs
  have Hrd1 := Lib.hid rd1
  clear hX ok0 rd1 hXs
  unfold TxtPost at HF
  go_enter Try.func4, Try.ntmps4
  go_wp2_with fail
  refine HF.out.mono ?_
  rintro e w1 ⟨v1, rfl, hown1, hb1⟩
  obtain ⟨Ax, cx, rfl, _, hrx⟩ := own_slice hown1
  have Hb1 := Lib.hid hb1
  have hs1 := hb1.size
  have Hrx := Lib.hid hrx
  have HLT := Lib.hid (lendTexts_any Ax cx X w1 w1.heap.size hrx (Nat.le_refl _) (by omega))
  clear hown1 hb1 hrx HF
  go_wp2_with fail
  refine HLT.out.mono ?_
  rintro e w2 ⟨g2, cap2, rfl, hg2, hcap2, hmax2, hown2, hb2⟩
  have Hb2 : Hid (Below w1.heap.size w1 w2) := hb2
  have hs2 := hb2.size
  have hw2 : Below w.heap.size w w2 := Hb1.out.trans (hb2.mono hs1)
  have HLP := Lib.hid (lendPoints_any A1 c1 z1 w2 w.heap.size (Hrd1.out.below hw2) hw2.size (by omega))
  have Hr2 := Lib.hid (Reads.of_own hown2)
  clear hb2 hown2 HLT hw2 hg2 hmax2
  go_wp2_with fail
  refine HLP.out.mono ?_
  rintro e w3 ⟨g3, cap3, rfl, hg3, hcap3, hmax3, hown3, hb3⟩
  have Hb3 : Hid (Below w1.heap.size w1 w3) := Hb2.out.trans (hb3.mono hs2)
  have hs3 := Hb3.out.size
  have Hr2' : Hid (Reads w3 w3.heap.size 1 (some ⟨g2, 0, none⟩) (X.length + 2) (X.map Value.string ++ roomTexts)) := (Hr2.out.below hb3).more hb3.size
  have Hr3 := Lib.hid (Reads.of_own hown3)
  have HL := Lib.hid (last_any (some ⟨g2, 0, none⟩) cap2 X (some ⟨g3, 0, none⟩, cap3, z1) s t w3 w3.heap.size (Hr2'.out.head (by simp)) (Hr3.out.head (flat_length pointCells 3 (fun _ => rfl) z1)) (Nat.le_refl _) (by omega) HXs.out (by dsimp only; omega))
  have HRL := Lib.hid (fun W (h : Below w1.heap.size w1 W) => rlast_any Ax A1 cx c1 X z1 s t W w1.heap.size (Hrx.out.below h) ((Hrd1.out.below (Hb1.out.trans (h.mono hs1))).more hs1) h.size (by omega) HXs.out (by omega) (fun s _ => by have := Rf.pts_len s; omega))
  have HKT := Lib.hid (fun W (h : Below w3.heap.size w3 W) => keptTexts_true Ax g2 cx cap2 X W w3.heap.size w1.heap.size (Hr2'.out.below h) (Hrx.out.below (Hb3.out.trans (h.mono hs3))) hcap2 (by omega))
  have HKP := Lib.hid (fun W (h : Below w3.heap.size w3 W) => keptPoints_true A1 g3 c1 cap3 z1 W w3.heap.size w.heap.size (Hr3.out.below h) (Hrd1.out.below (Hb1.out.trans ((Hb3.out.trans (h.mono hs3)).mono hs1))) hcap3 (by omega))
  unfold layV LastPost at HL
  dsimp only at HL
  generalize Qr.lastR X z1 s t = R at *
  obtain ⟨r1, r2, r3⟩ := R
  dsimp only at HL HRL
  have hvv : (r1 == r1) = true := by simp
  have hoo : (r2 == r2) = true := by simp
  have hee : (r3 == r3) = true := by simp
  clear hb3 hown3 HLP Hr2 Hr2' Hr3 Hrx Hrd1 HXs hg3 hmax3 Hb2
  go_wp2_with fail
  refine HL.out.mono ?_
  rintro e w4 ⟨rfl, hb4⟩
  have Hb4 : Hid (Below w3.heap.size w3 w4) := hb4
  have hs4 := hb4.size
  have hb14 : Below w1.heap.size w1 w4 := Hb3.out.trans (hb4.mono hs3)
  have HRL2 := Lib.hid (HRL.out w4 hb14)
  clear HL hb4 hb14 HRL
  go_wp2_with fail
  refine HRL2.out.mono ?_
  rintro e w5 ⟨rfl, hb5⟩
  have Hb5 : Hid (Below w3.heap.size w3 w5) := Hb4.out.trans (hb5.mono hs4)
  have hs5 := Hb5.out.size
  have HKT2 := Lib.hid (HKT.out w5 Hb5.out)
  clear HRL2 hb5 Hb4 HKT
  go_wp2_with fail
  refine (errno_any _ _).mono ?_
  rintro e w' ⟨rfl, rfl⟩
  go_wp2_with fail
  refine HKT2.out.mono ?_
  rintro e w7 ⟨rfl, n7, rfl⟩
  have hb7 : Below w3.heap.size w3 (w5.drewN n7) := below_drewN Hb5.out n7
  have HKP2 := Lib.hid (HKP.out _ hb7)
  have Hb7 := Lib.hid hb7
  clear HKT2 HKP hb7 Hb5
  generalize w5.drewN n7 = w7 at *
  go_wp2_with fail
  refine HKP2.out.mono ?_
  rintro e w8 ⟨rfl, n8, rfl⟩
  have hb8 : Below w.heap.size w (w7.drewN n8) := Hb1.out.trans ((Hb3.out.trans ((below_drewN Hb7.out n8).mono hs3)).mono hs1)
  have Hb8 := Lib.hid hb8
  clear HKP2 hb8 Hb7
  generalize w7.drewN n8 = w8 at *
  go_wp2_with fail
  refine (awake15 _).mono ?_
  rintro e w9 ⟨rfl, hb9⟩
  have Hb9 : Hid (Below w.heap.size w w9) := Hb8.out.trans (hb9.mono Hb8.out.size)
  clear hb9
  go_wp2_with fail
  go_ret
  exact ⟨rfl, Hb9.out⟩
theorem queryLasts_walk {w : World} (A0 : Option Addr) (c0 : Nat) (z0 : List Lst) (A1 : Option Addr) (c1 : Nat) (z1 : List Pt.Point) (a2 : ByteArray) (a3 : Int) (a4 : Bool) (rd0 : Reads w w.heap.size 1 A0 z0.length (z0.map lstV)) (ok0 : ∀ y ∈ z0, LstOk w y) (rd1 : Reads w w.heap.size 3 A1 z1.length (z1.flatMap pointCells)) (wf1 : ∀ f ∈ z1, (Lit.int .i64 f.2.1).wf = true ∧ (Lit.int .i64 f.2.2).wf = true ∧ f.1.size ≤ maxLen) (w2 : a2.size ≤ maxLen) (w3 : (Lit.int .i64 a3).wf = true) (ub : (z0.map fun y : Lst => (y.2.2.map fun p : ByteArray × Int × Int => p.1.size + 4).sum).sum + (z1.map fun p : ByteArray × Int × Int => p.1.size + 4).sum + a2.size ≤ 1048576) (lb0 : z0.length ≤ 1048576) :
    Calls Try.prog 4 #[.slice A0 z0.length c0, .slice A1 z1.length c1, .string a2, .int .i64 a3, .bool a4] w fun e w' => e = .returned (.bool true) ∧ Below w.heap.size w w' := by
  have h1 := sum_ge_length (fun p : ByteArray × Int × Int => p.1.size + 4) 4 (fun _ => by omega) z1
  exact queryLasts_go A0 c0 z0 (listsOk_of rd0 ok0 lb0 (by omega)) A1 c1 z1 rd1 (by omega) a2 a3 a4
end Go.Proofs.Ythdbmgjlegpbaaa
