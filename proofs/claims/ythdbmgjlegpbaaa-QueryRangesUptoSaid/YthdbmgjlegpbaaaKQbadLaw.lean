/- The walk through QueryBad. -/
import Derived.Test.YthdbmgjlegpbaaaK8
import Derived.Test.YthdbmgjlegpbaaaKQmRange
import Derived.Test.YthdbmgjlegpbaaaKQbP
import Derived.Test.YthdbmgjlegpbaaaK4
namespace Go.Proofs.Ythdbmgjlegpbaaa
open Go.RowKit
set_option linter.unusedVariables false

theorem getR_lenQ (s : ByteArray) : (Sg.getR s).2.1.length ≤ 64 := by
  unfold Sg.getR
  split
  · simp
  · split
    · simp
    · split
      · simp
      · rename_i hc
        rw [Bool.not_eq_false] at hc
        show (Sg.colsR _).2.1.length ≤ 64
        have key : ∀ t, (Sg.colsR t).2.2 = true → (Sg.colsR t).2.1.length ≤ 64 := by
          intro t
          unfold Sg.colsR
          split
          · simp
          · split
            · simp
            · exact fun h => rise_len h
        exact key _ hc
theorem ptsOf_len (segs : List ByteArray) (o : List Pt.Point) : (segs.map Qr.ptsOf ++ [o]).flatten.length ≤ segs.length * 64 + o.length := by
  induction segs with
  | nil => simp
  | cons s segs ih =>
    rw [List.map_cons, List.cons_append, List.flatten_cons, List.length_append, List.length_cons, Nat.add_mul]
    have := getR_lenQ s
    unfold Qr.ptsOf at *
    omega
def Qb.p : Pt.Point := (⟨#[115]⟩, 1, 2)
def Qb.q : Pt.Point := (⟨#[115]⟩, 1, 9)
theorem qb_rise : Sg.riseB [Qb.p] = true := by decide +kernel
theorem qb_wf : Pt.wf Qb.p := by unfold Pt.wf Qb.p; simp
def Qb.S : ByteArray := Sg.fileB (Sg.bodyB 1 [Qb.p])
theorem qb_get : Sg.getR Qb.S = (1, [Qb.p], 0) := get_file (by omega) qb_rise
theorem qb_ok (s : ByteArray) (k : Nat) (hk : k < 3) : Qr.okS ([Qb.S, Qb.S, Qb.S].set k s) = decide ((Sg.getR s).2.2 = 0) := by
  have h : decide ((Sg.getR Qb.S).2.2 = 0) = true := by rw [qb_get]; rfl
  rcases (show k = 0 ∨ k = 1 ∨ k = 2 by omega) with rfl | rfl | rfl <;> simp [Qr.okS, qb_get]
theorem reads_blk {w : World} {g size n : Nat} {t : TypeId} {cs : List Value} (h : Blk w g t cs.toArray) (hl : cs.length = n * size) : Reads w (g + 1) size (some ⟨g, 0, none⟩) n cs :=
  ⟨hl, fun _ => ⟨g, 0, rfl, by omega, fun j u hu => by rw [Nat.zero_add, h.cell]; simpa using hu⟩⟩
/-- the codes of Last and Range of the three texts -/
theorem last_code (segs : List ByteArray) (o : List Pt.Point) (s : ByteArray) (t : Int) : (Qr.lastR segs o s t).2.2 = if Qr.okS segs = true then 0 else 1500 := by
  unfold Qr.lastR; split <;> rfl
theorem range_code (segs : List ByteArray) (o : List Pt.Point) (s : ByteArray) (f u : Int) : (Qm.rangeR segs o s f u).2 = if Qr.okS segs = true then 0 else 1500 := by
  unfold Qm.rangeR; split <;> rfl
theorem range_none (segs : List ByteArray) (o : List Pt.Point) (s : ByteArray) (f u : Int) (h : Qr.okS segs = false) : (Qm.rangeR segs o s f u).1 = [] := by
  unfold Qm.rangeR; rw [h]; rfl
theorem pick3 (x : Int) : ∃ k : Nat, k < 3 ∧ (IntKind.u64.wrap x).tmod 3 = (k : Int) := by
  have h0 : 0 ≤ IntKind.u64.wrap x := by rw [show IntKind.u64.wrap x = x % 18446744073709551616 from rfl]; omega
  refine ⟨((IntKind.u64.wrap x).tmod 3).toNat, ?_, ?_⟩
  · rw [Int.tmod_eq_emod_of_nonneg h0]; omega
  · rw [Int.tmod_eq_emod_of_nonneg h0]; omega
set_option maxRecDepth 100000 in
set_option maxHeartbeats 4000000 in
theorem queryBad_walk {w : World} (a0 : ByteArray) (a1 : Int) (b0 : a0.size ≤ 140737488351232) (w1 : (Lit.int .i64 a1).wf = true) :
    Calls Try.prog 11 #[.string a0, .int .i64 a1] w fun e w' => e = .returned (.bool true) ∧ Below w.heap.size w w' := by
  have h1 := fun W g hg => rsgput_one 1 Qb.p W g hg qb_wf (by decide)
  have hfs : (Sg.fileB (Sg.bodyB 1 [Qb.p])).size ≤ 5000 := by rw [file_size]; have := body_le (r := 1) qb_rise; omega
  rw [putR_good (by omega) qb_rise] at h1
  have hS : Qb.S = Sg.fileB (Sg.bodyB 1 [Qb.p]) := rfl
  rw [← hS] at h1 hfs
  simp only [Qb.p] at h1
  have H1 := fun W g hg => Lib.hid (h1 W g hg)
  obtain ⟨k, hk, hkp⟩ := pick3 a1
  have HOk := Lib.hid (qb_ok a0 k hk)
  have HG := fun W => Lib.hid (rsgget_any a0 W (by omega))
  have Hsz : Hid (∀ s ∈ [Qb.S, Qb.S, Qb.S].set k a0, s.size ≤ 140737488355328) := fun s hs => by
    rcases List.mem_or_eq_of_mem_set hs with h | h
    · simp only [List.mem_cons, List.not_mem_nil, or_false, or_self] at h; rw [h]; omega
    · rw [h]; omega
  obtain ⟨X, hX⟩ : ∃ X, X = [Qb.S, Qb.S, Qb.S].set k a0 := ⟨_, rfl⟩
  rw [← hX] at HOk Hsz
  have hXl : X.length = 3 := by rw [hX]; simp
  have HX := Lib.hid hX
  have HXl := Lib.hid hXl
  have HPl := Lib.hid (ptsOf_len X)
  clear h1 hS hX hXl w1
  generalize Qb.S = S at *
  generalize Sg.getR a0 = q at *
  obtain ⟨qr, qp, qe⟩ := q
  dsimp only at HOk HG
  unfold GetPost at HG
  dsimp only at HG
  go_enter Try.func11, Try.ntmps11
  go_wp2_with fail
  refine (awake15 _).mono ?_
  rintro e w1 ⟨rfl, hb1⟩
  have Hb1 := Lib.hid hb1
  have hs1 := hb1.size
  clear hb1
  go_wp2_with fail
  refine (H1 w1 _ rfl).out.mono ?_
  rintro e w2 ⟨rfl, hb2⟩
  have Hb2 : Hid (Below w.heap.size w w2) := (Hb1.out.alloc hs1 _).trans (hb2.mono (by omega))
  have hs2 := Hb2.out.size
  clear hb2 H1
  simp only
  go_wp2_with fail
  refine (HG _).out.mono ?_
  rintro e w3 ⟨v3, rfl, hown3, hb3⟩
  have Hb3 : Hid (Below w.heap.size w w3) := Hb2.out.trans (hb3.mono hs2)
  have hs3 := Hb3.out.size
  clear hown3 hb3 HG
  have hkI0 : (0 : Int) ≤ (k : Int) := by omega
  have hkI : (k : Int) < 3 := by omega
  go_wp2_with fail
  have hXm : [Value.string S, Value.string S, Value.string S].set k (.string a0) = X.map Value.string := by rw [HX.out, List.map_set]; rfl
  rw [hXm]
  have hA := Blk.new w3 9 (X.map Value.string).toArray
  have hAb : Below w3.heap.size w3 (w3.alloc (.cells (X.map Value.string).toArray 9)) := (Below.refl _ _).alloc (Nat.le_refl _) _
  have hAs : (w3.alloc (.cells (X.map Value.string).toArray 9)).heap.size = w3.heap.size + 1 := by simp
  have hB := Blk.new (w3.alloc (.cells (X.map Value.string).toArray 9)) 52 #[.string ⟨#[115]⟩, .int .i64 1, .int .i64 9]
  have hAB := hA.alloc (.cells #[.string ⟨#[115]⟩, .int .i64 1, .int .i64 9] 52)
  have hBb : Below w3.heap.size w3 ((w3.alloc (.cells (X.map Value.string).toArray 9)).alloc (.cells #[.string ⟨#[115]⟩, .int .i64 1, .int .i64 9] 52)) := hAb.alloc (by omega) _
  have hBs : ((w3.alloc (.cells (X.map Value.string).toArray 9)).alloc (.cells #[.string ⟨#[115]⟩, .int .i64 1, .int .i64 9] 52)).heap.size = w3.heap.size + 2 := by simp
  rw [hAs] at hB
  generalize ((w3.alloc (.cells (X.map Value.string).toArray 9)).alloc (.cells #[.string ⟨#[115]⟩, .int .i64 1, .int .i64 9] 52)) = w4 at *
  have Hb4 : Hid (Below w.heap.size w w4) := Hb3.out.trans (hBb.mono hs3)
  have hrX : Reads w4 (w3.heap.size + 1) 1 (some ⟨w3.heap.size, 0, none⟩) X.length (X.map Value.string) := reads_blk hAB (by rw [List.length_map, Nat.mul_one])
  have hrq : Reads w4 (w3.heap.size + 2) 3 (some ⟨w3.heap.size + 1, 0, none⟩) 1 ([Qb.q].flatMap pointCells) := reads_blk hB rfl
  have HL := Lib.hid (last_any (some ⟨w3.heap.size, 0, none⟩) 3 X (some ⟨w3.heap.size + 1, 0, none⟩, 1, [Qb.q]) ⟨#[115]⟩ 1 w4 (w3.heap.size + 2) (hrX.more (by omega)) hrq (by omega) (by rw [HXl.out]; decide) Hsz.out (by show 1 ≤ _; omega))
  have HLc := Lib.hid (last_code X [Qb.q] ⟨#[115]⟩ 1)
  have HRX := Lib.hid hrX
  have hg3 : w3.heap.size + 1 ≤ w4.heap.size := by omega
  unfold layV LastPost at HL
  dsimp only at HL
  rw [HXl.out] at HL
  clear hA hAb hAs hB hAB hBb hBs hrX hrq hXm
  generalize Qr.lastR X [Qb.q] ⟨#[115]⟩ 1 = lr at *
  obtain ⟨l1, l2, l3⟩ := lr
  dsimp only at HL HLc
  refine HL.out.mono ?_
  rintro e w5 ⟨rfl, hb5⟩
  have hs4 := Hb4.out.size
  have hs45 := hb5.size
  have Hb5 : Hid (Below w.heap.size w w5) := Hb4.out.trans (hb5.mono hs4)
  have hs5 := Hb5.out.size
  have HR := Lib.hid (range_any (some ⟨w3.heap.size, 0, none⟩) 3 X (none, 0, []) ⟨#[115]⟩ 0 5 w5 w4.heap.size ((HRX.out.more hg3).below hb5) hs45 (by rw [HXl.out]; decide) Hsz.out Reads.none_ (by have := HPl.out []; rw [HXl.out] at this; simp only [List.length_nil] at this; dsimp only; omega))
  have HRc := Lib.hid (range_code X [] ⟨#[115]⟩ 0 5)
  have HRn := Lib.hid (range_none X [] ⟨#[115]⟩ 0 5)
  unfold layV RangePost at HR
  dsimp only [List.length_nil] at HR
  rw [HXl.out] at HR
  clear hb5 HL HRX HPl Hsz
  generalize Qm.rangeR X [] ⟨#[115]⟩ 0 5 = rr at *
  obtain ⟨r1, r2⟩ := rr
  dsimp only at HR HRc HRn
  go_wp2_with fail
  refine HR.out.mono ?_
  rintro e w6 ⟨v6, rfl, hown6, hb6⟩
  have Hb6 : Hid (Below w.heap.size w w6) := Hb5.out.trans (hb6.mono hs5)
  obtain ⟨A6, c6, rfl, _, _⟩ := own_slice hown6
  clear hown6 hb6 HR
  by_cases he : qe = 0
  · have hok : Qr.okS X = true := by rw [HOk.out]; exact decide_eq_true he
    have hl3 : l3 = 0 := by rw [HLc.out, if_pos hok]
    have hr2 : r2 = 0 := by rw [HRc.out, if_pos hok]
    subst hl3; subst hr2; subst he
    clear HLc HRc HRn HOk
    go_wp2_with fail
    refine (errno_any _ _).mono ?_
    rintro e w' ⟨rfl, rfl⟩
    go_wp2_with fail
    refine (errno_any _ _).mono ?_
    rintro e w' ⟨rfl, rfl⟩
    go_wp2_with fail
    go_ret
    exact ⟨rfl, Hb6.out⟩
  · have hok : Qr.okS X = false := by rw [HOk.out]; exact decide_eq_false he
    have hn : ¬ Qr.okS X = true := by rw [hok]; decide
    have hl3 : l3 = 1500 := by rw [HLc.out, if_neg hn]
    have hr2 : r2 = 1500 := by rw [HRc.out, if_neg hn]
    have hr1 : r1 = [] := HRn.out hok
    subst hl3; subst hr2; subst hr1
    clear HLc HRc HRn HOk
    go_wp2_with fail
    refine (errno_any _ _).mono ?_
    rintro e w' ⟨rfl, rfl⟩
    go_wp2_with fail
    refine (errno_any _ _).mono ?_
    rintro e w' ⟨rfl, rfl⟩
    go_wp2_with fail
    go_ret
    exact ⟨rfl, Hb6.out⟩
end Go.Proofs.Ythdbmgjlegpbaaa
