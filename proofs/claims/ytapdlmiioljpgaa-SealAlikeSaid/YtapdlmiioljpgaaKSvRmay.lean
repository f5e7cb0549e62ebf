/- The walk through the reference's EntryMay (chapter 14). -/
import Derived.Test.YtapdlmiioljpgaaK3
import Derived.Test.YtapdlmiioljpgaaKPtRbatch
import Derived.BigQuiet
namespace Go.Proofs.Ytapdlmiioljpgaa
open Go.RowKit
set_option linter.unusedVariables false

theorem count_any (x : Int) (w : World) : Calls Try.prog 98 #[.int .i64 x] w fun e w' => e = .returned (.bool (Ig.numB x)) ∧ w = w' := by
  by_cases h0 : 0 ≤ x
  · by_cases h1 : x ≤ 2147483647
    · have hd : decide (x ≤ 2147483647) = true := decide_eq_true h1
      rw [Ig.num_yes (by omega) (by omega)]
      go_enter Try.func98, Try.ntmps98
      go_wp2_with fail
      go_ret
      exact ⟨rfl, rfl⟩
    · have hd : decide (x ≤ 2147483647) = false := decide_eq_false h1
      rw [Ig.num_no (by omega)]
      go_enter Try.func98, Try.ntmps98
      go_wp2_with fail
      go_ret
      exact ⟨rfl, rfl⟩
  · rw [Ig.num_no (by omega)]
    go_enter Try.func98, Try.ntmps98
    go_wp2_with fail
    go_ret
    exact ⟨rfl, rfl⟩
theorem Sv.may_eq (v c s n : Int) (bs : List Pt.Point) : Ig.mayB v c s n bs = (Ig.numB v && (Ig.numB c && (Ig.numB s && (Ig.numB n && (Pt.batchB bs && (decide (0 < s) || decide (bs.length = 0))))))) := by
  unfold Ig.mayB
  simp only [List.all_cons, List.all_nil, Bool.and_true, Bool.and_assoc]
set_option maxRecDepth 100000 in
set_option maxHeartbeats 2000000 in
theorem rentryMay_any (v c s n : Int) (A : Option Addr) (d : Nat) (ps : List Pt.Point) (w : World) (B : Nat) (hr : Reads w B 3 A ps.length (ps.flatMap pointCells)) (hB : B ≤ w.heap.size) (hn : ps.length ≤ 140737488355328) (hwf : ∀ p ∈ ps, Pt.wf p) :
    Calls Try.prog 55 #[.agg #[.int .i64 v, .int .i64 c, .int .i64 s, .int .i64 n, .slice A ps.length d]] w fun e w' => e = .returned (.bool (Ig.mayB v c s n ps)) ∧ Below w.heap.size w w' := by
  have HBt := fun W (hb : Below w.heap.size w W) => Lib.hid (rbatch_any A d ps W B (hr.below (hb.mono hB)) (by have := hb.size; omega) hn hwf)
  have HRes := Lib.hid (Sv.may_eq v c s n ps)
  have HC1 := fun W => Lib.hid (count_any v W)
  have HC2 := fun W => Lib.hid (count_any c W)
  have HC3 := fun W => Lib.hid (count_any s W)
  have HC4 := fun W => Lib.hid (count_any n W)
  have hE := Blk.new w 43 #[.int .i64 v, .int .i64 c, .int .i64 s, .int .i64 n, .slice A ps.length d]
  have hb1 : Below w.heap.size w (w.alloc (.cells #[.int .i64 v, .int .i64 c, .int .i64 s, .int .i64 n, .slice A ps.length d] 43)) := (Below.refl _ _).alloc (Nat.le_refl _) _
  have HE := Lib.hid hE
  have Hb1 := Lib.hid hb1
  have hs1 := hb1.size
  clear hr hwf hE hb1
  generalize Ig.mayB v c s n ps = res at *
  go_enter Try.func55, Try.ntmps55
  go_wp2_with fail
  generalize w.alloc (.cells #[.int .i64 v, .int .i64 c, .int .i64 s, .int .i64 n, .slice A ps.length d] 43) = w1 at *
  have hlt := HE.out.lt
  have x0 := HE.out.cell 0
  have x1 := HE.out.cell 1
  have x2 := HE.out.cell 2
  have x3 := HE.out.cell 3
  have x4 := HE.out.cell 4
  simp only [List.getElem?_toArray, List.getElem?_cons_zero, List.getElem?_cons_succ] at x0 x1 x2 x3 x4
  obtain ⟨d1, hd1⟩ : ∃ d1, decide (0 < s) = d1 := ⟨_, rfl⟩
  obtain ⟨d2, hd2⟩ : ∃ d2, decide (ps.length = 0) = d2 := ⟨_, rfl⟩
  have hd2' : ((ps.length : Int) == 0) = d2 := by
    rw [← hd2]
    by_cases h : ps.length = 0
    · rw [h]; rfl
    · rw [decide_eq_false h]; exact beq_eq_false_iff_ne.2 (by omega)
  rw [hd1, hd2] at HRes
  clear hd2
  generalize Ig.numB v = b1 at *
  generalize Ig.numB c = b2 at *
  generalize Ig.numB s = b3 at *
  generalize Ig.numB n = b4 at *
  generalize Pt.batchB ps = b5 at *
  have hcs : b1 = false ∨ (b1 = true ∧ b2 = false) ∨ (b1 = true ∧ b2 = true ∧ b3 = false) ∨ (b1 = true ∧ b2 = true ∧ b3 = true ∧ b4 = false) ∨ (b1 = true ∧ b2 = true ∧ b3 = true ∧ b4 = true ∧ b5 = false) ∨ (b1 = true ∧ b2 = true ∧ b3 = true ∧ b4 = true ∧ b5 = true ∧ d1 = true) ∨ (b1 = true ∧ b2 = true ∧ b3 = true ∧ b4 = true ∧ b5 = true ∧ d1 = false) := by
    cases b1 <;> cases b2 <;> cases b3 <;> cases b4 <;> cases b5 <;> cases d1 <;> simp
  rcases hcs with rfl | ⟨rfl, rfl⟩ | ⟨rfl, rfl, rfl⟩ | ⟨rfl, rfl, rfl, rfl⟩ | ⟨rfl, rfl, rfl, rfl, rfl⟩ | ⟨rfl, rfl, rfl, rfl, rfl, rfl⟩ | ⟨rfl, rfl, rfl, rfl, rfl, rfl⟩
  all_goals simp only [Bool.false_and, Bool.true_and, Bool.false_or, Bool.true_or] at HRes
  · go_wp2_with fail
    refine (HC1 _).out.mono ?_
    rintro e w' ⟨rfl, rfl⟩
    go_wp2_with fail
    go_ret
    exact ⟨ret_bool HRes.out.symm, Hb1.out⟩
  · go_wp2_with fail
    refine (HC1 _).out.mono ?_
    rintro e w' ⟨rfl, rfl⟩
    go_wp2_with fail
    refine (HC2 _).out.mono ?_
    rintro e w' ⟨rfl, rfl⟩
    go_wp2_with fail
    go_ret
    exact ⟨ret_bool HRes.out.symm, Hb1.out⟩
  · go_wp2_with fail
    refine (HC1 _).out.mono ?_
    rintro e w' ⟨rfl, rfl⟩
    go_wp2_with fail
    refine (HC2 _).out.mono ?_
    rintro e w' ⟨rfl, rfl⟩
    go_wp2_with fail
    refine (HC3 _).out.mono ?_
    rintro e w' ⟨rfl, rfl⟩
    go_wp2_with fail
    go_ret
    exact ⟨ret_bool HRes.out.symm, Hb1.out⟩
  · go_wp2_with fail
    refine (HC1 _).out.mono ?_
    rintro e w' ⟨rfl, rfl⟩
    go_wp2_with fail
    refine (HC2 _).out.mono ?_
    rintro e w' ⟨rfl, rfl⟩
    go_wp2_with fail
    refine (HC3 _).out.mono ?_
    rintro e w' ⟨rfl, rfl⟩
    go_wp2_with fail
    refine (HC4 _).out.mono ?_
    rintro e w' ⟨rfl, rfl⟩
    go_wp2_with fail
    go_ret
    exact ⟨ret_bool HRes.out.symm, Hb1.out⟩
  · go_wp2_with fail
    refine (HC1 _).out.mono ?_
    rintro e w' ⟨rfl, rfl⟩
    go_wp2_with fail
    refine (HC2 _).out.mono ?_
    rintro e w' ⟨rfl, rfl⟩
    go_wp2_with fail
    refine (HC3 _).out.mono ?_
    rintro e w' ⟨rfl, rfl⟩
    go_wp2_with fail
    refine (HC4 _).out.mono ?_
    rintro e w' ⟨rfl, rfl⟩
    go_wp2_with fail
    refine (HBt _ Hb1.out).out.mono ?_
    rintro e w2 ⟨rfl, hb2⟩
    have HE2 := Lib.hid (Blk.below HE.out hb2 HE.out.lt)
    have y2 := HE2.out.cell 2
    have y4 := HE2.out.cell 4
    simp only [List.getElem?_toArray, List.getElem?_cons_zero, List.getElem?_cons_succ] at y2 y4
    have Hb2 : Hid (Below w.heap.size w w2) := Hb1.out.trans (hb2.mono hs1)
    clear x0 x1 x2 x3 x4 hb2
    go_wp2_with fail
    go_ret
    exact ⟨ret_bool HRes.out.symm, Hb2.out⟩
  · go_wp2_with fail
    refine (HC1 _).out.mono ?_
    rintro e w' ⟨rfl, rfl⟩
    go_wp2_with fail
    refine (HC2 _).out.mono ?_
    rintro e w' ⟨rfl, rfl⟩
    go_wp2_with fail
    refine (HC3 _).out.mono ?_
    rintro e w' ⟨rfl, rfl⟩
    go_wp2_with fail
    refine (HC4 _).out.mono ?_
    rintro e w' ⟨rfl, rfl⟩
    go_wp2_with fail
    refine (HBt _ Hb1.out).out.mono ?_
    rintro e w2 ⟨rfl, hb2⟩
    have HE2 := Lib.hid (Blk.below HE.out hb2 HE.out.lt)
    have y2 := HE2.out.cell 2
    have y4 := HE2.out.cell 4
    simp only [List.getElem?_toArray, List.getElem?_cons_zero, List.getElem?_cons_succ] at y2 y4
    have Hb2 : Hid (Below w.heap.size w w2) := Hb1.out.trans (hb2.mono hs1)
    clear x0 x1 x2 x3 x4 hb2
    go_wp2_with fail
    go_ret
    exact ⟨ret_bool HRes.out.symm, Hb2.out⟩
  · go_wp2_with fail
    refine (HC1 _).out.mono ?_
    rintro e w' ⟨rfl, rfl⟩
    go_wp2_with fail
    refine (HC2 _).out.mono ?_
    rintro e w' ⟨rfl, rfl⟩
    go_wp2_with fail
    refine (HC3 _).out.mono ?_
    rintro e w' ⟨rfl, rfl⟩
    go_wp2_with fail
    refine (HC4 _).out.mono ?_
    rintro e w' ⟨rfl, rfl⟩
    go_wp2_with fail
    refine (HBt _ Hb1.out).out.mono ?_
    rintro e w2 ⟨rfl, hb2⟩
    have HE2 := Lib.hid (Blk.below HE.out hb2 HE.out.lt)
    have y2 := HE2.out.cell 2
    have y4 := HE2.out.cell 4
    simp only [List.getElem?_toArray, List.getElem?_cons_zero, List.getElem?_cons_succ] at y2 y4
    have Hb2 : Hid (Below w.heap.size w w2) := Hb1.out.trans (hb2.mono hs1)
    clear x0 x1 x2 x3 x4 hb2
    go_wp2_with fail
    go_ret
    exact ⟨ret_bool HRes.out.symm, Hb2.out⟩
end Go.Proofs.Ytapdlmiioljpgaa
