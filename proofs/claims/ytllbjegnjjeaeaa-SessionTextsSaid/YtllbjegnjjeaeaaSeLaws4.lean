/- The walk through SessionStays. -/
import Derived.Test.YtllbjegnjjeaeaaSeLaws
namespace Go.Proofs.Ytllbjegnjjeaeaa
open Go.RowKit
set_option linter.unusedVariables false

theorem entry_cells {w : World} {g : Nat} {ev ec es en : Int} {bv : Value} (h : Blk w g 25 #[.int .i64 ev, .int .i64 ec, .int .i64 es, .int .i64 en, bv]) :
    w.cell? ⟨g, 0, none⟩ = some (.int .i64 ev) ∧ w.cell? ⟨g, 1, none⟩ = some (.int .i64 ec) ∧ w.cell? ⟨g, 2, none⟩ = some (.int .i64 es) ∧ w.cell? ⟨g, 3, none⟩ = some (.int .i64 en) ∧ w.cell? ⟨g, 4, none⟩ = some bv := ⟨h.cell 0, h.cell 1, h.cell 2, h.cell 3, h.cell 4⟩
set_option maxRecDepth 100000 in
set_option maxHeartbeats 2000000 in
theorem sessionStays_walk {w : World} (A0 : Option Addr) (c0 : Nat) (z0 : List Se.Row) (a1 : Int × Int × Int × Int) (B1 : Option Addr) (n1 d1 : Nat) (a2 : Int) (rd0 : Reads w w.heap.size 4 A0 z0.length (z0.flatMap rowCells)) (wf0 : ∀ f ∈ z0, (Lit.int .i64 f.1).wf = true ∧ (Lit.int .i64 f.2.1).wf = true ∧ (Lit.int .i64 f.2.2.1).wf = true ∧ (Lit.int .i64 f.2.2.2).wf = true) (nb0 : z0.length * 32 ≤ 140737488351232) (w1 : (Lit.int .i64 a1.1).wf = true ∧ (Lit.int .i64 a1.2.1).wf = true ∧ (Lit.int .i64 a1.2.2.1).wf = true ∧ (Lit.int .i64 a1.2.2.2).wf = true) (w2 : (Lit.int .i64 a2).wf = true) :
    Calls Try.prog 8 #[.slice A0 z0.length c0, .agg #[.int .i64 a1.1, .int .i64 a1.2.1, .int .i64 a1.2.2.1, .int .i64 a1.2.2.2, .slice B1 n1 d1], .int .i64 a2] w fun e w' => e = .returned (.bool true) ∧ Below w.heap.size w w' := by
  have Hr0 := Lib.hid rd0
  have HA := fun W (hb : Below w.heap.size w W) => Lib.hid (apply_any A0 c0 z0 a1.1 a1.2.1 a1.2.2.1 a1.2.2.2 a2 B1 n1 d1 W w.heap.size (Hr0.out.below hb) hb.size (by omega))
  have HE := Lib.hid (fun h => @Se.apply_effect z0 a1.2.2.1 a1.2.2.2 a2 h)
  have HS := Lib.hid (fun h => @Se.apply_still z0 a1.2.2.1 a1.2.2.2 a2 h)
  generalize Se.applyR z0 a1.2.2.1 a1.2.2.2 a2 = q at *
  obtain ⟨q1, q2, q3⟩ := q
  obtain ⟨ev, ec, es, en⟩ := a1
  simp only at HE HS HA
  clear wf0 rd0 w1 w2
  have hE := Blk.new w 25 #[.int .i64 ev, .int .i64 ec, .int .i64 es, .int .i64 en, .slice B1 n1 d1]
  have hb1 : Below w.heap.size w (w.alloc (.cells #[.int .i64 ev, .int .i64 ec, .int .i64 es, .int .i64 en, .slice B1 n1 d1] 25)) := (Below.refl _ _).alloc (Nat.le_refl _) _
  have HEb := Lib.hid hE
  have Hb1 := Lib.hid hb1
  clear hE hb1
  unfold entryCells at *
  cases q3
  · have hst := HS.out rfl
    subst hst
    clear HE HS
    go_enter Try.func8, Try.ntmps8
    go_wp2_with fail
    generalize w.alloc (.cells #[.int .i64 ev, .int .i64 ec, .int .i64 es, .int .i64 en, .slice B1 n1 d1] 25) = wA at *
    have hsA := Hb1.out.size
    refine (awake10 _).mono ?_
    rintro e w1 ⟨rfl, hb1⟩
    obtain ⟨e0, e1, e2, e3, e4⟩ := entry_cells (Blk.below HEb.out hb1 HEb.out.lt)
    have Hb2 : Hid (Below w.heap.size w w1) := Hb1.out.trans (hb1.mono hsA)
    have hs2 := Hb2.out.size
    clear hb1
    go_wp2_with fail
    refine (HA w1 Hb2.out).out.mono ?_
    rintro e w3 ⟨v3, rfl, hown3, hb3⟩
    simp only at hown3
    obtain ⟨A3, c3, rfl, hnc3, hrd3⟩ := own_slice hown3
    have Hrd3 := Lib.hid hrd3
    have Hb3 : Hid (Below w.heap.size w w3) := Hb2.out.trans (hb3.mono hs2)
    clear hown3 hrd3 hb3 e0 e1 e2 e3 e4
    simp only
    go_wp2_with fail
    refine (sameRows_true A3 A0 c3 c0 q1 w3 w3.heap.size w.heap.size Hrd3.out (Hr0.out.below Hb3.out) (by omega)).mono ?_
    rintro e w7 ⟨rfl, n7, rfl⟩
    go_wp2_with fail
    go_ret
    exact ⟨rfl, below_drewN Hb3.out _⟩
  · obtain ⟨h1, h2, h3⟩ := HE.out rfl
    subst h1
    have hd1 : decide (1 ≤ q2) = true := decide_eq_true h2
    have hqq : (q2 == q2) = true := by simp
    have h3' : (q1.length : Int) ≤ 4 := by omega
    clear HE HS
    go_enter Try.func8, Try.ntmps8
    go_wp2_with fail
    generalize w.alloc (.cells #[.int .i64 ev, .int .i64 ec, .int .i64 es, .int .i64 en, .slice B1 n1 d1] 25) = wA at *
    have hsA := Hb1.out.size
    refine (awake10 _).mono ?_
    rintro e w1 ⟨rfl, hb1⟩
    obtain ⟨e0, e1, e2, e3, e4⟩ := entry_cells (Blk.below HEb.out hb1 HEb.out.lt)
    have Hb2 : Hid (Below w.heap.size w w1) := Hb1.out.trans (hb1.mono hsA)
    have hs2 := Hb2.out.size
    clear hb1
    go_wp2_with fail
    refine (HA w1 Hb2.out).out.mono ?_
    rintro e w3 ⟨v3, rfl, hown3, hb3⟩
    simp only at hown3
    obtain ⟨A3, c3, rfl, hnc3, hrd3⟩ := own_slice hown3
    have Hb3 : Hid (Below w.heap.size w w3) := Hb2.out.trans (hb3.mono hs2)
    clear hown3 hrd3 hb3 e0 e1 e2 e3 e4
    simp only
    go_wp2_with fail
    go_ret
    exact ⟨by first | rfl | (simp; omega), Hb3.out⟩
end Go.Proofs.Ytllbjegnjjeaeaa
