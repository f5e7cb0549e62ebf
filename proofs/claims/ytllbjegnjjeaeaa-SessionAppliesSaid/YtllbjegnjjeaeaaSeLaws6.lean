/- The walk through SessionApplies. -/
import Derived.Test.YtllbjegnjjeaeaaSeLaws4
import Derived.Test.YtllbjegnjjeaeaaSeRapply
import Derived.Test.YtllbjegnjjeaeaaSpoilRows
namespace Go.Proofs.Ytllbjegnjjeaeaa
open Go.RowKit
set_option linter.unusedVariables false

theorem apply_len (z : List Se.Row) (es en t : Int) : (Se.applyR z es en t).1.length ≤ z.length + 4 := by
  cases h : (Se.applyR z es en t).2.2
  · rw [Se.apply_still h]; omega
  · have := (Se.apply_effect h).2.2; omega
set_option maxRecDepth 100000 in
set_option maxHeartbeats 4000000 in
theorem sessionApplies_walk {w : World} (A0 : Option Addr) (c0 : Nat) (z0 : List Se.Row) (a1 : Int × Int × Int × Int) (B1 : Option Addr) (n1 d1 : Nat) (a2 : Int) (rd0 : Reads w w.heap.size 4 A0 z0.length (z0.flatMap rowCells)) (wf0 : ∀ f ∈ z0, (Lit.int .i64 f.1).wf = true ∧ (Lit.int .i64 f.2.1).wf = true ∧ (Lit.int .i64 f.2.2.1).wf = true ∧ (Lit.int .i64 f.2.2.2).wf = true) (nb0 : z0.length * 32 ≤ 140737488351232) (w1 : (Lit.int .i64 a1.1).wf = true ∧ (Lit.int .i64 a1.2.1).wf = true ∧ (Lit.int .i64 a1.2.2.1).wf = true ∧ (Lit.int .i64 a1.2.2.2).wf = true) (w2 : (Lit.int .i64 a2).wf = true) :
    Calls Try.prog 3 #[.slice A0 z0.length c0, .agg #[.int .i64 a1.1, .int .i64 a1.2.1, .int .i64 a1.2.2.1, .int .i64 a1.2.2.2, .slice B1 n1 d1], .int .i64 a2] w fun e w' => e = .returned (.bool true) ∧ Below w.heap.size w w' := by
  have Hr0 := Lib.hid rd0
  have HA := fun g cap W B (hr : Reads W B 4 (some ⟨g, 0, none⟩) z0.length (z0.flatMap rowCells)) (hB : B ≤ W.heap.size) => Lib.hid (apply_any (some ⟨g, 0, none⟩) cap z0 a1.1 a1.2.1 a1.2.2.1 a1.2.2.2 a2 B1 n1 d1 W B hr hB (by omega))
  have HR := fun W (hb : Below w.heap.size w W) => Lib.hid (rapply_any A0 c0 z0 a1.1 a1.2.1 a1.2.2.1 a1.2.2.2 a2 B1 n1 d1 W w.heap.size (Hr0.out.below hb) hb.size (by omega))
  have HLd := fun W (hb : Below w.heap.size w W) => Lib.hid (lendRows_any A0 c0 z0 W w.heap.size (Hr0.out.below hb) hb.size nb0)
  have hql := apply_len z0 a1.2.2.1 a1.2.2.2 a2
  generalize Se.applyR z0 a1.2.2.1 a1.2.2.2 a2 = q at *
  obtain ⟨R, r, is⟩ := q
  obtain ⟨ev, ec, es, en⟩ := a1
  simp only at HA HR hql
  have hrr : (r != r) = false := by simp
  have hii : (is != is) = false := by simp
  clear wf0 rd0 w1 w2
  have hE := Blk.new w 25 #[.int .i64 ev, .int .i64 ec, .int .i64 es, .int .i64 en, .slice B1 n1 d1]
  have hb1 : Below w.heap.size w (w.alloc (.cells #[.int .i64 ev, .int .i64 ec, .int .i64 es, .int .i64 en, .slice B1 n1 d1] 25)) := (Below.refl _ _).alloc (Nat.le_refl _) _
  have HEb := Lib.hid hE
  have HbA := Lib.hid hb1
  clear hE hb1
  unfold entryCells at *
  go_enter Try.func3, Try.ntmps3
  go_wp2_with fail
  generalize w.alloc (.cells #[.int .i64 ev, .int .i64 ec, .int .i64 es, .int .i64 en, .slice B1 n1 d1] 25) = wA at *
  have hsA := HbA.out.size
  refine (HLd wA HbA.out).out.mono ?_
  rintro e w1 ⟨g, cap, rfl, hg, hcap, hmax, hown1, hb1⟩
  have hrX := Reads.of_own hown1
  have hrH := hrX.head (xs := z0.flatMap rowCells) (ys := roomRows) (flat_length rowCells 4 (fun _ => rfl) z0)
  have HK := fun W (hx : Below w1.heap.size w1 W) (hw : Below w.heap.size w W) => Lib.hid (keptRows_true A0 g c0 cap z0 W w1.heap.size w.heap.size (hrX.below hx) (Hr0.out.below hw) hcap (by omega))
  have HrH := Lib.hid hrH
  have HE1 := Lib.hid (Blk.below HEb.out hb1 HEb.out.lt)
  have Hb1 : Hid (Below w.heap.size w w1) := HbA.out.trans (hb1.mono hsA)
  have hs1 := Hb1.out.size
  obtain ⟨e0, e1, e2, e3, e4⟩ := entry_cells HE1.out
  clear hown1 hb1 hrX hrH HLd Hr0 hg hmax HEb
  go_wp2_with fail
  refine (HA g cap w1 w1.heap.size HrH.out (Nat.le_refl _)).out.mono ?_
  rintro e w4 ⟨v4, rfl, hown4, hb4⟩
  simp only at hown4
  obtain ⟨A4, c4, rfl, hnc4, _⟩ := own_slice hown4
  have Hown4 := Lib.hid hown4
  have Hb4 := Lib.hid hb4
  have hs4 := hb4.size
  obtain ⟨f0, f1, f2, f3, f4⟩ := entry_cells (Blk.below HE1.out hb4 HE1.out.lt)
  clear hown4 hb4 e0 e1 e2 e3 e4
  simp only
  go_wp2_with fail
  refine (HA g cap w4 w1.heap.size (HrH.out.below Hb4.out) hs4).out.mono ?_
  rintro e w5 ⟨v5, rfl, hown5, hb5⟩
  simp only at hown5
  obtain ⟨A5, c5, rfl, hnc5, _⟩ := own_slice hown5
  have Hown5 := Lib.hid hown5
  have Hb5 := Lib.hid hb5
  have hs5 := hb5.size
  have Hb15 : Hid (Below w1.heap.size w1 w5) := Hb4.out.trans (hb5.mono hs4)
  obtain ⟨g0, g1, g2, g3, g4⟩ := entry_cells (Blk.below HE1.out Hb15.out HE1.out.lt)
  clear hown5 hb5 f0 f1 f2 f3 f4
  simp only
  go_wp2_with fail
  refine (HR w5 (Hb1.out.trans (Hb15.out.mono hs1))).out.mono ?_
  rintro e w6 ⟨v6, rfl, hown6, hb6⟩
  simp only at hown6
  obtain ⟨A6, c6, rfl, hnc6, _⟩ := own_slice hown6
  have Hown6 := Lib.hid hown6
  have Hb56 := Lib.hid hb6
  have Hb46 : Hid (Below w4.heap.size w4 w6) := Hb5.out.trans (hb6.mono hs5)
  have Hb16 : Hid (Below w1.heap.size w1 w6) := Hb4.out.trans (Hb46.out.mono hs4)
  have Hb06 : Hid (Below w.heap.size w w6) := Hb1.out.trans (Hb16.out.mono hs1)
  have HO4 := Lib.hid (own_only Hown4.out (Only.new (fun _ => False) Hb46.out) (fun _ _ h => h))
  have HO5 := Lib.hid (own_only Hown5.out (Only.new (fun _ => False) Hb56.out) (fun _ _ h => h))
  have Hlt4 : Hid (∀ k, Value.ownBlock (.slice A4 R.length c4) = some k → w1.heap.size ≤ k ∧ k < w4.heap.size) := fun k hk => own_lt Hown4.out hk
  clear hown6 hb6 g0 g1 g2 g3 g4
  simp only
  go_wp2_with fail
  refine (sameRows_true A4 A6 c4 c6 R w6 _ _ (Reads.of_own HO4.out) (Reads.of_own Hown6.out) (by omega)).mono ?_
  rintro e w7 ⟨rfl, n7, rfl⟩
  go_wp2_with fail
  refine (HK (w6.drewN n7) (below_drewN Hb16.out n7) (below_drewN Hb06.out n7)).out.mono ?_
  rintro e w8 ⟨rfl, n8, rfl⟩
  go_wp2_with fail
  refine (spoilRows_any A4 c4 R _ w1.heap.size (own_drewN HO4.out (n7 + n8)) (by omega)).mono ?_
  rintro e w9 ⟨rfl, ho9⟩
  have hO5' := own_only (own_drewN HO5.out (n7 + n8)) ho9 (fun g hg e => by have := (Hlt4.out g e).2; have := (own_lt HO5.out hg).1; omega)
  have hO6' := own_only (own_drewN Hown6.out (n7 + n8)) ho9 (fun g hg e => by have := (Hlt4.out g e).2; have := (own_lt Hown6.out hg).1; omega)
  have Hr5 := Lib.hid (Reads.of_own hO5')
  have Hr6 := Lib.hid (Reads.of_own hO6')
  have Hb19 : Hid (Below w1.heap.size w1 w9) := (below_drewN Hb16.out (n7 + n8)).trans (ho9.below (fun k hk e => by have := (Hlt4.out k e).1; omega) (below_drewN Hb16.out (n7 + n8)).size)
  have Hb09 : Hid (Below w.heap.size w w9) := Hb1.out.trans (Hb19.out.mono hs1)
  clear ho9 hO5' hO6'
  go_wp2_with fail
  refine (sameRows_true A5 A6 c5 c6 R _ _ _ Hr5.out Hr6.out (by omega)).mono ?_
  rintro e w10 ⟨rfl, n10, rfl⟩
  go_wp2_with fail
  refine (HK (w9.drewN n10) (below_drewN Hb19.out n10) (below_drewN Hb09.out n10)).out.mono ?_
  rintro e w11 ⟨rfl, n11, rfl⟩
  go_wp2_with fail
  refine (awake10 _).mono ?_
  rintro e w12 ⟨rfl, hb12⟩
  have Hb12 : Hid (Below w.heap.size w w12) := (below_drewN Hb09.out (n10 + n11)).trans (hb12.mono (below_drewN Hb09.out (n10 + n11)).size)
  clear hb12
  go_wp2_with fail
  go_ret
  exact ⟨rfl, Hb12.out⟩
end Go.Proofs.Ytllbjegnjjeaeaa
