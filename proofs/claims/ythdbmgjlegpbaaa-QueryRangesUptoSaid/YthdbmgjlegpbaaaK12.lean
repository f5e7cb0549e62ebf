/- Joined texts: QmMerge2, QmRoot. -/
import Derived.Test.YthdbmgjlegpbaaaK11
import Derived.Test.YthdbmgjlegpbaaaK2
import Derived.Test.YthdbmgjlegpbaaaK8
import Derived.BigRegion
/- The walk through query.Merge. -/
namespace Go.Proofs.Ythdbmgjlegpbaaa
open Go.RowKit
set_option linter.unusedVariables false

namespace Qm
theorem step_skip {l : List Pt.Point} {k : Nat} {p q : Pt.Point} (hk : l[k]? = some p) (hq : l[k + 1]? = some q) (h : Pt.cmpP p q = 0) {out : List Pt.Point} (hd : dd l = out ++ dd (l.drop k)) : dd l = out ++ dd (l.drop (k + 1)) := by
  obtain ⟨h1, rfl⟩ := List.getElem?_eq_some_iff.1 hk
  obtain ⟨h2, rfl⟩ := List.getElem?_eq_some_iff.1 hq
  rw [hd, List.drop_eq_getElem_cons h1, List.drop_eq_getElem_cons h2, dd_skip h]
theorem step_keep {l : List Pt.Point} {k : Nat} {p : Pt.Point} (hk : l[k]? = some p) (h : ∀ q, l[k + 1]? = some q → ¬ Pt.cmpP p q = 0) {out : List Pt.Point} (hd : dd l = out ++ dd (l.drop k)) : dd l = (out ++ [p]) ++ dd (l.drop (k + 1)) := by
  obtain ⟨h1, rfl⟩ := List.getElem?_eq_some_iff.1 hk
  rw [hd, List.drop_eq_getElem_cons h1, dd_keep, List.append_assoc, List.singleton_append]
  intro q s e
  refine h q ?_
  have := congrArg (·[0]?) e
  simpa using this
theorem step_end {l out : List Pt.Point} {k : Nat} (hk : l.length ≤ k) (hd : dd l = out ++ dd (l.drop k)) : out = dd l := by
  rw [List.drop_eq_nil_of_le hk] at hd
  rw [hd, show dd [] = [] from rfl, List.append_nil]
end Qm
set_option maxRecDepth 100000 in
set_option maxHeartbeats 4000000 in
theorem merge_any (a b : Lay) (B : Nat) (w : World) (ha : Reads w B 3 a.1 a.2.2.length (a.2.2.flatMap pointCells)) (hb : Reads w B 3 b.1 b.2.2.length (b.2.2.flatMap pointCells)) (hB : B ≤ w.heap.size) (hn : a.2.2.length + b.2.2.length ≤ 1099511627776) :
    Calls Try.prog 31 #[layV a, layV b] w (RowOf w (Qm.mergeP a.2.2 b.2.2)) := by
  obtain ⟨i0, hi, hz0, hz1, hz2⟩ := info_parts info_point
  have hC : Hid (Calls Try.prog 55 #[.slice (some ⟨w.heap.size, 0, none⟩) 2 2] (w.alloc (.cells #[layV a, layV b] 38)) (RowOf (w.alloc (.cells #[layV a, layV b] 38)) (a.2.2 ++ b.2.2))) := by
    have h := concat_any (some ⟨w.heap.size, 0, none⟩) 2 (w.heap.size + 1) [a, b] (w.alloc (.cells #[layV a, layV b] 38)) (Reads.new w _ 1 2 [layV a, layV b] rfl) ?_ (by simp) ?_ (by show 2 ≤ _; omega)
    · have e : Qm.flatL [a, b] = a.2.2 ++ b.2.2 := by simp [Qm.flatL]
      rw [e] at h
      exact h
    · intro y hy
      simp only [List.mem_cons, List.not_mem_nil, or_false] at hy
      rcases hy with rfl | rfl
      · exact (ha.alloc hB _).more (by omega)
      · exact (hb.alloc hB _).more (by omega)
    · simp [Qm.flatL]; omega
  obtain ⟨qs, hqs⟩ : ∃ qs, qs = a.2.2 ++ b.2.2 := ⟨_, rfl⟩
  have Hqs := Lib.hid hqs
  have hql : qs.length ≤ 1099511627776 := by rw [hqs, List.length_append]; exact hn
  rw [← hqs] at hC
  have HM : Hid (Qm.mergeP a.2.2 b.2.2 = Ig.setAll [] qs) := by show _ = _; rw [hqs]; rfl
  obtain ⟨aa, ac, pa⟩ := a
  obtain ⟨ba, bc, pb⟩ := b
  clear ha hb hqs hn
  unfold layV at *
  dsimp only at *
  have Hbw0 : Hid (Below w.heap.size w (w.alloc (.cells #[.slice aa pa.length ac, .slice ba pb.length bc] 38))) := (Below.refl _ _).alloc (Nat.le_refl _) _
  have hsz0 := Hbw0.out.size
  go_enter Try.func31, Try.ntmps31
  go_wp2_with fail
  generalize (w.alloc (.cells #[.slice aa pa.length ac, .slice ba pb.length bc] 38)) = W0 at *
  refine hC.out.mono ?_
  rintro e w1 ⟨v1, rfl, hown1, hb1⟩
  have Hb1 : Hid (Below w.heap.size w w1) := Hbw0.out.trans (hb1.mono hsz0)
  have HS := Lib.hid (sortP_any W0.heap.size v1 qs w1 hown1 (by omega))
  have Hlt : Hid (∀ g, v1.ownBlock = some g → W0.heap.size ≤ g) := fun g hg => (hown1.lt g hg).1
  have Hown1 := Lib.hid hown1
  clear hown1 hb1 hC Hbw0
  obtain ⟨A1, c1, rfl, hnc1, _⟩ := own_slice Hown1.out
  unfold cmpF at HS
  go_wp2_with fail
  refine HS.out.mono ?_
  rintro e w2 ⟨l, rfl, hl, hown2, ho2, hasc, hst⟩
  have hb2 : Below w.heap.size w1 w2 := ho2.below (fun k hk e => by have := Hlt.out k e; omega) Hb1.out.size
  have Hb2 : Hid (Below w.heap.size w w2) := Hb1.out.trans hb2
  have HF : Hid (Qm.dd l = Qm.mergeP pa pb) := by show _ = _; rw [HM.out]; exact Qm.dd_set hasc hst
  have Hl := Lib.hid hl
  have Hown2 := Lib.hid hown2
  have hll : l.length ≤ 1099511627776 := by omega
  have hle1 := Nat.le_of_eq hl
  have hle2 := Nat.le_of_eq hl.symm
  have hown2b := hown2
  rw [hl] at hown2b
  have Hr2 := Lib.hid (Reads.of_own hown2b)
  clear hown2 hown2b ho2 hasc hst hb2 hl HS Hown1 HM Hlt Hb1
  have hsw2 := Hb2.out.size
  go_wp2_with fail
  go_loopw [6, 7, 8, 17] (fun vo _ _ i wr => ∃ (k : Nat) (out : List Pt.Point), k ≤ qs.length ∧ i = .int .i64 (k : Int) ∧ out.length ≤ k ∧ Hid (Qm.dd l = out ++ Qm.dd (l.drop k)) ∧ Hid (wr.ownsRow w2.heap.size 52 3 vo out.length (out.flatMap pointCells)) ∧ Hid (Below w2.heap.size w2 wr)) (fun _ _ _ i _ => qs.length - (intOf i).toNat)
  case atStart => exact ⟨0, [], Nat.zero_le _, rfl, Nat.zero_le _, Lib.hid (by simp), Lib.hid (own_nil _ _ _ _), Lib.hid (Below.refl _ _)⟩
  case round =>
    obtain ⟨k, out, hk, rfl, hol, hd, hown, hbw⟩ := hrel
    have hsw := hbw.out.size
    by_cases hlt : k < qs.length
    · have hkl : k < l.length := by omega
      obtain ⟨b, off, rfl, hbl, hc⟩ := Hr2.out.2 (by omega)
      obtain ⟨p, hp⟩ : ∃ p, l[k]? = some p := ⟨_, List.getElem?_eq_getElem hkl⟩
      have hcp := pt_cells (wr := wr) hkl hc (fun p hp => hbw.out.cell (p := p) hp) hbl
      have hpe : l[k] = p := (List.getElem?_eq_some_iff.1 hp).2
      rw [hpe] at hcp
      have Hp := Lib.hid hp
      clear hp hpe
      obtain ⟨pn, pt, pv⟩ := p
      dsimp only at hcp
      obtain ⟨cp0, cp1, cp2⟩ := hcp
      by_cases hlt2 : k + 1 < qs.length
      · have hkl2 : k + 1 < l.length := by omega
        obtain ⟨q, hq⟩ : ∃ q, l[k + 1]? = some q := ⟨_, List.getElem?_eq_getElem hkl2⟩
        have hqe : l[k + 1] = q := (List.getElem?_eq_some_iff.1 hq).2
        have hcq := fun x : Aft (wr.heap.size + 1) (wr.alloc (.cells #[.string pn, .int .i64 pt, .int .i64 pv] 52)) => pt_cells (wr := x.world) hkl2 hc (fun p hp => (x.below.cell (p := p) (by omega)).trans ((World.cell?_alloc_lt wr _ p (by omega)).trans (hbw.out.cell (p := p) hp))) hbl
        rw [hqe] at hcq
        have Hq := Lib.hid hq
        clear hq hqe hc
        obtain ⟨qn, qt, qv⟩ := q
        dsimp only at hcq
        have y0 := fun x => (hcq x).1
        have y1 := fun x => (hcq x).2.1
        have y2 := fun x => (hcq x).2.2
        clear hcq
        obtain ⟨W, hW⟩ : ∃ W, W = wr.alloc (.cells #[.string pn, .int .i64 pt, .int .i64 pv] 52) := ⟨_, rfl⟩
        rw [← hW] at y0 y1 y2
        have hWs : W.heap.size = wr.heap.size + 1 := by rw [hW]; simp
        have hBx : Blk W wr.heap.size 52 #[.string pn, .int .i64 pt, .int .i64 pv] := by rw [hW]; exact Blk.new _ _ _
        have hbwW : Hid (Below w2.heap.size w2 W) := by show Below _ _ _; rw [hW]; exact hbw.out.alloc hsw _
        have hownW : Hid (W.ownsRow w2.heap.size 52 3 u6 out.length (out.flatMap pointCells)) := by show World.ownsRow _ _ _ _ _ _ _; rw [hW]; exact hown.out.alloc _
        obtain ⟨bx, hbx⟩ : ∃ bx, bx = wr.heap.size := ⟨_, rfl⟩
        rw [← hbx] at hBx y0 y1 y2 hWs
        have x0 := fun x : Aft (bx + 1) W => (pt3_of (hBx.below x.below (by omega))).1
        have x1 := fun x : Aft (bx + 1) W => (pt3_of (hBx.below x.below (by omega))).2.1
        have x2 := fun x : Aft (bx + 1) W => (pt3_of (hBx.below x.below (by omega))).2.2
        have hbB : bx + 1 ≤ W.heap.size := by omega
        have HBx := Lib.hid hBx
        have HW := Lib.hid hW
        have Hbx := Lib.hid hbx
        have hbx2 : w2.heap.size ≤ bx := by omega
        have hbB2 : W.heap.size ≤ bx + 1 := by omega
        clear hown hbw hBx hW hbx hWs
        have H1 := fun W => Lib.hid (compare_any (pn, pt, pv) (qn, qt, qv) W)
        have hq0 : (0 : Int) ≤ (k : Int) + 1 := by omega
        have hq1 : (k : Int) + 1 < (qs.length : Int) := by omega
        have hw1 : IntKind.i64.wrap ((k : Int) + 1) = (k : Int) + 1 := IntWalk.i64_in _ (by omega)
        have hda : decide ((k : Int) + 1 < (qs.length : Int)) = true := decide_eq_true (by omega)
        have HS1 := Lib.hid (fun h => Qm.step_skip Hp.out Hq.out h hd.out)
        have HS2 : Hid (¬ Pt.cmpP (pn, pt, pv) (qn, qt, qv) = 0 → Qm.dd l = (out ++ [(pn, pt, pv)]) ++ Qm.dd (l.drop (k + 1))) := fun h => Qm.step_keep Hp.out (fun q' e => by rw [Hq.out] at e; cases e; exact h) hd.out
        clear hd Hq
        generalize Pt.cmpP (pn, pt, pv) (qn, qt, qv) = cv at *
        by_cases hm : cv = 0
        · have hmb : decide (cv = 0) = true := decide_eq_true hm
          have HD := Lib.hid (HS1.out hm)
          clear HS1 HS2
          subst hm
          go_wp2_with fail
          rw [← HW.out, ← Hbx.out]
          refine wp_region_aft (bx + 1) W (by kernel_rfl) (by kernel_rfl) (Below.refl _ _) ?_
          repeat (go_big_quiet_step (first | (go_at_call 57; with_reducible exact aft_new hbB (Hid.out (H1 _)))))
          refine wpQuiet_nil ?_
          rintro _ ⟨x, rfl⟩
          have Hbw3 : Hid (Below w2.heap.size w2 x.world) := hbwW.out.trans (x.below.mono (by omega))
          have Hown3 := Lib.hid (own_only hownW.out (Only.new (fun _ => False) (x.below.mono hbB2)) (fun _ _ q => q))
          have HBx3 := Lib.hid (Blk.below HBx.out x.below (by omega))
          clear x0 x1 x2 y0 y1 y2 hownW hbwW HBx H1
          generalize x.world = w3 at *
          go_wp2_with fail
          go_roundw
          case rel => exact ⟨k + 1, out, by omega, by go_num, by omega, HD, Hown3, Hbw3⟩
          case measure => simp [intOf]; omega
        · have hmb : decide (cv = 0) = false := decide_eq_false hm
          have HD := Lib.hid (HS2.out hm)
          clear HS1 HS2
          go_wp2_with fail
          rw [← HW.out, ← Hbx.out]
          refine wp_region_aft (bx + 1) W (by kernel_rfl) (by kernel_rfl) (Below.refl _ _) ?_
          repeat (go_big_quiet_step (first | (go_at_call 57; with_reducible exact aft_new hbB (Hid.out (H1 _)))))
          refine wpQuiet_nil ?_
          rintro _ ⟨x, rfl⟩
          have Hbw3 : Hid (Below w2.heap.size w2 x.world) := hbwW.out.trans (x.below.mono (by omega))
          have Hown3 := Lib.hid (own_only hownW.out (Only.new (fun _ => False) (x.below.mono hbB2)) (fun _ _ q => q))
          have HBx3 := Lib.hid (Blk.below HBx.out x.below (by omega))
          clear x0 x1 x2 y0 y1 y2 hownW hbwW HBx H1
          generalize x.world = w3 at *
          have hs3 := Hbw3.out.size
          obtain ⟨z0, z1, z2⟩ := pt3_of HBx3.out
          go_wp2_with (at_builtin; refine wpList_push _ rfl _ _ 38 rfl w2.heap.size 52 i0 _ 3 32 Try.underlying38 hi hz0 hz1 hz2 rfl (by decide) _ out.length (out.flatMap pointCells) (by rfl) Hown3.out [.string pn, .int .i64 pt, .int .i64 pv] (by rfl) rfl (by simp [Value.oneCell']) (by unfold maxLen; omega) (by omega) w2 Hbw3.out hs3 ?_; intro v8 w8 hown8 hb8)
          have Hown8 : Hid (w8.ownsRow w2.heap.size 52 3 v8 (out ++ [(pn, pt, pv)]).length ((out ++ [(pn, pt, pv)]).flatMap pointCells)) := by
            show World.ownsRow _ _ _ _ _ _ _
            rw [List.length_append, List.flatMap_append]; exact hown8
          have Hb8 := Lib.hid hb8
          clear hown8 hb8 z0 z1 z2
          go_wp2_with fail
          go_roundw
          case rel => exact ⟨k + 1, out ++ [(pn, pt, pv)], by omega, by go_num, by rw [List.length_append]; show _ + 1 ≤ _; omega, HD, Hown8, Hb8⟩
          case measure => simp [intOf]; omega
      · have hda : decide ((k : Int) + 1 < (qs.length : Int)) = false := decide_eq_false (by omega)
        have hw1 : IntKind.i64.wrap ((k : Int) + 1) = (k : Int) + 1 := IntWalk.i64_in _ (by omega)
        have HD : Hid (Qm.dd l = (out ++ [(pn, pt, pv)]) ++ Qm.dd (l.drop (k + 1))) := Qm.step_keep Hp.out (fun q' e => by have := (List.getElem?_eq_some_iff.1 e).1; omega) hd.out
        clear hd hc
        obtain ⟨W, hW⟩ : ∃ W, W = wr.alloc (.cells #[.string pn, .int .i64 pt, .int .i64 pv] 52) := ⟨_, rfl⟩
        have hWs : W.heap.size = wr.heap.size + 1 := by rw [hW]; simp
        have hBx : Blk W wr.heap.size 52 #[.string pn, .int .i64 pt, .int .i64 pv] := by rw [hW]; exact Blk.new _ _ _
        have hbwW : Hid (Below w2.heap.size w2 W) := by show Below _ _ _; rw [hW]; exact hbw.out.alloc hsw _
        have hownW : Hid (W.ownsRow w2.heap.size 52 3 u6 out.length (out.flatMap pointCells)) := by show World.ownsRow _ _ _ _ _ _ _; rw [hW]; exact hown.out.alloc _
        obtain ⟨bx, hbx⟩ : ∃ bx, bx = wr.heap.size := ⟨_, rfl⟩
        rw [← hbx] at hBx hWs
        have x0 := fun x : Aft (bx + 1) W => (pt3_of (hBx.below x.below (by omega))).1
        have x1 := fun x : Aft (bx + 1) W => (pt3_of (hBx.below x.below (by omega))).2.1
        have x2 := fun x : Aft (bx + 1) W => (pt3_of (hBx.below x.below (by omega))).2.2
        have hbB : bx + 1 ≤ W.heap.size := by omega
        have HBx := Lib.hid hBx
        have HW := Lib.hid hW
        have Hbx := Lib.hid hbx
        have hbx2 : w2.heap.size ≤ bx := by omega
        have hbB2 : W.heap.size ≤ bx + 1 := by omega
        clear hown hbw hBx hW hbx hWs
        go_wp2_with fail
        rw [← HW.out, ← Hbx.out]
        refine wp_region_aft (bx + 1) W (by kernel_rfl) (by kernel_rfl) (Below.refl _ _) ?_
        repeat (go_big_quiet_step (fail))
        refine wpQuiet_nil ?_
        rintro _ ⟨x, rfl⟩
        have Hbw3 : Hid (Below w2.heap.size w2 x.world) := hbwW.out.trans (x.below.mono (by omega))
        have Hown3 := Lib.hid (own_only hownW.out (Only.new (fun _ => False) (x.below.mono hbB2)) (fun _ _ q => q))
        have HBx3 := Lib.hid (Blk.below HBx.out x.below (by omega))
        clear x0 x1 x2 hownW hbwW HBx
        generalize x.world = w3 at *
        have hs3 := Hbw3.out.size
        obtain ⟨z0, z1, z2⟩ := pt3_of HBx3.out
        go_wp2_with (at_builtin; refine wpList_push _ rfl _ _ 38 rfl w2.heap.size 52 i0 _ 3 32 Try.underlying38 hi hz0 hz1 hz2 rfl (by decide) _ out.length (out.flatMap pointCells) (by rfl) Hown3.out [.string pn, .int .i64 pt, .int .i64 pv] (by rfl) rfl (by simp [Value.oneCell']) (by unfold maxLen; omega) (by omega) w2 Hbw3.out hs3 ?_; intro v8 w8 hown8 hb8)
        have Hown8 : Hid (w8.ownsRow w2.heap.size 52 3 v8 (out ++ [(pn, pt, pv)]).length ((out ++ [(pn, pt, pv)]).flatMap pointCells)) := by
          show World.ownsRow _ _ _ _ _ _ _
          rw [List.length_append, List.flatMap_append]; exact hown8
        have Hb8 := Lib.hid hb8
        clear hown8 hb8 z0 z1 z2
        go_wp2_with fail
        go_roundw
        case rel => exact ⟨k + 1, out ++ [(pn, pt, pv)], by omega, by go_num, by rw [List.length_append]; show _ + 1 ≤ _; omega, HD, Hown8, Hb8⟩
        case measure => simp [intOf]; omega
    · have HE := Lib.hid (Qm.step_end (by omega) hd.out)
      clear hd
      go_wp2_with fail
      go_ret
      refine ⟨_, rfl, ?_, Hb2.out.trans (hbw.out.mono hsw2)⟩
      rw [← HF.out, ← HE.out]
      exact own_down hown.out hsw2
end Go.Proofs.Ythdbmgjlegpbaaa
/- The texts that the laws of chapter 15 with query.Merge stand on. -/
namespace Go.Proofs.Ythdbmgjlegpbaaa
theorem qmRoot : True := trivial
end Go.Proofs.Ythdbmgjlegpbaaa
