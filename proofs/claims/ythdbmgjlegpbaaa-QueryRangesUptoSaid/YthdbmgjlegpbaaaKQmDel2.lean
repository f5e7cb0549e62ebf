/- The walk through slices.DeleteFunc at points, with the closure of query.Range. -/
import Derived.Test.YthdbmgjlegpbaaaKQmDel
import Derived.Test.YthdbmgjlegpbaaaK10
import Derived.Shelf.RegionOpenPlain
namespace Go.Proofs.Ythdbmgjlegpbaaa
open Go.RowKit
set_option linter.unusedVariables false

def DelPost (w : World) (base : Nat) (v : Value) (l : List Pt.Point) (e : Ending) (w' : World) : Prop :=
  ∃ v', e = .returned v' ∧ w'.ownsRow base 52 3 v' l.length (l.flatMap pointCells) ∧ Only (fun k => v.ownBlock = some k) w w'
theorem flat_take (xs : List Pt.Point) (i : Nat) : (xs.flatMap pointCells).take (i * 3) = (xs.take i).flatMap pointCells := by
  induction xs generalizing i with
  | nil => simp
  | cons x xs ih =>
    cases i with
    | zero => simp
    | succ i => rw [List.flatMap_cons, List.take_succ_cons, List.flatMap_cons, List.take_append, List.take_of_length_le (by show 3 ≤ _; omega), show (pointCells x).length = 3 from rfl, show (i + 1) * 3 - 3 = i * 3 from by omega, ih]
set_option maxRecDepth 100000 in
set_option maxHeartbeats 2000000 in
theorem deleteFunc_any (base : Nat) (v : Value) (l : List Pt.Point) (d : Pt.Point → Bool) (bs bf bu : Nat) (w : World) (hown : w.ownsRow base 52 3 v l.length (l.flatMap pointCells)) (hn : l.length ≤ 4398046511104) (hd : ClP (fun k => v.ownBlock = some k) w bs bf bu d) :
    Calls Try.prog 58 #[v, .func (.func 60) #[] #[.pointer (some ⟨bs, 0, none⟩), .pointer (some ⟨bf, 0, none⟩), .pointer (some ⟨bu, 0, none⟩)]] w (DelPost w base v (Qm.keepL d l)) := by
  obtain ⟨A, cap, rfl, hnc, hr⟩ := own_slice hown
  have HI := Lib.hid (indexFuncQ_any A cap l d bs bf bu _ w w.heap.size hr (Nat.le_refl _) (by omega) hd)
  have HD := Lib.hid hd
  have Hown := Lib.hid hown
  have hcm : 0 < l.length → ∃ g, A = some ⟨g, 0, none⟩ ∧ cap ≤ 9223372036854775807 ∧ base ≤ g := fun h0 => by
    rcases hown.2 with ⟨h, h2⟩ | ⟨g, cap', cur, h, h2, _, _, h3, _, _⟩
    · omega
    · injection h with h4 _ h5
      subst h5
      exact ⟨g, h4, h3, h2⟩
  have HA := Lib.hid hcm
  clear hr hd hown hcm
  obtain ⟨i0, hi0, hz0, hz1, hz2⟩ := info_parts info_point
  go_enter Try.func58, Try.ntmps58
  go_wp2_with fail
  refine HI.out.mono ?_
  rintro e w1 ⟨x, rfl, hx, hb1⟩
  have Ho1 : Hid (Only (fun k => Value.ownBlock (.slice A l.length cap) = some k) w w1) := Only.new _ hb1
  have Hown1 := Lib.hid (own_only Hown.out (Only.new (fun _ => False) hb1) (fun _ _ q => q))
  have hs1 := hb1.size
  clear HI hb1 Hown
  rcases hx with ⟨rfl, hkeep⟩ | ⟨k, rfl, hk, hkeep, p, hp, hdp⟩
  · have HK := Lib.hid hkeep
    clear hkeep
    go_wp2_with fail
    go_ret
    rw [HK.out]
    exact ⟨_, rfl, Hown1.out, Ho1.out⟩
  · obtain ⟨g, rfl, hcm, hgb⟩ := HA.out (by omega)
    have HS := Lib.hid (Qm.del_start hp hkeep hdp)
    have hkn : ¬ ((k : Int) = -1) := by omega
    clear HA hkeep hp hdp
    go_wp2_with fail
    go_loopw [5, 6, 7] (fun x y _ wr => ∃ (i j : Nat) (l1 : List Pt.Point), i < j ∧ j ≤ l.length ∧ x = .int .i64 (i : Int) ∧ y = .int .i64 (j : Int) ∧ Hid (Qm.DelI d l l1 i j) ∧ Hid (wr.ownsRow base 52 3 (.slice (some ⟨g, 0, none⟩) l.length cap) l.length (l1.flatMap pointCells)) ∧ Hid (Only (fun k => Value.ownBlock (.slice (some ⟨g, 0, none⟩) l.length cap) = some k) w wr)) (fun _ y _ _ => l.length - (intOf y).toNat)
    case atStart => exact ⟨k, k + 1, l, by omega, by omega, rfl, by go_num, HS, Hown1, Ho1⟩
    case round =>
      clear HS Hown1 Ho1
      obtain ⟨i, j, l1, hij, hj, rfl, rfl, hI, hown, ho⟩ := hrel
      by_cases hlt : j < l.length
      · obtain ⟨p, hp⟩ : ∃ p, l[j]? = some p := ⟨_, List.getElem?_eq_getElem hlt⟩
        have hp1 := Qm.del_at hI.out hp
        obtain ⟨x0, x1, x2⟩ := pt_cellsQ hown.out hp1
        have HY := Lib.hid (fun h => Qm.del_skip hI.out hp h)
        have HN := Lib.hid (fun h => Qm.del_keep hI.out hp h hij)
        have hl1 : l1.length = l.length := hI.out.1
        have hjI : (j : Int) < (l.length : Int) := by omega
        have hBn : Hid (Blk (wr.alloc (.cells #[.string p.1, .int .i64 p.2.1, .int .i64 p.2.2] 52)) wr.heap.size 52 #[.string p.1, .int .i64 p.2.1, .int .i64 p.2.2]) := Blk.new _ _ _
        have hbn : Below wr.heap.size wr (wr.alloc (.cells #[.string p.1, .int .i64 p.2.1, .int .i64 p.2.2] 52)) := (Below.refl _ _).alloc (Nat.le_refl _) _
        have hoA : Hid (Only (fun k => Value.ownBlock (.slice (some ⟨g, 0, none⟩) l.length cap) = some k) w (wr.alloc (.cells #[.string p.1, .int .i64 p.2.1, .int .i64 p.2.2] 52))) := ho.out.trans (Only.new (fun _ => False) hbn) (fun _ _ q => q.elim)
        have hownA : Hid ((wr.alloc (.cells #[.string p.1, .int .i64 p.2.1, .int .i64 p.2.2] 52)).ownsRow base 52 3 (.slice (some ⟨g, 0, none⟩) l.length cap) l.length (l1.flatMap pointCells)) := hown.out.alloc _
        have H1 := Lib.hid (HD.out _ hoA.out p)
        have Hgi : Hid (l1[i]? = some (l1[i]'(by omega))) := List.getElem?_eq_getElem (by omega)
        have hil : i < l1.length := by omega
        generalize l1[i]'(by omega) = q at *
        clear hI hp hp1 HD ho hbn
        obtain ⟨pn, pt, pv⟩ := p
        dsimp only at x0 x1 x2 H1 hBn hoA hownA
        clear hown
        cases hm : d (pn, pt, pv) with
        | true =>
          have HF := Lib.hid (HY.out hm)
          rw [hm] at H1
          clear HY HN hm
          go_wp2_with fail
          generalize (wr.alloc (.cells #[.string pn, .int .i64 pt, .int .i64 pv] 52)) = W at *
          refine H1.out.mono ?_
          rintro e w2 ⟨rfl, hb2⟩
          have Ho2 : Hid (Only (fun k => Value.ownBlock (.slice (some ⟨g, 0, none⟩) l.length cap) = some k) w w2) := hoA.out.trans (Only.new (fun _ => False) hb2) (fun _ _ q => q.elim)
          have Hown2 := Lib.hid (own_only hownA.out (Only.new (fun _ => False) hb2) (fun _ _ q => q))
          clear hb2 hownA hoA H1 hBn x0 x1 x2
          go_wp2_with fail
          go_roundw
          case rel =>
            refine ⟨_, _, _, _, _, _, _, _, _, _, _, _, _, _, _, _, _, _, _, _, _, _, _, ?_, rfl⟩
            exact ⟨i, j + 1, l1, by omega, by omega, rfl, by go_num, HF, Hown2, Ho2⟩
          case measure => simp [intOf]; omega
        | false =>
          have HF := Lib.hid (HN.out hm)
          rw [hm] at H1
          clear HY HN hm
          have hnW : wr.heap.size < (wr.alloc (.cells #[.string pn, .int .i64 pt, .int .i64 pv] 52)).heap.size := by simp
          go_wp2_with fail
          generalize (wr.alloc (.cells #[.string pn, .int .i64 pt, .int .i64 pv] 52)) = W at *
          generalize wr.heap.size = bx at *
          refine H1.out.mono ?_
          rintro e w2 ⟨rfl, hb2⟩
          have Ho2 : Hid (Only (fun k => Value.ownBlock (.slice (some ⟨g, 0, none⟩) l.length cap) = some k) w w2) := hoA.out.trans (Only.new (fun _ => False) hb2) (fun _ _ q => q.elim)
          have Hown2 := Lib.hid (own_only hownA.out (Only.new (fun _ => False) hb2) (fun _ _ q => q))
          obtain ⟨z0, z1, z2⟩ := pt3_of (hBn.out.below hb2 hnW)
          obtain ⟨y0, y1, y2⟩ := pt_cellsQ Hown2.out Hgi.out
          obtain ⟨f0, f1, f2⟩ := pt_frozenS Hown2.out i
          have hiI : (i : Int) < (l.length : Int) := by omega
          have HS := Lib.hid (own_setCells (pointCells (pn, pt, pv)) (i * 3) Hown2.out)
          rw [flat_setS l1 i (pn, pt, pv) hil] at HS
          have HOs := Lib.hid (only_setCells (g := g) (pointCells (pn, pt, pv)) w2 (i * 3))
          have HO3 : Hid (Only (fun k => Value.ownBlock (.slice (some ⟨g, 0, none⟩) l.length cap) = some k) w (w2.setCells g (i * 3) (pointCells (pn, pt, pv)))) := Ho2.out.trans HOs.out (fun _ _ q => by rw [q]; rfl)
          clear hb2 hownA hoA H1 hBn x0 x1 x2 hnW HOs Hown2 Ho2
          obtain ⟨qn, qt, qv⟩ := q
          dsimp only at y0 y1 y2
          go_wp2_with fail
          go_roundw
          case rel =>
            refine ⟨_, _, _, _, _, _, _, _, _, _, _, _, _, _, _, _, _, _, _, _, _, _, _, ?_, rfl⟩
            exact ⟨i + 1, j + 1, l1.set i (pn, pt, pv), by omega, by omega, by go_num, by go_num, HF, HS, HO3⟩
          case measure => simp [intOf]; omega
      · have hjI : ¬ (j : Int) < (l.length : Int) := by omega
        have HE := Lib.hid (Qm.del_end hI.out (by omega))
        have hl1 : l1.length = l.length := hI.out.1
        have hnm : 0 < l.length - i := by omega
        have hcl : ∀ ty c', (Builtin.clear_ #[38] ty #[.slice (some ⟨g, i * 3, none⟩) (l.length - i) c']).run Try.prog wr = .ok (.tuple #[]) (wr.setCells g (i * 3) (Builtin.zeroCells (Value.cells (.agg #[.string ⟨#[]⟩, .int .i64 0, .int .i64 0])) (l.length - i)).toList) := fun ty c' =>
          run_clear_k wr 38 52 ty _ 3 Try.underlying38 (fun w => by simp [zeroValue, typeInfo, hi0, hz0]) rfl (by simp [Value.cells, Value.oneCell']) g (i * 3) (l.length - i) c' hnm (by omega)
            (fun q hq => own_some_cell hown.out _ (by omega)) (fun q hq => own_frozen hown.out _)
        have hown2 := own_setCells (Builtin.zeroCells (Value.cells (.agg #[.string ⟨#[]⟩, .int .i64 0, .int .i64 0])) (l.length - i)).toList (i * 3) (own_cut hown.out i (by omega))
        rw [setL_past _ _ _ (by rw [List.length_take]; omega), flat_take, HE.out] at hown2
        have Hown2 := Lib.hid hown2
        have HO2 : Hid (Only (fun k => Value.ownBlock (.slice (some ⟨g, 0, none⟩) l.length cap) = some k) w (wr.setCells g (i * 3) (Builtin.zeroCells (Value.cells (.agg #[.string ⟨#[]⟩, .int .i64 0, .int .i64 0])) (l.length - i)).toList)) := ho.out.trans (only_setCells _ wr _) (fun _ _ q => by rw [q]; rfl)
        generalize wr.setCells g (i * 3) (Builtin.zeroCells (Value.cells (.agg #[.string ⟨#[]⟩, .int .i64 0, .int .i64 0])) (l.length - i)).toList = W2 at *
        have HLn : Hid (i = (Qm.keepL d l).length) := by show _ = _; rw [← HE.out, List.length_take]; omega
        have hci : ¬ (cap = i) := by omega
        have hiI : (i : Int) ≤ (l.length : Int) := by omega
        have hic : i ≤ cap := by omega
        clear hI hown ho hown2 HE HD hl1
        go_wp2_with fail
        go_ret
        refine ⟨_, rfl, ?_, HO2.out⟩
        rw [← HLn.out]
        exact Hown2.out
end Go.Proofs.Ythdbmgjlegpbaaa
