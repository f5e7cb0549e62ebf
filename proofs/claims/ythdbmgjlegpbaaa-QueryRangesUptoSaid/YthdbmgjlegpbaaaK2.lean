/- Joined texts: SamePts, OwnDown, PtCells, QrBack, PtLess, PtWalks, PtMay, Aft, SgMay. -/
import Derived.Test.YthdbmgjlegpbaaaK1
import Derived.Test.YthdbmgjlegpbaaaProg
import Derived.Test.YthdbmgjlegpbaaaRows
import Derived.Test.YthdbmgjlegpbaaaShelf
import Derived.Deep.QuietTactic
import Derived.BigQuiet
import Derived.RangeFuncNested
import Derived.RangeFuncBound
import Derived.RangeFuncCalls
import Derived.RangeFuncLeaves
import Derived.Shelf.Abstract
import Derived.Shelf.RegionOpen
import Derived.WalkKit
import Derived.OwnWalkIn
import Derived.TacticsInMore
import Derived.LoopNIn
import Derived.LoopIn
import Derived.Lib.Bytealg
import Derived.Lib.Small
import Derived.Deep.RegionHeld3
import Derived.Deep.DrawnRows
/- The helpers of cachetlaw0 on slices (Same, Copy, Lend, Kept): what they answer where the lists are one. Printed by gen_same.py. -/
namespace Go.Proofs.Ythdbmgjlegpbaaa
open Go.RowKit
set_option linter.unusedVariables false

def pointCells (f : ByteArray × Int × Int) : List Value := [.string f.1, .int .i64 f.2.1, .int .i64 f.2.2]
set_option maxRecDepth 100000 in
set_option maxHeartbeats 400000 in
theorem samePoints_true (A B : Option Addr) (c d : Nat) (xs : List (ByteArray × Int × Int)) (w : World) (b1 b2 : Nat) (hr : Reads w b1 3 A xs.length (xs.flatMap pointCells)) (hq : Reads w b2 3 B xs.length (xs.flatMap pointCells)) (hn : xs.length ≤ 140737488355328) :
    Calls Try.prog 34 #[.slice A xs.length c, .slice B xs.length d] w fun e w' => e = .returned (.bool true) ∧ ∃ n, w' = w.drewN n := by
  have hl : ((xs.length : Int) != (xs.length : Int)) = false := by simp
  go_enter Try.func34, Try.ntmps34
  go_wp2
  go_loopw [5] (fun i wr => ∃ k n : Nat, k ≤ xs.length ∧ i = .int .i64 (k : Int) ∧ wr = w.drewN n) (fun i _ => xs.length - (intOf i).toNat)
  case atStart => exact ⟨0, 0, Nat.zero_le _, rfl, rfl⟩
  case round =>
    obtain ⟨k, n, hk, rfl, rfl⟩ := hrel
    by_cases hlt : k < xs.length
    · obtain ⟨b, off, rfl, hbl, hc⟩ := hr.2 (by omega)
      obtain ⟨b', off', rfl, hbl', hc'⟩ := hq.2 (by omega)
      have hcell0 : w.cell? ⟨b, off + k * 3, none⟩ = some (.string xs[k].1) := by have := hc (k * 3 + 0) (.string xs[k].1) (by rw [flat_at pointCells 3 (fun _ => rfl) xs k 0 hlt (by omega)]; rfl); rwa [← Nat.add_assoc] at this
      have hcell1 : w.cell? ⟨b, off + k * 3 + 1, none⟩ = some (.int .i64 xs[k].2.1) := by have := hc (k * 3 + 1) (.int .i64 xs[k].2.1) (by rw [flat_at pointCells 3 (fun _ => rfl) xs k 1 hlt (by omega)]; rfl); rwa [← Nat.add_assoc] at this
      have hcell2 : w.cell? ⟨b, off + k * 3 + 2, none⟩ = some (.int .i64 xs[k].2.2) := by have := hc (k * 3 + 2) (.int .i64 xs[k].2.2) (by rw [flat_at pointCells 3 (fun _ => rfl) xs k 2 hlt (by omega)]; rfl); rwa [← Nat.add_assoc] at this
      have hcelq0 : w.cell? ⟨b', off' + k * 3, none⟩ = some (.string xs[k].1) := by have := hc' (k * 3 + 0) (.string xs[k].1) (by rw [flat_at pointCells 3 (fun _ => rfl) xs k 0 hlt (by omega)]; rfl); rwa [← Nat.add_assoc] at this
      have hcelq1 : w.cell? ⟨b', off' + k * 3 + 1, none⟩ = some (.int .i64 xs[k].2.1) := by have := hc' (k * 3 + 1) (.int .i64 xs[k].2.1) (by rw [flat_at pointCells 3 (fun _ => rfl) xs k 1 hlt (by omega)]; rfl); rwa [← Nat.add_assoc] at this
      have hcelq2 : w.cell? ⟨b', off' + k * 3 + 2, none⟩ = some (.int .i64 xs[k].2.2) := by have := hc' (k * 3 + 2) (.int .i64 xs[k].2.2) (by rw [flat_at pointCells 3 (fun _ => rfl) xs k 2 hlt (by omega)]; rfl); rwa [← Nat.add_assoc] at this
      have tt := trivial
      clear hc hc' hr hq
      go_wp2
      go_quiet (fail)
      go_wp2
      go_roundw
      case rel => exact ⟨k + 1, n + nq, by omega, by go_num, rfl⟩
      case measure => simp [intOf]; omega
    · clear hr hq
      go_wp2
      go_ret
      exact ⟨rfl, _, rfl⟩

theorem info_copyPoints : (Try.prog.info? 52).map (fun i => (i.zero, i.size, i.bytes)) = some (some (.agg #[.string ⟨#[]⟩, .int .i64 0, .int .i64 0]), 3, 32) := by kernel_rfl
set_option maxRecDepth 100000 in
set_option maxHeartbeats 400000 in
theorem copyPoints_any (A : Option Addr) (c : Nat) (xs : List (ByteArray × Int × Int)) (w : World) (b1 : Nat) (hr : Reads w b1 3 A xs.length (xs.flatMap pointCells)) (hB : b1 ≤ w.heap.size) (hn : xs.length * 32 ≤ 140737488355328) :
    Calls Try.prog 48 #[.slice A xs.length c] w fun e w' => ∃ v, e = .returned v ∧ w'.ownsRow w.heap.size 52 3 v xs.length (xs.flatMap pointCells) ∧ Below w.heap.size w w' := by
  obtain ⟨i0, hi, hz0, hz1, hz2⟩ := info_parts info_copyPoints
  have hown0 := own_empty w w.heap.size 52 3 (Nat.le_refl _)
  have hr1 := hr.alloc hB (.cells #[] 52)
  have hb0 : Below w.heap.size w (w.alloc (.cells #[] 52)) := (Below.refl _ _).alloc (Nat.le_refl _) _
  go_enter Try.func48, Try.ntmps48
  go_wp2_with (at_builtin; refine wpList_append_all _ rfl _ _ 38 rfl w.heap.size 52 i0 _ 3 32 Try.underlying38 hi hz0 hz1 hz2 rfl (by decide) _ 0 [] (by rfl) hown0 b1 A xs.length c (xs.flatMap pointCells) (by rfl) hr1 (fun u hu => by simp only [List.mem_flatMap, pointCells, List.mem_cons, List.not_mem_nil, or_false] at hu; obtain ⟨x, _, hu⟩ := hu; rcases hu with rfl | rfl | rfl <;> rfl) (by unfold maxLen; omega) (by omega) w hb0 (by simp) ?_; intro v1 w1 hown1 hb1 _)
  go_ret
  exact ⟨_, rfl, by simpa using hown1, hb1⟩

def roomPoints : List Value := [.string ⟨#[]⟩, .int .i64 77777, .int .i64 0, .string ⟨#[]⟩, .int .i64 77777, .int .i64 0]
set_option maxRecDepth 100000 in
set_option maxHeartbeats 400000 in
theorem lendPoints_any (A : Option Addr) (c : Nat) (xs : List (ByteArray × Int × Int)) (w : World) (b1 : Nat) (hr : Reads w b1 3 A xs.length (xs.flatMap pointCells)) (hB : b1 ≤ w.heap.size) (hn : xs.length * 32 ≤ 140737488351232) :
    Calls Try.prog 23 #[.slice A xs.length c] w fun e w' => ∃ g cap, e = .returned (.slice (some ⟨g, 0, none⟩) xs.length cap) ∧ w.heap.size ≤ g ∧ xs.length + 2 ≤ cap ∧ cap ≤ maxLen ∧
      w'.ownsRow w.heap.size 52 3 (.slice (some ⟨g, 0, none⟩) (xs.length + 2) cap) (xs.length + 2) ((xs.flatMap pointCells) ++ roomPoints) ∧ Below w.heap.size w w' := by
  obtain ⟨i0, hi, hz0, hz1, hz2⟩ := info_parts info_copyPoints
  go_enter Try.func23, Try.ntmps23
  go_wp2_with fail
  refine (copyPoints_any A c xs w b1 hr hB (by omega)).mono ?_
  rintro e w1 ⟨v, rfl, hown, hb⟩
  go_wp2_with (at_builtin; refine wpList_pushes _ rfl _ _ 38 rfl w.heap.size 52 i0 _ 3 32 Try.underlying38 hi hz0 hz1 hz2 rfl (by decide) _ xs.length _ (by rfl) hown 2 roomPoints (by rfl) rfl (by simp [roomPoints, Value.oneCell']) (by unfold maxLen; omega) (by omega) w hb hb.size ?_; intro v2 w2 hown2 hb2; obtain ⟨g, cap, hv, hg, hlt⟩ := hown2.form (by omega); subst hv; obtain ⟨hcap, hmax⟩ := own_cap hown2; have hc1 : xs.length ≤ cap := by omega)
  go_ret
  exact ⟨g, cap, rfl, hg, hcap, hmax, hown2, hb2⟩

set_option maxRecDepth 100000 in
set_option maxHeartbeats 400000 in
theorem keptPoints_true (A : Option Addr) (g c cap : Nat) (xs : List (ByteArray × Int × Int)) (w : World) (b1 b2 : Nat) (hr : Reads w b1 3 (some ⟨g, 0, none⟩) (xs.length + 2) ((xs.flatMap pointCells) ++ roomPoints)) (hq : Reads w b2 3 A xs.length (xs.flatMap pointCells)) (hcap : xs.length + 2 ≤ cap) (hn : xs.length ≤ 140737488355328) :
    Calls Try.prog 27 #[.slice (some ⟨g, 0, none⟩) xs.length cap, .slice A xs.length c] w fun e w' => e = .returned (.bool true) ∧ ∃ n, w' = w.drewN n := by
  have hLl : (xs.flatMap pointCells).length = xs.length * 3 := flat_length pointCells 3 (fun _ => rfl) xs
  have hr1 : Reads w b1 3 (some ⟨g, 0, none⟩) xs.length (xs.flatMap pointCells) := hr.head hLl
  obtain ⟨b, off, hbo, hbl, hcr⟩ := hr.2 (by omega)
  obtain ⟨rfl, rfl⟩ : g = b ∧ 0 = off := by injection hbo with hbo; injection hbo with h1 h2; exact ⟨h1, h2⟩
  have hm0 : w.cell? ⟨g, xs.length * 3, none⟩ = some (.string ⟨#[]⟩) := by have := hcr (xs.length * 3 + 0) (.string ⟨#[]⟩) (by rw [List.getElem?_append_right (by rw [hLl]; omega), hLl, Nat.add_sub_cancel_left]; try rfl); rw [Nat.zero_add] at this; first | exact this | (rw [← this]; congr 2 <;> first | rfl | omega)
  have hm1 : w.cell? ⟨g, xs.length * 3 + 1, none⟩ = some (.int .i64 77777) := by have := hcr (xs.length * 3 + 1) (.int .i64 77777) (by rw [List.getElem?_append_right (by rw [hLl]; omega), hLl, Nat.add_sub_cancel_left]; try rfl); rw [Nat.zero_add] at this; first | exact this | (rw [← this]; congr 2 <;> first | rfl | omega)
  have hm2 : w.cell? ⟨g, xs.length * 3 + 2, none⟩ = some (.int .i64 0) := by have := hcr (xs.length * 3 + 2) (.int .i64 0) (by rw [List.getElem?_append_right (by rw [hLl]; omega), hLl, Nat.add_sub_cancel_left]; try rfl); rw [Nat.zero_add] at this; first | exact this | (rw [← this]; congr 2 <;> first | rfl | omega)
  have hm3 : w.cell? ⟨g, (xs.length + 1) * 3, none⟩ = some (.string ⟨#[]⟩) := by have := hcr (xs.length * 3 + 3) (.string ⟨#[]⟩) (by rw [List.getElem?_append_right (by rw [hLl]; omega), hLl, Nat.add_sub_cancel_left]; try rfl); rw [Nat.zero_add] at this; first | exact this | (rw [← this]; congr 2 <;> first | rfl | omega)
  have hm4 : w.cell? ⟨g, (xs.length + 1) * 3 + 1, none⟩ = some (.int .i64 77777) := by have := hcr (xs.length * 3 + 4) (.int .i64 77777) (by rw [List.getElem?_append_right (by rw [hLl]; omega), hLl, Nat.add_sub_cancel_left]; try rfl); rw [Nat.zero_add] at this; first | exact this | (rw [← this]; congr 2 <;> first | rfl | omega)
  have hm5 : w.cell? ⟨g, (xs.length + 1) * 3 + 2, none⟩ = some (.int .i64 0) := by have := hcr (xs.length * 3 + 5) (.int .i64 0) (by rw [List.getElem?_append_right (by rw [hLl]; omega), hLl, Nat.add_sub_cancel_left]; try rfl); rw [Nat.zero_add] at this; first | exact this | (rw [← this]; congr 2 <;> first | rfl | omega)
  clear hcr hr hbo hLl
  go_enter Try.func27, Try.ntmps27
  go_wp2_with fail
  refine (samePoints_true _ _ cap c xs w b1 b2 hr1 hq hn).mono ?_
  rintro e w1 ⟨rfl, n1, rfl⟩
  clear hr1 hq
  go_wp2_with fail
  go_ret
  exact ⟨rfl, _, rfl⟩

end Go.Proofs.Ythdbmgjlegpbaaa
/- Small facts on own rows. -/
namespace Go.Proofs.Ythdbmgjlegpbaaa
open Go.RowKit
set_option linter.unusedVariables false

theorem own_ne_lt {w : World} {base : Nat} {e : TypeId} {size n : Nat} {v : Value} {xs : List Value} (h : w.ownsRow base e size v n xs) {g : Nat} (hg : g < base) : v.ownBlock ≠ some g := fun k => by have := (own_lt h k).1; omega
theorem only_ne {w w' : World} {g g' : Nat} (h : Only (fun k => k = g) w w') (hg : g' ≠ g) : Only (fun k => k ≠ g') w w' := h.mono fun j _ hj => by rw [hj]; exact fun k => hg k.symm
theorem own_down {w : World} {base base' : Nat} {e : TypeId} {size n : Nat} {v : Value} {xs : List Value} (h : w.ownsRow base e size v n xs) (hb : base' ≤ base) : w.ownsRow base' e size v n xs :=
  ⟨h.1, by
    rcases h.2 with h0 | ⟨g, cap, cur, e1, e2, e3⟩
    · exact .inl h0
    · exact .inr ⟨g, cap, cur, e1, Nat.le_trans hb e2, e3⟩⟩
end Go.Proofs.Ythdbmgjlegpbaaa
/- Cells of points, and small facts on own rows. -/
namespace Go.Proofs.Ythdbmgjlegpbaaa
open Go.RowKit
set_option linter.unusedVariables false

theorem info_point : (Try.prog.info? 52).map (fun i => (i.zero, i.size, i.bytes)) = some (some (.agg #[.string ⟨#[]⟩, .int .i64 0, .int .i64 0]), 3, 32) := by kernel_rfl
theorem pt3_of {w : World} {h : Nat} {n : ByteArray} {t v : Int} (hP : Blk w h 52 #[.string n, .int .i64 t, .int .i64 v]) :
    w.cell? ⟨h, 0, none⟩ = some (.string n) ∧ w.cell? ⟨h, 1, none⟩ = some (.int .i64 t) ∧ w.cell? ⟨h, 2, none⟩ = some (.int .i64 v) := ⟨hP.cell 0, hP.cell 1, hP.cell 2⟩
theorem pt_cells {w wr : World} {B b off k : Nat} {ps : List Pt.Point} (hlt : k < ps.length) (hc : ∀ j u, (ps.flatMap pointCells)[j]? = some u → w.cell? ⟨b, off + j, none⟩ = some u) (hk : ∀ p : Addr, p.block < B → wr.cell? p = w.cell? p) (hb : b < B) :
    wr.cell? ⟨b, off + k * 3, none⟩ = some (.string ps[k].1) ∧ wr.cell? ⟨b, off + k * 3 + 1, none⟩ = some (.int .i64 ps[k].2.1) ∧ wr.cell? ⟨b, off + k * 3 + 2, none⟩ = some (.int .i64 ps[k].2.2) := by
  refine ⟨?_, ?_, ?_⟩
  · rw [hk ⟨b, _, none⟩ hb]; have := hc (k * 3 + 0) (.string ps[k].1) (by rw [flat_at pointCells 3 (fun _ => rfl) ps k 0 hlt (by omega)]; rfl); rwa [← Nat.add_assoc] at this
  · rw [hk ⟨b, _, none⟩ hb]; have := hc (k * 3 + 1) (.int .i64 ps[k].2.1) (by rw [flat_at pointCells 3 (fun _ => rfl) ps k 1 hlt (by omega)]; rfl); rwa [← Nat.add_assoc] at this
  · rw [hk ⟨b, _, none⟩ hb]; have := hc (k * 3 + 2) (.int .i64 ps[k].2.2) (by rw [flat_at pointCells 3 (fun _ => rfl) ps k 2 hlt (by omega)]; rfl); rwa [← Nat.add_assoc] at this

theorem flat_snoc' {α β : Type} (f : α → List β) (l : List α) (k : Nat) (h : k < l.length) : (l.take (k + 1)).flatMap f = (l.take k).flatMap f ++ f l[k] := by
  rw [List.take_succ_eq_append_getElem h, List.flatMap_append]; simp
end Go.Proofs.Ythdbmgjlegpbaaa
/- slices.Backward over points, and over slices of points: what their closures hand on, and in which row (chapter 15). -/
namespace Go.Proofs.Ythdbmgjlegpbaaa
open Go.RowKit Go.Shelf
set_option linter.unusedVariables false
attribute [local go_sem] Oper.semAt_some

theorem back_snoc {α : Type} (zs : List α) (d m : Nat) (h : d + (m + 1) = zs.length) : zs.reverse.take (d + 1) = zs.reverse.take d ++ [zs[m]'(by omega)] := by
  rw [List.take_succ_eq_append_getElem (by rw [List.length_reverse]; omega)]
  congr 2
  rw [List.getElem_reverse]
  congr 1
  omega
theorem back_len {α : Type} {zs : List α} {pre : List (Int × α)} {d : Nat} (h : pre.map (·.2) = zs.reverse.take d) (hd : d ≤ zs.length) : pre.length = d := by
  have := congrArg List.length h
  rw [List.length_map, List.length_take, List.length_reverse] at this
  omega
abbrev ptArg (x : Int × Pt.Point) : Array Value := #[.int .i64 x.1, .agg #[.string x.2.1, .int .i64 x.2.2.1, .int .i64 x.2.2.2]]
set_option maxRecDepth 100000 in
set_option maxHeartbeats 2000000 in
theorem backP_in (F : Fence) (n : Nat) (hf : F.fn 78) (hro : F.round = none) (hn : 1 ≤ n) (l Bs n₀ c : Nat) (A : Option Addr) (zs : List Pt.Point) (hlen : zs.length ≤ 9223372036854775807) (hBn : Bs < n₀) (J Jx : List (Int × Pt.Point) → World → Prop)
    (hY : ∀ pre x W, J pre W → pre.length < zs.length → YieldAt F (n - 1) Try.prog l (ptArg x) W fun e W' =>
      (e = .returned (.bool true) ∧ J (pre ++ [x]) W' ∧ Below n₀ W W') ∨ (e = .returned (.bool false) ∧ Jx (pre ++ [x]) W'))
    (W : World) (hBs : W.cell? ⟨Bs, 0, none⟩ = some (.slice A zs.length c)) (hr : Reads W n₀ 3 A zs.length (zs.flatMap pointCells)) (h0 : J [] W) :
    CallsIn F n Try.prog 78 #[.func (.yield l) #[] #[], .pointer (some ⟨Bs, 0, none⟩)] W fun e W' => (∃ v, e = .returned v) ∧
      ((∃ ys, ys.map (·.2) = zs.reverse ∧ J ys W') ∨ (∃ pre, (∃ d, d ≤ zs.length ∧ pre.map (·.2) = zs.reverse.take d) ∧ Jx pre W')) := by
  refine callsIn_of_wp Try.func78 rfl hf ?_ hro
  simp only [Try.ntmps78, List.size_toArray, List.length_cons, List.length_nil, Nat.reduceAdd, Nat.reduceSub, Array.replicate_succ, Array.replicate_zero, List.push_toArray, List.append_toArray, List.nil_append, List.cons_append]
  have Hr := Lib.hid hr
  clear hr
  gi_wp2
  gi_loopw [3] (fun i wr => ∃ (d m : Nat) (pre : List (Int × Pt.Point)), d + m = zs.length ∧ i = .int .i64 ((m : Int) - 1) ∧ Hid (pre.map (·.2) = zs.reverse.take d) ∧ Hid (J pre wr) ∧ Hid (Below n₀ W wr))
    (fun i _ => (intOf i + 1).toNat)
  case atStart => exact ⟨0, zs.length, [], by omega, by go_num, Lib.hid (by simp), Lib.hid h0, Lib.hid (Below.refl _ _)⟩
  case round =>
    obtain ⟨d, m, pre, hdm, rfl, hpre, hJs, hnx⟩ := hrel
    cases m with
    | zero =>
      have hall : Hid (pre.map (·.2) = zs.reverse) := by
        show _ = _
        rw [hpre.out, List.take_of_length_le (by rw [List.length_reverse]; omega)]
      clear hpre
      simp only [Int.ofNat_zero, Int.zero_sub]
      gi_wp2
      go_end0
      exact ⟨⟨_, rfl⟩, .inl ⟨pre, hall.out, hJs.out⟩⟩
    | succ m =>
      rw [show (((m + 1 : Nat) : Int) - 1) = (m : Int) from by omega]
      obtain ⟨b, off, rfl, hb, hc⟩ := Hr.out.2 (by omega)
      have hlt : m < zs.length := by omega
      obtain ⟨hc0, hc1, hc2⟩ := pt_cells (wr := wr) hlt hc (fun p hp => hnx.out.cell (p := p) hp) hb
      have hcs : wr.cell? ⟨Bs, 0, none⟩ = some (.slice (some ⟨b, off, none⟩) zs.length c) := (hnx.out.cell (p := ⟨Bs, 0, none⟩) hBn).trans hBs
      have hsn : Hid (∀ p, zs[m] = p → (pre ++ [((m : Int), p)]).map (·.2) = zs.reverse.take (d + 1)) := fun p hp => by
        rw [back_snoc zs d m hdm, List.map_append, hpre.out, hp]; rfl
      have hpl := back_len hpre.out (by omega)
      obtain ⟨fn, tmps, assign, body, hy, hR⟩ := hY pre ((m : Int), zs[m]) wr hJs.out (by omega)
      clear hc hpre
      dsimp only [ptArg] at hy
      generalize hzm : zs[m] = p at *
      obtain ⟨nm, t, v⟩ := p
      have Hsn := Lib.hid (hsn.out _ rfl)
      clear hzm hsn
      dsimp only at hy hc0 hc1 hc2
      gi_wp2
      refine hR.mono ?_
      rintro e W3 (⟨rfl, hJ3, hk3⟩ | ⟨rfl, hJx3⟩)
      · gi_wp2
        go_roundw
        case rel => exact ⟨d + 1, m, _, by omega, by go_num, Hsn, Lib.hid hJ3, Lib.hid (hnx.out.trans hk3)⟩
        case measure => simp [intOf]
      · gi_wp2
        refine bodyPost_ret (results_none rfl _ _ _) rfl ?_
        exact ⟨⟨_, rfl⟩, .inr ⟨_, ⟨d + 1, by omega, Hsn.out⟩, hJx3⟩⟩
set_option maxHeartbeats 1000000 in
theorem backP_make (F : Fence) (n : Nat) (hf : F.fn 51) (hro : F.round = none) (a : Option Addr) (len cap : Nat) (w : World) :
    CallsIn F n Try.prog 51 #[.slice a len cap] w fun e w' => e = .returned (.func (.func 78) #[] #[.pointer (some ⟨w.heap.size, 0, none⟩)]) ∧ w' = w.alloc (.cells #[.slice a len cap] 38) := by
  refine callsIn_of_wp Try.func51 rfl hf ?_ hro
  simp only [Try.ntmps51, List.size_toArray, List.length_cons, List.length_nil, Nat.reduceAdd, Nat.reduceSub, Array.replicate_succ, Array.replicate_zero, List.push_toArray, List.append_toArray, List.nil_append, List.cons_append]
  gi_wp2
  go_ret
  exact ⟨rfl, rfl⟩
theorem backP_stops (F : Fence) (n : Nat) (hf : F.fn 78) (hro : F.round = none) (hn : 1 ≤ n) (Bs n₀ c : Nat) (A : Option Addr) (zs : List Pt.Point) (hlen : zs.length ≤ 9223372036854775807) (w : World) (hBs : Bs < n₀) (hn₀ : n₀ ≤ w.heap.size)
    (hc : w.cell? ⟨Bs, 0, none⟩ = some (.slice A zs.length c)) (hr : Reads w n₀ 3 A zs.length (zs.flatMap pointCells)) :
    SeqStopsK F n Try.prog 78 #[.pointer (some ⟨Bs, 0, none⟩)] ptArg (Below n₀) (fun ys => ys.map (·.2) = zs.reverse)
      (fun pre => ∃ d, d ≤ zs.length ∧ pre.map (·.2) = zs.reverse.take d) zs.length w := fun l J Jx W hW _ _ hY h0 =>
  backP_in F n hf hro hn l Bs n₀ c A zs hlen hBs J Jx hY W ((hW.cell (p := ⟨Bs, 0, none⟩) (show Bs < w.heap.size by omega)).trans hc) (hr.below (hW.mono hn₀)) h0

/-! over slices of points -/
abbrev Lay := Option Addr × Nat × List Pt.Point
def layV (y : Lay) : Value := .slice y.1 y.2.2.length y.2.1
abbrev layArg {G : Lay → Prop} (x : Int × { y : Lay // G y }) : Array Value := #[.int .i64 x.1, layV x.2.1]
set_option maxRecDepth 100000 in
set_option maxHeartbeats 2000000 in
theorem backL_in {G : Lay → Prop} (F : Fence) (n : Nat) (hf : F.fn 77) (hro : F.round = none) (hn : 1 ≤ n) (l Bs n₀ c : Nat) (A : Option Addr) (zs : List { y : Lay // G y }) (hlen : zs.length ≤ 9223372036854775807) (hBn : Bs < n₀) (J Jx : List (Int × { y : Lay // G y }) → World → Prop)
    (hY : ∀ pre x W, J pre W → pre.length < zs.length → YieldAt F (n - 1) Try.prog l (layArg x) W fun e W' =>
      (e = .returned (.bool true) ∧ J (pre ++ [x]) W' ∧ Below n₀ W W') ∨ (e = .returned (.bool false) ∧ Jx (pre ++ [x]) W'))
    (W : World) (hBs : W.cell? ⟨Bs, 0, none⟩ = some (.slice A zs.length c)) (hr : Reads W n₀ 1 A zs.length (zs.map fun y => layV y.1)) (h0 : J [] W) :
    CallsIn F n Try.prog 77 #[.func (.yield l) #[] #[], .pointer (some ⟨Bs, 0, none⟩)] W fun e W' => (∃ v, e = .returned v) ∧
      ((∃ ys, ys.map (·.2) = zs.reverse ∧ J ys W') ∨ (∃ pre, (∃ d, d ≤ zs.length ∧ pre.map (·.2) = zs.reverse.take d) ∧ Jx pre W')) := by
  refine callsIn_of_wp Try.func77 rfl hf ?_ hro
  simp only [Try.ntmps77, List.size_toArray, List.length_cons, List.length_nil, Nat.reduceAdd, Nat.reduceSub, Array.replicate_succ, Array.replicate_zero, List.push_toArray, List.append_toArray, List.nil_append, List.cons_append]
  have Hr := Lib.hid hr
  clear hr
  gi_wp2
  gi_loopw [3] (fun i wr => ∃ (d m : Nat) (pre : List (Int × { y : Lay // G y })), d + m = zs.length ∧ i = .int .i64 ((m : Int) - 1) ∧ Hid (pre.map (·.2) = zs.reverse.take d) ∧ Hid (J pre wr) ∧ Hid (Below n₀ W wr))
    (fun i _ => (intOf i + 1).toNat)
  case atStart => exact ⟨0, zs.length, [], by omega, by go_num, Lib.hid (by simp), Lib.hid h0, Lib.hid (Below.refl _ _)⟩
  case round =>
    obtain ⟨d, m, pre, hdm, rfl, hpre, hJs, hnx⟩ := hrel
    cases m with
    | zero =>
      have hall : Hid (pre.map (·.2) = zs.reverse) := by
        show _ = _
        rw [hpre.out, List.take_of_length_le (by rw [List.length_reverse]; omega)]
      clear hpre
      simp only [Int.ofNat_zero, Int.zero_sub]
      gi_wp2
      go_end0
      exact ⟨⟨_, rfl⟩, .inl ⟨pre, hall.out, hJs.out⟩⟩
    | succ m =>
      rw [show (((m + 1 : Nat) : Int) - 1) = (m : Int) from by omega]
      obtain ⟨b, off, rfl, hb, hc⟩ := Hr.out.2 (by omega)
      have hlt : m < zs.length := by omega
      have hcm : wr.cell? ⟨b, off + m, none⟩ = some (layV zs[m].1) := (hnx.out.cell (p := ⟨b, off + m, none⟩) hb).trans (hc m _ (by simp [hlt]))
      have hcs : wr.cell? ⟨Bs, 0, none⟩ = some (.slice (some ⟨b, off, none⟩) zs.length c) := (hnx.out.cell (p := ⟨Bs, 0, none⟩) hBn).trans hBs
      have hsn : Hid (∀ p, zs[m] = p → (pre ++ [((m : Int), p)]).map (·.2) = zs.reverse.take (d + 1)) := fun p hp => by
        rw [back_snoc zs d m hdm, List.map_append, hpre.out, hp]; rfl
      have hpl := back_len hpre.out (by omega)
      obtain ⟨fn, tmps, assign, body, hy, hR⟩ := hY pre ((m : Int), zs[m]) wr hJs.out (by omega)
      clear hc hpre
      dsimp only [layArg] at hy
      generalize hzm : zs[m] = p at *
      obtain ⟨⟨pa, pc, pl⟩, hG⟩ := p
      have Hsn := Lib.hid (hsn.out _ rfl)
      clear hzm hsn
      dsimp only [layV] at hy hcm
      gi_wp2
      refine hR.mono ?_
      rintro e W3 (⟨rfl, hJ3, hk3⟩ | ⟨rfl, hJx3⟩)
      · gi_wp2
        go_roundw
        case rel => exact ⟨d + 1, m, _, by omega, by go_num, Hsn, Lib.hid hJ3, Lib.hid (hnx.out.trans hk3)⟩
        case measure => simp [intOf]
      · gi_wp2
        refine bodyPost_ret (results_none rfl _ _ _) rfl ?_
        exact ⟨⟨_, rfl⟩, .inr ⟨_, ⟨d + 1, by omega, Hsn.out⟩, hJx3⟩⟩
set_option maxHeartbeats 1000000 in
theorem backL_make (F : Fence) (n : Nat) (hf : F.fn 50) (hro : F.round = none) (a : Option Addr) (len cap : Nat) (w : World) :
    CallsIn F n Try.prog 50 #[.slice a len cap] w fun e w' => e = .returned (.func (.func 77) #[] #[.pointer (some ⟨w.heap.size, 0, none⟩)]) ∧ w' = w.alloc (.cells #[.slice a len cap] 37) := by
  refine callsIn_of_wp Try.func50 rfl hf ?_ hro
  simp only [Try.ntmps50, List.size_toArray, List.length_cons, List.length_nil, Nat.reduceAdd, Nat.reduceSub, Array.replicate_succ, Array.replicate_zero, List.push_toArray, List.append_toArray, List.nil_append, List.cons_append]
  gi_wp2
  go_ret
  exact ⟨rfl, rfl⟩
theorem backL_stops {G : Lay → Prop} (F : Fence) (n : Nat) (hf : F.fn 77) (hro : F.round = none) (hn : 1 ≤ n) (Bs n₀ c : Nat) (A : Option Addr) (zs : List { y : Lay // G y }) (hlen : zs.length ≤ 9223372036854775807) (w : World) (hBs : Bs < n₀) (hn₀ : n₀ ≤ w.heap.size)
    (hc : w.cell? ⟨Bs, 0, none⟩ = some (.slice A zs.length c)) (hr : Reads w n₀ 1 A zs.length (zs.map fun y => layV y.1)) :
    SeqStopsK F n Try.prog 77 #[.pointer (some ⟨Bs, 0, none⟩)] layArg (Below n₀) (fun ys => ys.map (·.2) = zs.reverse)
      (fun pre => ∃ d, d ≤ zs.length ∧ pre.map (·.2) = zs.reverse.take d) zs.length w := fun l J Jx W hW _ _ hY h0 =>
  backL_in F n hf hro hn l Bs n₀ c A zs hlen hBs J Jx hY W ((hW.cell (p := ⟨Bs, 0, none⟩) (show Bs < w.heap.size by omega)).trans hc) (hr.below (hW.mono hn₀)) h0
end Go.Proofs.Ythdbmgjlegpbaaa
/- Which point is less: plain, and the walks through Compare, Less, the reference's Below, Less. -/
namespace Go.Proofs.Ythdbmgjlegpbaaa
open Go.RowKit
set_option linter.unusedVariables false

theorem cb_cases (a b : List UInt8) : Lib.compareBytes a b = -1 ∨ Lib.compareBytes a b = 0 ∨ Lib.compareBytes a b = 1 := by
  induction a generalizing b with
  | nil => cases b <;> simp [Lib.compareBytes]
  | cons x a ih =>
    cases b with
    | nil => simp [Lib.compareBytes]
    | cons y b =>
      unfold Lib.compareBytes
      split
      · simp
      · split
        · simp
        · exact ih b
theorem cb_self (a : List UInt8) : Lib.compareBytes a a = 0 := by
  induction a with
  | nil => rfl
  | cons x a ih => unfold Lib.compareBytes; rw [if_neg (UInt8.lt_irrefl x), if_neg (UInt8.lt_irrefl x)]; exact ih
theorem cb_zero {a b : List UInt8} (h : Lib.compareBytes a b = 0) : a = b := by
  induction a generalizing b with
  | nil => cases b <;> simp [Lib.compareBytes] at h ⊢
  | cons x a ih =>
    cases b with
    | nil => simp [Lib.compareBytes] at h
    | cons y b =>
      unfold Lib.compareBytes at h
      by_cases h1 : x < y
      · rw [if_pos h1] at h; simp at h
      · rw [if_neg h1] at h
        by_cases h2 : y < x
        · rw [if_pos h2] at h; simp at h
        · rw [if_neg h2] at h
          have : x = y := by rw [UInt8.lt_iff_toNat_lt] at h1 h2; exact UInt8.toNat_inj.1 (by omega)
          rw [this, ih h]
theorem cb_neg (a b : List UInt8) : Lib.compareBytes b a = -Lib.compareBytes a b := by
  induction a generalizing b with
  | nil => cases b <;> simp [Lib.compareBytes]
  | cons x a ih =>
    cases b with
    | nil => simp [Lib.compareBytes]
    | cons y b =>
      unfold Lib.compareBytes
      by_cases h1 : x < y
      · have h2 : ¬ y < x := by rw [UInt8.lt_iff_toNat_lt] at h1 ⊢; omega
        rw [if_neg h2, if_pos h1, if_pos h1]; rfl
      · by_cases h2 : y < x
        · rw [if_pos h2, if_neg h1, if_pos h2]
        · rw [if_neg h2, if_neg h1, if_neg h1, if_neg h2]; exact ih b
theorem cb_trans {a b c : List UInt8} (h : Lib.compareBytes a b = -1) (k : Lib.compareBytes b c = -1) : Lib.compareBytes a c = -1 := by
  induction a generalizing b c with
  | nil =>
    cases c with
    | nil => cases b <;> simp [Lib.compareBytes] at h k
    | cons z c => rfl
  | cons x a ih =>
    cases b with
    | nil => simp [Lib.compareBytes] at h
    | cons y b =>
      cases c with
      | nil => simp [Lib.compareBytes] at k
      | cons z c =>
        unfold Lib.compareBytes at h k ⊢
        simp only [UInt8.lt_iff_toNat_lt] at h k ⊢
        by_cases h1 : x.toNat < y.toNat
        · by_cases k1 : y.toNat < z.toNat
          · rw [if_pos (by omega)]
          · rw [if_neg k1] at k
            by_cases k2 : z.toNat < y.toNat
            · rw [if_pos k2] at k; simp at k
            · rw [if_pos (by omega)]
        · rw [if_neg h1] at h
          by_cases h2 : y.toNat < x.toNat
          · rw [if_pos h2] at h; simp at h
          · rw [if_neg h2] at h
            by_cases k1 : y.toNat < z.toNat
            · rw [if_pos (by omega)]
            · rw [if_neg k1] at k
              by_cases k2 : z.toNat < y.toNat
              · rw [if_pos k2] at k; simp at k
              · rw [if_neg k2] at k
                rw [if_neg (by omega), if_neg (by omega)]
                exact ih h k
def orV (x y : Int) : Int := if x ≠ 0 then x else y
def Pt.cmpP (a b : Pt.Point) : Int := orV (Lib.compareBytes a.1.data.toList b.1.data.toList) (Lib.compareInt a.2.1 b.2.1)
def Pt.lessB (a b : Pt.Point) : Bool := decide (Pt.cmpP a b < 0)
theorem list_inj {a b : ByteArray} (h : a.data.toList = b.data.toList) : a = b := Wr.ext_list h
theorem less_ref (a b : Pt.Point) : Pt.lessB a b = if a.1 ≠ b.1 then decide (Lib.compareBytes a.1.data.toList b.1.data.toList < 0) else decide (a.2.1 < b.2.1) := by
  unfold Pt.lessB Pt.cmpP orV
  by_cases h : a.1 = b.1
  · rw [h, cb_self]
    simp only [ne_eq, not_true_eq_false, if_false]
    unfold Lib.compareInt
    by_cases h1 : a.2.1 < b.2.1
    · rw [if_pos h1]; simp [h1]
    · rw [if_neg h1]; split <;> simp [h1]
  · have h0 : Lib.compareBytes a.1.data.toList b.1.data.toList ≠ 0 := fun e => h (list_inj (cb_zero e))
    rw [if_pos h0, if_pos h]

/-! the walks -/
set_option maxRecDepth 100000 in
theorem or_any (x y : Int) (g : Nat) (w : World) (h0 : w.cell? ⟨g, 0, none⟩ = some (.int .i64 x)) (h1 : w.cell? ⟨g, 1, none⟩ = some (.int .i64 y)) :
    Calls Try.prog 81 #[.slice (some ⟨g, 0, none⟩) 2 2] w fun e w' => e = .returned (.int .i64 (orV x y)) ∧ w = w' := by
  by_cases hx : x = 0
  · by_cases hy : y = 0
    · have HF : Hid (orV x y = 0) := by show _ = _; unfold orV; rw [if_neg (by simp [hx]), hy]
      have hxz : (x != 0) = false := by simp [hx]
      have hyz : (y != 0) = false := by simp [hy]
      clear hx hy
      go_enter Try.func81, Try.ntmps81
      go_wp2
      go_loop [5, 8] (fun _ i => ∃ k : Nat, k ≤ 2 ∧ i = .int .i64 (k : Int)) (fun _ i => 2 - (intOf i).toNat)
      case atStart => exact ⟨0, by omega, rfl⟩
      case round =>
        obtain ⟨k, hk, rfl⟩ := hrel
        obtain rfl | rfl | rfl : k = 0 ∨ k = 1 ∨ k = 2 := by omega
        · go_wp2
          go_round
          case rel => exact ⟨1, by omega, by go_num⟩
          case measure => simp [intOf]
        · go_wp2
          go_round
          case rel => exact ⟨2, by omega, by go_num⟩
          case measure => simp [intOf]
        · go_wp2
          go_ret
          exact ⟨ret_int HF.out.symm, rfl⟩
    · have HF : Hid (orV x y = y) := by show _ = _; unfold orV; rw [if_neg (by simp [hx])]
      have hxz : (x != 0) = false := by simp [hx]
      have hyz : (y != 0) = true := by simp [hy]
      clear hx hy
      go_enter Try.func81, Try.ntmps81
      go_wp2
      go_loop [5, 8] (fun _ i => ∃ k : Nat, k ≤ 1 ∧ i = .int .i64 (k : Int)) (fun _ i => 2 - (intOf i).toNat)
      case atStart => exact ⟨0, by omega, rfl⟩
      case round =>
        obtain ⟨k, hk, rfl⟩ := hrel
        obtain rfl | rfl : k = 0 ∨ k = 1 := by omega
        · go_wp2
          go_round
          case rel => exact ⟨1, by omega, by go_num⟩
          case measure => simp [intOf]
        · go_wp2
          go_ret
          exact ⟨ret_int HF.out.symm, rfl⟩
  · have HF : Hid (orV x y = x) := by show _ = _; unfold orV; rw [if_pos hx]
    have hxz : (x != 0) = true := by simp [hx]
    clear hx
    go_enter Try.func81, Try.ntmps81
    go_wp2
    go_loop [5, 8] (fun _ i => i = .int .i64 0) (fun _ _ => 0)
    case atStart => rfl
    case round =>
      subst hrel
      go_wp2
      go_ret
      exact ⟨ret_int HF.out.symm, rfl⟩

attribute [local go_sem ↓] Go.wp_at_zero Go.wp_at_succ
set_option maxRecDepth 100000 in
set_option maxHeartbeats 1000000 in
theorem compare_any (a b : Pt.Point) (w : World) :
    Calls Try.prog 57 #[.agg #[.string a.1, .int .i64 a.2.1, .int .i64 a.2.2], .agg #[.string b.1, .int .i64 b.2.1, .int .i64 b.2.2]] w fun e w' => e = .returned (.int .i64 (Pt.cmpP a b)) ∧ Below w.heap.size w w' := by
  obtain ⟨s, t, v⟩ := a
  obtain ⟨s', t', v'⟩ := b
  have H1 := fun W => Lib.hid (Try.strings_Compare s s' W)
  have H2 := fun W => Lib.hid (Try.cmp_Compare_int t t' W)
  have HD : Hid (Pt.cmpP (s, t, v) (s', t', v') = orV (Lib.compareBytes s.data.toList s'.data.toList) (Lib.compareInt t t')) := rfl
  generalize Pt.cmpP (s, t, v) (s', t', v') = res at *
  generalize Lib.compareBytes s.data.toList s'.data.toList = x at *
  generalize Lib.compareInt t t' = y at *
  go_enter Try.func57, Try.ntmps57
  go_wp2_with fail
  have hP := Blk.alloc (Blk.new w 52 #[.string s, .int .i64 t, .int .i64 v]) (.cells #[.string s', .int .i64 t', .int .i64 v'] 52)
  have hP' := Blk.new (w.alloc (.cells #[.string s, .int .i64 t, .int .i64 v] 52)) 52 #[.string s', .int .i64 t', .int .i64 v']
  have hb : Below w.heap.size w ((w.alloc (.cells #[.string s, .int .i64 t, .int .i64 v] 52)).alloc (.cells #[.string s', .int .i64 t', .int .i64 v'] 52)) := ((Below.refl _ _).alloc (Nat.le_refl _) _).alloc (by simp) _
  rw [World.size_alloc] at hP'
  have hz : ((w.alloc (.cells #[.string s, .int .i64 t, .int .i64 v] 52)).alloc (.cells #[.string s', .int .i64 t', .int .i64 v'] 52)).heap.size = w.heap.size + 2 := by simp
  have HP := Lib.hid hP
  have HP' := Lib.hid hP'
  have Hb := Lib.hid hb
  have Hz := Lib.hid hz
  clear hP hP' hb hz
  generalize (w.alloc (.cells #[.string s, .int .i64 t, .int .i64 v] 52)).alloc (.cells #[.string s', .int .i64 t', .int .i64 v'] 52) = w1 at *
  generalize hg : w.heap.size = g at *
  have Hg := Lib.hid hg
  clear hg
  have hgz : g < w1.heap.size := by have := Hz.out; omega
  have hgz' : g + 1 < w1.heap.size := by have := Hz.out; omega
  go_region_held3 (fun w' => w'.cell? ⟨g, 0, none⟩ = some (.string s) ∧ w'.cell? ⟨g, 1, none⟩ = some (.int .i64 t) ∧ w'.cell? ⟨g + 1, 0, none⟩ = some (.string s') ∧ w'.cell? ⟨g + 1, 1, none⟩ = some (.int .i64 t'))
    (first | exact ⟨HP.out.cell 0, HP.out.cell 1, HP'.out.cell 0, HP'.out.cell 1⟩ | exact ⟨(HP.out.alloc _).cell 0, (HP.out.alloc _).cell 1, (HP'.out.alloc _).cell 0, (HP'.out.alloc _).cell 1⟩)
    (first
      | (go_at_call 82; (with_reducible refine (H1 _).out.mono ?_); rintro e w' ⟨rfl, rfl⟩)
      | (go_at_call 83; (with_reducible refine (H2 _).out.mono ?_); rintro e w' ⟨rfl, rfl⟩)
      | (go_at_call 81; refine (or_any x y w1.heap.size _ (by simp) (by simp)).mono ?_; rintro e w' ⟨rfl, rfl⟩))
  go_wp2_with fail
  go_ret
  exact ⟨ret_int HD.out.symm, by rw [Hg.out]; exact (Hb.out.drew).alloc (by have := Hz.out; show g ≤ w1.heap.size; omega) _⟩

set_option maxRecDepth 100000 in
theorem less_any (a b : Pt.Point) (w : World) :
    Calls Try.prog 105 #[.agg #[.string a.1, .int .i64 a.2.1, .int .i64 a.2.2], .agg #[.string b.1, .int .i64 b.2.1, .int .i64 b.2.2]] w fun e w' => e = .returned (.bool (Pt.lessB a b)) ∧ Below w.heap.size w w' := by
  have H1 := fun W => Lib.hid (compare_any a b W)
  have HD : Hid (Pt.lessB a b = decide (Pt.cmpP a b < 0)) := rfl
  generalize Pt.lessB a b = res at *
  generalize Pt.cmpP a b = x at *
  go_enter Try.func105, Try.ntmps105
  go_wp2_with fail
  refine (H1 _).out.mono ?_
  rintro e w1 ⟨rfl, hb1⟩
  go_wp2_with fail
  go_ret
  exact ⟨ret_bool HD.out.symm, (((Below.refl w.heap.size w).alloc (Nat.le_refl _) _).alloc (by simp) _).trans (hb1.mono (by simp; omega))⟩

theorem below_step {a b : ByteArray} {k : Nat} (ha : k < a.size) (hb : k < b.size) (h : Lib.compareBytes a.data.toList b.data.toList = Lib.compareBytes (a.data.toList.drop k) (b.data.toList.drop k)) (he : a[k].toNat = b[k].toNat) : Lib.compareBytes a.data.toList b.data.toList = Lib.compareBytes (a.data.toList.drop (k + 1)) (b.data.toList.drop (k + 1)) := by
  have e1 : a.data.toList.drop k = a[k] :: a.data.toList.drop (k + 1) := by rw [List.drop_eq_getElem_cons (by simpa using ha)]; rfl
  have e2 : b.data.toList.drop k = b[k] :: b.data.toList.drop (k + 1) := by rw [List.drop_eq_getElem_cons (by simpa using hb)]; rfl
  rw [h, e1, e2, UInt8.toNat_inj.1 he]
  show (if b[k] < b[k] then _ else _) = _
  rw [if_neg (UInt8.lt_irrefl _), if_neg (UInt8.lt_irrefl _)]
theorem below_stop {a b : ByteArray} {k : Nat} (ha : k < a.size) (hb : k < b.size) (h : Lib.compareBytes a.data.toList b.data.toList = Lib.compareBytes (a.data.toList.drop k) (b.data.toList.drop k)) (he : ¬ a[k].toNat = b[k].toNat) : decide (Lib.compareBytes a.data.toList b.data.toList < 0) = decide (a[k].toNat < b[k].toNat) := by
  have e1 : a.data.toList.drop k = a[k] :: a.data.toList.drop (k + 1) := by rw [List.drop_eq_getElem_cons (by simpa using ha)]; rfl
  have e2 : b.data.toList.drop k = b[k] :: b.data.toList.drop (k + 1) := by rw [List.drop_eq_getElem_cons (by simpa using hb)]; rfl
  rw [h, e1, e2]
  show decide ((if a[k] < b[k] then (-1 : Int) else if b[k] < a[k] then 1 else _) < 0) = _
  simp only [UInt8.lt_iff_toNat_lt]
  by_cases h1 : a[k].toNat < b[k].toNat
  · rw [if_pos h1]; simp [h1]
  · rw [if_neg h1, if_pos (by omega)]; simp [h1]
theorem below_end {a b : ByteArray} {k : Nat} (h : Lib.compareBytes a.data.toList b.data.toList = Lib.compareBytes (a.data.toList.drop k) (b.data.toList.drop k)) (ha : k ≤ a.size) (hb : k ≤ b.size) (he : ¬ k < a.size ∨ ¬ k < b.size) : decide (Lib.compareBytes a.data.toList b.data.toList < 0) = decide (a.size < b.size) := by
  rw [h]
  have l1 : (a.data.toList.drop k).length = a.size - k := by simp
  have l2 : (b.data.toList.drop k).length = b.size - k := by simp
  generalize a.data.toList.drop k = x at *
  generalize b.data.toList.drop k = y at *
  cases x with
  | nil =>
    cases y with
    | nil => simp at l1 l2; simp [Lib.compareBytes]; omega
    | cons c y => simp at l1 l2; simp [Lib.compareBytes]; omega
  | cons c x =>
    cases y with
    | nil => simp at l1 l2; simp [Lib.compareBytes]; omega
    | cons d y => simp at l1 l2; omega
set_option maxRecDepth 100000 in
set_option maxHeartbeats 800000 in
theorem rbelow_any (a b : ByteArray) (w : World) (ha : a.size ≤ 9223372036854775807) (hb : b.size ≤ 9223372036854775807) :
    Calls Try.prog 99 #[.string a, .string b] w fun e w' => e = .returned (.bool (decide (Lib.compareBytes a.data.toList b.data.toList < 0))) ∧ ∃ n, w' = w.drewN n := by
  obtain ⟨cb, hcb⟩ : ∃ cb, Lib.compareBytes a.data.toList b.data.toList = cb := ⟨_, rfl⟩
  obtain ⟨res, hres⟩ : ∃ res, decide (Lib.compareBytes a.data.toList b.data.toList < 0) = res := ⟨_, rfl⟩
  rw [hres]
  have Hres := Lib.hid hres
  clear hres hcb
  go_enter Try.func99, Try.ntmps99
  go_wp2
  go_loopw [5] (fun i wr => ∃ k n : Nat, k ≤ a.size ∧ k ≤ b.size ∧ i = .int .i64 (k : Int) ∧ wr = w.drewN n ∧ Hid (Lib.compareBytes a.data.toList b.data.toList = Lib.compareBytes (a.data.toList.drop k) (b.data.toList.drop k))) (fun i _ => a.size - (intOf i).toNat)
  case atStart => exact ⟨0, 0, Nat.zero_le _, Nat.zero_le _, rfl, rfl, Lib.hid (by simp)⟩
  case round =>
    obtain ⟨k, n, hka, hkb, rfl, rfl, hc⟩ := hrel
    by_cases h1 : k < a.size
    · by_cases h2 : k < b.size
      · have hi0 : (0 : Int) ≤ (k : Int) := by omega
        have hi1 : (k : Int) < (a.size : Int) := by omega
        have hi2 : (k : Int) < (b.size : Int) := by omega
        by_cases he : a[k].toNat = b[k].toNat
        · have hC := Lib.hid (below_step h1 h2 hc.out he)
          have hne : ((a[k].toNat : Int) != (b[k].toNat : Int)) = false := by simp [he]
          clear hc he Hres
          go_wp2
          go_quiet (fail)
          go_wp2
          go_roundw
          case rel => exact ⟨k + 1, n + nq, by omega, by omega, by go_num, rfl, hC⟩
          case measure => simp [intOf]; omega
        · have hC := Lib.hid (below_stop h1 h2 hc.out he)
          have hne : ((a[k].toNat : Int) != (b[k].toNat : Int)) = true := by simp; omega
          clear hc he
          go_wp2
          go_quiet (fail)
          go_wp2
          go_quiet (fail)
          go_wp2
          go_ret
          exact ⟨ret_bool (by rw [← Hres.out, hC.out] <;> first | rfl | (rw [decide_eq_decide]; omega)), _, by rw [World.drewN_drewN, World.drewN_drewN]⟩
      · have hC := Lib.hid (below_end hc.out hka hkb (.inr h2))
        clear hc
        go_wp2
        go_ret
        exact ⟨ret_bool (by rw [← Hres.out, hC.out] <;> first | rfl | (rw [decide_eq_decide]; omega)), _, rfl⟩
    · have hC := Lib.hid (below_end hc.out hka hkb (.inl h1))
      clear hc
      go_wp2
      go_ret
      exact ⟨ret_bool (by rw [← Hres.out, hC.out] <;> first | rfl | (rw [decide_eq_decide]; omega)), _, rfl⟩

set_option maxRecDepth 100000 in
set_option maxHeartbeats 400000 in
theorem rless_any (a b : Pt.Point) (w : World) (ha : a.1.size ≤ 9223372036854775807) (hb : b.1.size ≤ 9223372036854775807) :
    Calls Try.prog 85 #[.agg #[.string a.1, .int .i64 a.2.1, .int .i64 a.2.2], .agg #[.string b.1, .int .i64 b.2.1, .int .i64 b.2.2]] w fun e w' => e = .returned (.bool (Pt.lessB a b)) ∧ Below w.heap.size w w' := by
  obtain ⟨s, t, v⟩ := a
  obtain ⟨s', t', v'⟩ := b
  have H1 := fun W => Lib.hid (rbelow_any s s' W ha hb)
  have HD := less_ref (s, t, v) (s', t', v')
  simp only at HD ha hb
  generalize Pt.lessB (s, t, v) (s', t', v') = res at *
  have hbl := ((Below.refl w.heap.size w).alloc (Nat.le_refl _) (.cells #[.string s, .int .i64 t, .int .i64 v] 52)).alloc (by simp) (.cells #[.string s', .int .i64 t', .int .i64 v'] 52)
  by_cases hs : s = s'
  · subst hs
    have HF : Hid (res = decide (t < t')) := by rw [if_neg (by simp)] at HD; exact HD
    clear HD
    go_enter Try.func85, Try.ntmps85
    go_wp2_with fail
    go_ret
    exact ⟨ret_bool HF.out.symm, hbl⟩
  · have HF : Hid (res = decide (Lib.compareBytes s.data.toList s'.data.toList < 0)) := by rw [if_pos hs] at HD; exact HD
    clear HD
    generalize decide (Lib.compareBytes s.data.toList s'.data.toList < 0) = r1 at *
    have hne : (s.toList == s'.toList) = false := by
      rw [beq_eq_false_iff_ne, Lib.toList_data, Lib.toList_data]
      exact fun e => hs (list_inj e)
    go_enter Try.func85, Try.ntmps85
    go_wp2_with fail
    refine (H1 _).out.mono ?_
    rintro e w1 ⟨rfl, n1, rfl⟩
    go_wp2_with fail
    go_ret
    exact ⟨ret_bool HF.out.symm, below_drewN hbl _⟩
end Go.Proofs.Ythdbmgjlegpbaaa
/- The walks through point.Name, Small, May, Batch and the references' Name, Small, May, Batch. -/
namespace Go.Proofs.Ythdbmgjlegpbaaa
open Go.RowKit
set_option linter.unusedVariables false

theorem nameC_yes1 {c : UInt8} (h : (97 : Int) ≤ (c.toNat : Int)) (h' : (c.toNat : Int) ≤ 122) : Pt.nameC c = true := by unfold Pt.nameC; simp; omega
theorem nameC_yes2 {c : UInt8} (h : (48 : Int) ≤ (c.toNat : Int)) (h' : (c.toNat : Int) ≤ 57) : Pt.nameC c = true := by unfold Pt.nameC; simp; omega
theorem nameC_yes3 {c : UInt8} (h : ((c.toNat : Int) == 95) = true) : Pt.nameC c = true := by rw [beq_iff_eq] at h; unfold Pt.nameC; simp; omega
theorem nameC_no {c : UInt8} (h : ¬ ((97 : Int) ≤ (c.toNat : Int) ∧ (c.toNat : Int) ≤ 122)) (h' : ¬ ((48 : Int) ≤ (c.toNat : Int) ∧ (c.toNat : Int) ≤ 57)) (h'' : ((c.toNat : Int) == 95) = false) : Pt.nameC c = false := by
  rw [beq_eq_false_iff_ne] at h''; unfold Pt.nameC; simp; omega
theorem name_none {s : ByteArray} (h : s.size = 0) : Pt.nameB s = false := by unfold Pt.nameB; simp [h]
theorem name_much {s : ByteArray} (h : ¬ s.size ≤ 12) : Pt.nameB s = false := by unfold Pt.nameB; simp [h]
theorem name_stop {s : ByteArray} {k : Nat} (hk : k < s.size) (h : Pt.nameC s[k] = false) : Pt.nameB s = false := by
  unfold Pt.nameB
  have : s.data.toList.all Pt.nameC = false := by
    rw [List.all_eq_false]
    exact ⟨s[k], by simp; exact Array.getElem_mem _, by rw [h]; simp⟩
  rw [this]; simp
theorem name_step {s : ByteArray} {k : Nat} (hk : k < s.size) (ha : (s.data.toList.take k).all Pt.nameC = true) (h : Pt.nameC s[k] = true) : (s.data.toList.take (k + 1)).all Pt.nameC = true := by
  rw [take_snoc s k hk, List.all_append, ha]; simp [h]
theorem name_done {s : ByteArray} {k : Nat} (h1 : 1 ≤ s.size) (h2 : s.size ≤ 12) (hk : ¬ k < s.size) (ha : (s.data.toList.take k).all Pt.nameC = true) : Pt.nameB s = true := by
  rw [List.take_of_length_le (by simp; omega)] at ha
  unfold Pt.nameB; simp [ha, h1, h2]

set_option maxRecDepth 100000 in
set_option maxHeartbeats 800000 in
theorem name_any (s : ByteArray) (w : World) : Calls Try.prog 107 #[.string s] w fun e w' => e = .returned (.bool (Pt.nameB s)) ∧ w = w' := by
  by_cases h0 : s.size = 0
  · have hf := Lib.hid (name_none h0)
    have he := empty_of h0
    subst he
    clear h0
    generalize Pt.nameB ⟨#[]⟩ = b at *
    go_enter Try.func107, Try.ntmps107
    go_wp2
    go_step3
    go_wp2
    rw [Exit.noGoto_ret]
    go_ret
    exact ⟨ret_bool hf.out.symm, rfl⟩
  · have hne := nonempty_of h0
    by_cases h12 : s.size ≤ 12
    · go_enter Try.func107, Try.ntmps107
      go_wp2
      go_step3
      go_wp2
      go_step3
      go_wp2
      go_loop [14] (fun i => ∃ k : Nat, k ≤ s.size ∧ i = .int .i64 (k : Int) ∧ Hid ((s.data.toList.take k).all Pt.nameC = true)) (fun i => s.size - (intOf i).toNat)
      case atStart => exact ⟨0, Nat.zero_le _, rfl, Lib.hid (by simp)⟩
      case round =>
        obtain ⟨k, hk, rfl, ha⟩ := hrel
        by_cases hlt : k < s.size
        · have hc8 : s[k].toNat < 256 := s[k].toNat_lt
          have hk1 := fun h => name_step hlt ha.out h
          have hk2 := name_stop hlt
          have HY := Lib.hid hk1
          have HN := Lib.hid hk2
          clear hk1 hk2 ha
          go_wp2
          all_goals first
            | (go_round
               case rel => exact ⟨k + 1, by omega, by go_num, Lib.hid (HY.out (by first | exact nameC_yes1 ‹_› ‹_› | exact nameC_yes2 ‹_› ‹_› | exact nameC_yes3 ‹_›))⟩
               case measure => simp [intOf]; omega)
            | ((try rw [Exit.noGoto_ret])
               go_ret
               exact ⟨ret_bool (HN.out (nameC_no (by omega) (by omega) ‹_›)).symm, rfl⟩)
        · have hst := Lib.hid (name_done (by omega) h12 hlt ha.out)
          clear ha
          go_wp2
          (try rw [Exit.noGoto_ret])
          go_ret
          exact ⟨ret_bool hst.out.symm, rfl⟩
    · have hf := Lib.hid (name_much h12)
      generalize Pt.nameB s = b at *
      go_enter Try.func107, Try.ntmps107
      go_wp2
      go_step3
      go_wp2
      rw [Exit.noGoto_ret]
      go_ret
      exact ⟨ret_bool hf.out.symm, rfl⟩

theorem small_eq (x : Int) (hx : -9223372036854775808 ≤ x ∧ x ≤ 9223372036854775807) : (x == wrap64 (wrap32 x)) = Pt.smallB x := by
  rw [Bool.eq_iff_iff, beq_iff_eq, Pt.smallB_iff]
  have h32 : wrap32 x = (x + 2147483648) % 4294967296 - 2147483648 := by unfold wrap32; rfl
  rw [h32, IntWalk.wrap64_in _ ⟨by omega, by omega⟩]
  omega
set_option maxRecDepth 100000 in
theorem small_any (x : Int) (w : World) (hx : -9223372036854775808 ≤ x ∧ x ≤ 9223372036854775807) : Calls Try.prog 39 #[.int .i64 x] w fun e w' => e = .returned (.bool (Pt.smallB x)) ∧ w = w' := by
  have H := Lib.hid (small_eq x hx)
  clear hx
  generalize Pt.smallB x = b at *
  go_enter Try.func39, Try.ntmps39
  go_wp2
  go_ret
  exact ⟨ret_bool H.out, rfl⟩
end Go.Proofs.Ythdbmgjlegpbaaa
/- The walks through May of point and of its reference. -/
namespace Go.Proofs.Ythdbmgjlegpbaaa
open Go.RowKit
set_option linter.unusedVariables false

set_option maxRecDepth 100000 in
theorem rsmall_any (x : Int) (w : World) : Calls Try.prog 54 #[.int .i64 x] w fun e w' => e = .returned (.bool (Pt.smallB x)) ∧ w = w' := by
  by_cases h1 : -2147483648 ≤ x
  · by_cases h2 : x ≤ 2147483647
    · have H : Hid (Pt.smallB x = true) := (Pt.smallB_iff x).2 ⟨h1, h2⟩
      go_enter Try.func54, Try.ntmps54
      go_wp2
      go_ret
      exact ⟨ret_bool H.out.symm, rfl⟩
    · have H : Hid (Pt.smallB x = false) := (Pt.smallB_false x).2 (by omega)
      go_enter Try.func54, Try.ntmps54
      go_wp2
      go_ret
      exact ⟨ret_bool H.out.symm, rfl⟩
  · have H : Hid (Pt.smallB x = false) := (Pt.smallB_false x).2 (by omega)
    go_enter Try.func54, Try.ntmps54
    go_wp2
    go_ret
    exact ⟨ret_bool H.out.symm, rfl⟩

set_option maxRecDepth 100000 in
set_option maxHeartbeats 800000 in
theorem rname_any (s : ByteArray) (w : World) : Calls Try.prog 100 #[.string s] w fun e w' => e = .returned (.bool (Pt.nameB s)) ∧ w = w' := by
  by_cases h0 : s.size < 1
  · have hf := Lib.hid (name_none (s := s) (by omega))
    generalize Pt.nameB s = b at *
    go_enter Try.func100, Try.ntmps100
    go_wp2
    go_ret
    exact ⟨ret_bool hf.out.symm, rfl⟩
  · by_cases h12 : s.size ≤ 12
    · go_enter Try.func100, Try.ntmps100
      go_wp2
      go_loop [3] (fun i => ∃ k : Nat, k ≤ s.size ∧ i = .int .i64 (k : Int) ∧ Hid ((s.data.toList.take k).all Pt.nameC = true)) (fun i => s.size - (intOf i).toNat)
      case atStart => exact ⟨0, Nat.zero_le _, rfl, Lib.hid (by simp)⟩
      case round =>
        obtain ⟨k, hk, rfl, ha⟩ := hrel
        by_cases hlt : k < s.size
        · have hc8 : s[k].toNat < 256 := s[k].toNat_lt
          have HY := Lib.hid fun h => name_step hlt ha.out h
          have HN := Lib.hid (name_stop hlt)
          clear ha
          by_cases h95 : s[k].toNat = 95
          · have hz : ((s[k].toNat : Int) != 95) = false := by rw [h95]; rfl
            have hY := Lib.hid (HY.out (nameC_yes3 (beq_iff_eq.2 (by omega))))
            clear h95 HY HN
            go_wp2
            go_round
            case rel => exact ⟨k + 1, by omega, by go_num, hY⟩
            case measure => simp [intOf]; omega
          · have hz : ((s[k].toNat : Int) != 95) = true := by simp; omega
            have hz' : ((s[k].toNat : Int) == 95) = false := by simp; omega
            by_cases hl : 97 ≤ s[k].toNat ∧ s[k].toNat ≤ 122
            · obtain ⟨hl1, hl2⟩ := hl
              have hY := Lib.hid (HY.out (nameC_yes1 (by omega) (by omega)))
              clear h95 HY HN hz'
              go_wp2
              go_round
              case rel => exact ⟨k + 1, by omega, by go_num, hY⟩
              case measure => simp [intOf]; omega
            · by_cases hd : 48 ≤ s[k].toNat ∧ s[k].toNat ≤ 57
              · obtain ⟨hd1, hd2⟩ := hd
                have hl' : s[k].toNat < 97 := by omega
                have hY := Lib.hid (HY.out (nameC_yes2 (by omega) (by omega)))
                clear h95 HY HN hz' hl
                go_wp2
                go_round
                case rel => exact ⟨k + 1, by omega, by go_num, hY⟩
                case measure => simp [intOf]; omega
              · have hN := Lib.hid (HN.out (nameC_no (by omega) (by omega) hz'))
                clear h95 HY HN hz'
                have hl' : s[k].toNat < 97 ∨ 122 < s[k].toNat := by omega
                have hd' : s[k].toNat < 48 ∨ 57 < s[k].toNat := by omega
                clear hl hd
                rcases hl' with hl' | hl' <;> rcases hd' with hd' | hd'
                all_goals first
                  | (exfalso; omega)
                  | (go_wp2
                     go_ret
                     exact ⟨ret_bool hN.out.symm, rfl⟩)
        · have hst := Lib.hid (name_done (by omega) h12 hlt ha.out)
          clear ha
          go_wp2
          go_ret
          exact ⟨ret_bool hst.out.symm, rfl⟩
    · have hf := Lib.hid (name_much h12)
      generalize Pt.nameB s = b at *
      go_enter Try.func100, Try.ntmps100
      go_wp2
      go_ret
      exact ⟨ret_bool hf.out.symm, rfl⟩

/-- a point's numbers are ints -/
def Pt.wf (p : Pt.Point) : Prop := (-9223372036854775808 ≤ p.2.1 ∧ p.2.1 ≤ 9223372036854775807) ∧ (-9223372036854775808 ≤ p.2.2 ∧ p.2.2 ≤ 9223372036854775807)
def ptV (p : Pt.Point) : Value := .agg #[.string p.1, .int .i64 p.2.1, .int .i64 p.2.2]

set_option maxRecDepth 100000 in
theorem may_any (p : Pt.Point) (w : World) (hp : Pt.wf p) : Calls Try.prog 104 #[.agg #[.string p.1, .int .i64 p.2.1, .int .i64 p.2.2]] w fun e w' => e = .returned (.bool (Pt.mayB p)) ∧ Below w.heap.size w w' := by
  obtain ⟨s, t, v⟩ := p
  have H1 := fun W => Lib.hid (name_any s W)
  have H2 := fun W => Lib.hid (small_any t W hp.1)
  have H3 := fun W => Lib.hid (small_any v W hp.2)
  have hm : Pt.mayB (s, t, v) = (Pt.nameB s && Pt.smallB t && Pt.smallB v) := rfl
  clear hp
  generalize Pt.mayB (s, t, v) = b at *
  generalize Pt.nameB s = b1 at *
  generalize Pt.smallB t = b2 at *
  generalize Pt.smallB v = b3 at *
  have Hm := Lib.hid hm
  clear hm
  have hb := (Below.refl w.heap.size w).alloc (Nat.le_refl _) (.cells #[.string s, .int .i64 t, .int .i64 v] 52)
  cases b1
  · go_enter Try.func104, Try.ntmps104
    go_wp2_with fail
    refine (H1 _).out.mono ?_
    rintro e w' ⟨rfl, rfl⟩
    go_wp2_with fail
    go_ret
    exact ⟨ret_bool (by rw [Hm.out]; rfl), hb⟩
  · cases b2
    · go_enter Try.func104, Try.ntmps104
      go_wp2_with fail
      refine (H1 _).out.mono ?_
      rintro e w' ⟨rfl, rfl⟩
      go_wp2_with fail
      refine (H2 _).out.mono ?_
      rintro e w' ⟨rfl, rfl⟩
      go_wp2_with fail
      go_ret
      exact ⟨ret_bool (by rw [Hm.out]; rfl), hb⟩
    · go_enter Try.func104, Try.ntmps104
      go_wp2_with fail
      refine (H1 _).out.mono ?_
      rintro e w' ⟨rfl, rfl⟩
      go_wp2_with fail
      refine (H2 _).out.mono ?_
      rintro e w' ⟨rfl, rfl⟩
      go_wp2_with fail
      refine (H3 _).out.mono ?_
      rintro e w' ⟨rfl, rfl⟩
      go_wp2_with fail
      go_ret
      exact ⟨ret_bool (by rw [Hm.out]; rfl), hb⟩

set_option maxRecDepth 100000 in
theorem rmay_any (p : Pt.Point) (w : World) (hp : Pt.wf p) : Calls Try.prog 86 #[.agg #[.string p.1, .int .i64 p.2.1, .int .i64 p.2.2]] w fun e w' => e = .returned (.bool (Pt.mayB p)) ∧ Below w.heap.size w w' := by
  obtain ⟨s, t, v⟩ := p
  have H1 := fun W => Lib.hid (rname_any s W)
  have H2 := fun W => Lib.hid (rsmall_any t W)
  have H3 := fun W => Lib.hid (rsmall_any v W)
  have hm : Pt.mayB (s, t, v) = (Pt.nameB s && Pt.smallB t && Pt.smallB v) := rfl
  clear hp
  generalize Pt.mayB (s, t, v) = b at *
  generalize Pt.nameB s = b1 at *
  generalize Pt.smallB t = b2 at *
  generalize Pt.smallB v = b3 at *
  have Hm := Lib.hid hm
  clear hm
  have hb := (Below.refl w.heap.size w).alloc (Nat.le_refl _) (.cells #[.string s, .int .i64 t, .int .i64 v] 52)
  cases b1
  · go_enter Try.func86, Try.ntmps86
    go_wp2_with fail
    refine (H1 _).out.mono ?_
    rintro e w' ⟨rfl, rfl⟩
    go_wp2_with fail
    go_ret
    exact ⟨ret_bool (by rw [Hm.out]; rfl), hb⟩
  · cases b2
    · go_enter Try.func86, Try.ntmps86
      go_wp2_with fail
      refine (H1 _).out.mono ?_
      rintro e w' ⟨rfl, rfl⟩
      go_wp2_with fail
      refine (H2 _).out.mono ?_
      rintro e w' ⟨rfl, rfl⟩
      go_wp2_with fail
      go_ret
      exact ⟨ret_bool (by rw [Hm.out]; rfl), hb⟩
    · go_enter Try.func86, Try.ntmps86
      go_wp2_with fail
      refine (H1 _).out.mono ?_
      rintro e w' ⟨rfl, rfl⟩
      go_wp2_with fail
      refine (H2 _).out.mono ?_
      rintro e w' ⟨rfl, rfl⟩
      go_wp2_with fail
      refine (H3 _).out.mono ?_
      rintro e w' ⟨rfl, rfl⟩
      go_wp2_with fail
      go_ret
      exact ⟨ret_bool (by rw [Hm.out]; rfl), hb⟩
end Go.Proofs.Ythdbmgjlegpbaaa
/- Worlds behind some new memory, as a class for a region that draws its order and whose calls make memory but answer the same whatever the order. -/
namespace Go.Proofs.Ythdbmgjlegpbaaa
open Go.RowKit

/-- a world that is as W was below block B -/
structure Aft (B : Nat) (W : World) where
  world : World
  below : Below B W world
instance (B : Nat) (W : World) : Nonempty (Aft B W) := ⟨⟨W, Below.refl B W⟩⟩

section
variable {P : Program} {B : Nat} {W : World}
theorem wp_region_aft (B : Nat) (W : World) {id : Nat} {Q : Exit → Act → World → Prop} {a : Act} {w : World} {l : List Oper} (hm : P.follows .mixedOrders = true) (hB : Region.lexB .any l.toArray = true) (hb : Below B W w)
    (h : wpQuiet P l.toArray (fun w' => ∃ x : Aft B W, w' = x.world) (fun a' => ∀ w', (∃ x : Aft B W, w' = x.world) → Q .normal a' w') l a) : (Code.region id l.toArray true).wp P Q a w :=
  wp_region_quiet (C := fun w' => ∃ x : Aft B W, w' = x.world) hm hB ⟨⟨w.drew, hb.drew⟩, rfl⟩ (by simpa using h)
variable {f : FuncId} {args : Array Value} {v : Value} {x : Aft B W}
/-- a call that makes memory -/
theorem aft_new (hB : B ≤ W.heap.size) (h : Calls P f args x.world fun e w' => e = .returned v ∧ Below x.world.heap.size x.world w') : Calls P f args x.world fun e w'' => e = .returned v ∧ ∃ y : Aft B W, w'' = y.world :=
  h.mono fun _ w' ⟨he, hb⟩ => ⟨he, ⟨w', x.below.trans (hb.mono (Nat.le_trans hB x.below.size))⟩, rfl⟩
/-- a call that leaves the world -/
theorem aft_same (h : Calls P f args x.world fun e w' => e = .returned v ∧ x.world = w') : Calls P f args x.world fun e w'' => e = .returned v ∧ ∃ y : Aft B W, w'' = y.world :=
  h.mono fun _ _ ⟨he, hb⟩ => ⟨he, x, hb.symm⟩
/-- a call that draws -/
theorem aft_drew (h : Calls P f args x.world fun e w' => e = .returned v ∧ ∃ n, w' = x.world.drewN n) : Calls P f args x.world fun e w'' => e = .returned v ∧ ∃ y : Aft B W, w'' = y.world :=
  h.mono fun _ _ ⟨he, n, hb⟩ => ⟨he, ⟨_, below_drewN x.below n⟩, hb⟩
theorem Aft.cell (x : Aft B W) {p : Addr} (hp : p.block < B) : x.world.cell? p = W.cell? p := x.below.cell hp
theorem Aft.reads (x : Aft B W) {size n : Nat} {A : Option Addr} {xs : List Value} (h : Reads W B size A n xs) : Reads x.world B size A n xs := h.below x.below
end
end Go.Proofs.Ythdbmgjlegpbaaa
/- Which points may be a segment's: plain, and the walks through segment.may and the reference's rises. -/
namespace Go.Proofs.Ythdbmgjlegpbaaa
open Go.RowKit
set_option linter.unusedVariables false

def Sg.z0 : Pt.Point := (⟨#[]⟩, 0, 0)
def Sg.okAt (ps : List Pt.Point) (i : Nat) : Bool := Pt.mayB (ps.getD i Sg.z0) && (decide (i = 0) || Pt.lessB (ps.getD (i - 1) Sg.z0) (ps.getD i Sg.z0))
def Sg.riseB (ps : List Pt.Point) : Bool := decide (ps.length ≤ 64) && (List.range ps.length).all (Sg.okAt ps)
theorem okAt_eq {ps : List Pt.Point} {k : Nat} (hk : k < ps.length) : Sg.okAt ps k = (Pt.mayB ps[k] && (decide (k = 0) || Pt.lessB (ps.getD (k - 1) Sg.z0) ps[k])) := by
  unfold Sg.okAt
  have e : ps.getD k Sg.z0 = ps[k] := by rw [List.getD_eq_getElem?_getD, List.getElem?_eq_getElem hk]; rfl
  rw [e]
theorem getD_lt {ps : List Pt.Point} {k : Nat} (hk : k < ps.length) : ps.getD k Sg.z0 = ps[k] := by
  rw [List.getD_eq_getElem?_getD, List.getElem?_eq_getElem hk]; rfl
theorem range_step {ps : List Pt.Point} {k : Nat} (ha : (List.range k).all (Sg.okAt ps) = true) (h : Sg.okAt ps k = true) : (List.range (k + 1)).all (Sg.okAt ps) = true := by
  rw [List.range_succ, List.all_append, ha]; simp [h]
theorem range_stop {ps : List Pt.Point} {k : Nat} (hk : k < ps.length) (h : Sg.okAt ps k = false) : Sg.riseB ps = false := by
  unfold Sg.riseB
  have : (List.range ps.length).all (Sg.okAt ps) = false := by
    rw [List.all_eq_false]
    exact ⟨k, by simp [hk], by rw [h]; simp⟩
  rw [this]; simp

set_option maxRecDepth 100000 in
set_option maxHeartbeats 1600000 in
theorem sgmay_any (A : Option Addr) (c : Nat) (ps : List Pt.Point) (w : World) (B : Nat) (hr : Reads w B 3 A ps.length (ps.flatMap pointCells)) (hB : B ≤ w.heap.size) (hn : ps.length ≤ 140737488355328) (hwf : ∀ p ∈ ps, Pt.wf p) :
    Calls Try.prog 101 #[.slice A ps.length c] w fun e w' => e = .returned (.bool (Sg.riseB ps)) ∧ Below w.heap.size w w' := by
  have HW := Lib.hid hwf
  have HR := Lib.hid hr
  have HSt := Lib.hid (fun k hk h => @range_stop ps k hk h)
  have HDef : Hid (Sg.riseB ps = (decide (ps.length ≤ 64) && (List.range ps.length).all (Sg.okAt ps))) := rfl
  clear hwf hr
  generalize Sg.riseB ps = res at *
  by_cases h64 : ps.length ≤ 64
  · go_enter Try.func101, Try.ntmps101
    go_wp2_with fail
    go_loopw [3, 4, 10] (fun _ _ i wr => ∃ k : Nat, k ≤ ps.length ∧ i = .int .i64 (k : Int) ∧ Hid ((List.range k).all (Sg.okAt ps) = true) ∧ Hid (Below w.heap.size w wr)) (fun _ _ i _ => ps.length - (intOf i).toNat)
    case atStart => exact ⟨0, Nat.zero_le _, rfl, Lib.hid (by simp), Lib.hid (Below.refl _ _)⟩
    case round =>
      obtain ⟨k, hk, rfl, ha, hbw⟩ := hrel
      by_cases hlt : k < ps.length
      · obtain ⟨b, off, rfl, hbl, hc⟩ := HR.out.2 (by omega)
        obtain ⟨hc0, hc1, hc2⟩ := pt_cells (wr := wr) hlt hc (fun p hp => hbw.out.cell (p := p) (by omega)) hbl
        have hM := fun W => Lib.hid (may_any ps[k] W (HW.out _ (List.getElem_mem _)))
        have hok := okAt_eq hlt
        have HGo := Lib.hid (fun h => range_step ha.out h)
        have HS := Lib.hid (fun h => HSt.out k hlt h)
        have hsw := hbw.out.size
        cases hm : Pt.mayB ps[k]
        · have HRf : Hid (res = false) := HS.out (by rw [hok, hm]; rfl)
          rw [hm] at hM
          clear hok hm HGo HS ha hc HSt HDef
          generalize hp1 : ps[k].1 = nm at *
          generalize hp2 : ps[k].2.1 = t at *
          generalize hp3 : ps[k].2.2 = v at *
          clear hp1 hp2 hp3
          go_wp2_with fail
          have hP := Blk.new wr 52 #[.string nm, .int .i64 t, .int .i64 v]
          have hb2 : Below w.heap.size w (wr.alloc (.cells #[.string nm, .int .i64 t, .int .i64 v] 52)) := hbw.out.alloc hsw _
          have HP := Lib.hid hP
          have Hb2 := Lib.hid hb2
          clear hP hb2 hc0 hc1 hc2
          generalize wr.alloc (.cells #[.string nm, .int .i64 t, .int .i64 v] 52) = w2 at *
          generalize wr.heap.size = h at *
          have hx := fun x : Aft w2.heap.size w2 => pt3_of (Blk.below HP.out x.below HP.out.lt)
          have hx0 := fun x => (hx x).1
          have hx1 := fun x => (hx x).2.1
          have hx2 := fun x => (hx x).2.2
          clear hx
          refine wp_region_aft w2.heap.size w2 (by kernel_rfl) (by kernel_rfl) (Below.refl _ _) ?_
          repeat (go_big_quiet_step (first | (go_at_call 104; with_reducible exact aft_new (Nat.le_refl _) (Hid.out (hM _)))))
          refine wpQuiet_nil ?_
          rintro _ ⟨x, rfl⟩
          have Hx := Lib.hid x.below
          clear hx0 hx1 hx2
          generalize x.world = w3 at *
          go_wp2_with fail
          go_ret
          exact ⟨ret_bool HRf.out.symm, Hb2.out.trans (Hx.out.mono Hb2.out.size)⟩
        · rw [hm] at hM hok
          rw [Bool.true_and] at hok
          by_cases hk0 : k = 0
          · have HOk := Lib.hid (HGo.out (by rw [hok, decide_eq_true hk0]; rfl))
            have hk1 : k ≤ 0 := by omega
            clear hk0 hok hm HGo HS ha hc HSt HDef
            have d0 : decide ((0 : Int) < (k : Int)) = false := decide_eq_false (by omega)
            have d1 : decide (0 < k) = false := decide_eq_false (by omega)
            generalize hp1 : ps[k].1 = nm at *
            generalize hp2 : ps[k].2.1 = t at *
            generalize hp3 : ps[k].2.2 = v at *
            clear hp1 hp2 hp3
            go_wp2_with fail
            have hP := Blk.new wr 52 #[.string nm, .int .i64 t, .int .i64 v]
            have hb2 : Below w.heap.size w (wr.alloc (.cells #[.string nm, .int .i64 t, .int .i64 v] 52)) := hbw.out.alloc hsw _
            have HP := Lib.hid hP
            have Hb2 := Lib.hid hb2
            clear hP hb2 hc0 hc1 hc2
            generalize wr.alloc (.cells #[.string nm, .int .i64 t, .int .i64 v] 52) = w2 at *
            generalize wr.heap.size = h at *
            have hx := fun x : Aft w2.heap.size w2 => pt3_of (Blk.below HP.out x.below HP.out.lt)
            have hx0 := fun x => (hx x).1
            have hx1 := fun x => (hx x).2.1
            have hx2 := fun x => (hx x).2.2
            clear hx
            refine wp_region_aft w2.heap.size w2 (by kernel_rfl) (by kernel_rfl) (Below.refl _ _) ?_
            repeat (go_big_quiet_step (first | (go_at_call 104; with_reducible exact aft_new (Nat.le_refl _) (Hid.out (hM _)))))
            refine wpQuiet_nil ?_
            rintro _ ⟨x, rfl⟩
            have Hx : Hid (Below w.heap.size w x.world) := Hb2.out.trans (x.below.mono Hb2.out.size)
            clear hx0 hx1 hx2
            generalize x.world = w3 at *
            go_wp2_with fail
            go_roundw
            case rel => exact ⟨k + 1, by omega, by go_num, HOk, Hx⟩
            case measure => simp [intOf]; omega
          · obtain ⟨j, rfl⟩ : ∃ j, k = j + 1 := ⟨k - 1, by omega⟩
            have hjl : j < ps.length := by omega
            rw [decide_eq_false hk0, Bool.false_or, show j + 1 - 1 = j from by omega, getD_lt hjl] at hok
            have hpv := fun x : Aft wr.heap.size wr => pt_cells (wr := x.world) hjl hc (fun p hp => (x.below.cell (p := p) (by omega)).trans (hbw.out.cell (p := p) (by omega))) hbl
            have hL := fun W => Lib.hid (less_any ps[j] ps[j + 1] W)
            have hOk := Lib.hid (fun h => HGo.out (by rw [hok]; exact h))
            have hNo := Lib.hid (fun h => HS.out (by rw [hok]; exact h))
            clear hok hm HGo HS ha hc HSt HDef hk0
            generalize Pt.lessB ps[j] ps[j + 1] = bl at *
            generalize hp1 : ps[j + 1].1 = nm at *
            generalize hp2 : ps[j + 1].2.1 = t at *
            generalize hp3 : ps[j + 1].2.2 = v at *
            generalize hp4 : ps[j].1 = nm' at *
            generalize hp5 : ps[j].2.1 = t' at *
            generalize hp6 : ps[j].2.2 = v' at *
            clear hp1 hp2 hp3 hp4 hp5 hp6
            go_wp2_with fail
            have hP := Blk.new wr 52 #[.string nm, .int .i64 t, .int .i64 v]
            have hb2 : Below w.heap.size w (wr.alloc (.cells #[.string nm, .int .i64 t, .int .i64 v] 52)) := hbw.out.alloc hsw _
            have hbr : Below wr.heap.size wr (wr.alloc (.cells #[.string nm, .int .i64 t, .int .i64 v] 52)) := (Below.refl _ _).alloc (Nat.le_refl _) _
            have HP := Lib.hid hP
            have Hb2 := Lib.hid hb2
            have Hbr := Lib.hid hbr
            have Hpv := Lib.hid hpv
            clear hP hb2 hbr hc0 hc1 hc2 hpv
            have hrs := Hbr.out.size
            generalize wr.alloc (.cells #[.string nm, .int .i64 t, .int .i64 v] 52) = w2 at *
            have hx := fun x : Aft w2.heap.size w2 => pt3_of (Blk.below HP.out x.below HP.out.lt)
            have hy := fun x : Aft w2.heap.size w2 => Hpv.out ⟨x.world, Hbr.out.trans (x.below.mono hrs)⟩
            have hx0 := fun x => (hx x).1
            have hx1 := fun x => (hx x).2.1
            have hx2 := fun x => (hx x).2.2
            have hy0 := fun x => (hy x).1
            have hy1 := fun x => (hy x).2.1
            have hy2 := fun x => (hy x).2.2
            simp only at hy0 hy1 hy2
            clear hx hy Hpv
            generalize wr.heap.size = h at *
            have hi0 : (0 : Int) ≤ (j : Int) := by omega
            have hi1 : (j : Int) < (ps.length : Int) := by omega
            have d1 : decide ((0 : Int) < (j : Int) + 1) = true := decide_eq_true (by omega)
            have d2 : decide (0 < j + 1) = true := decide_eq_true (by omega)
            have hw1 : IntKind.i64.wrap ((j : Int) + 1 - 1) = (j : Int) := by rw [show (j : Int) + 1 - 1 = (j : Int) from by omega]; exact IntWalk.i64_in _ (by omega)
            have hw2 : IntKind.i64.wrap (j : Int) = (j : Int) := IntWalk.i64_in _ (by omega)
            refine wp_region_aft w2.heap.size w2 (by kernel_rfl) (by kernel_rfl) (Below.refl _ _) ?_
            repeat (go_big_quiet_step (first | (go_at_call 104; with_reducible exact aft_new (Nat.le_refl _) (Hid.out (hM _))) | (go_at_call 105; with_reducible exact aft_new (Nat.le_refl _) (Hid.out (hL _)))))
            refine wpQuiet_nil ?_
            rintro _ ⟨x, rfl⟩
            have Hx : Hid (Below w.heap.size w x.world) := Hb2.out.trans (x.below.mono Hb2.out.size)
            clear hx0 hx1 hx2 hy0 hy1 hy2 hw1 hw2
            generalize x.world = w3 at *
            cases bl
            · have HRf : Hid (res = false) := hNo.out rfl
              go_wp2_with fail
              go_ret
              exact ⟨ret_bool HRf.out.symm, Hx.out⟩
            · have HOk := Lib.hid (hOk.out rfl)
              go_wp2_with fail
              go_roundw
              case rel => exact ⟨j + 1 + 1, by omega, by go_num, HOk, Hx⟩
              case measure => simp [intOf]; omega
      · have HRf : Hid (res = true) := by
          show _ = _
          have e : k = ps.length := by omega
          have := ha.out
          rw [e] at this
          rw [HDef.out, this]; simp [h64]
        clear ha HSt HDef
        go_wp2_with fail
        go_ret
        exact ⟨ret_bool HRf.out.symm, hbw.out⟩
  · have HRf : Hid (res = false) := by show _ = _; rw [HDef.out]; simp [h64]
    go_enter Try.func101, Try.ntmps101
    go_wp2_with fail
    go_ret
    exact ⟨ret_bool HRf.out.symm, Below.refl _ _⟩
end Go.Proofs.Ythdbmgjlegpbaaa
