/- slices.Backward over points, and over slices of points: what their closures hand on, and in which row (chapter 15). -/
import Derived.RangeFuncNested
import Derived.RangeFuncBound
import Derived.RangeFuncCalls
import Derived.RangeFuncLeaves
import Derived.Shelf.Abstract
import Derived.Shelf.RegionOpen
import Derived.WalkKit
import Derived.OwnWalkIn
import Derived.TacticsInMore
import Derived.LoopNIn
import Derived.LoopIn
import Derived.Test.YthdbmgjlegpbaaaPtCells
namespace Go.Proofs.Ythdbmgjlegpbaaa
open Go.RowKit Go.Shelf
set_option linter.unusedVariables false
attribute [local go_sem] Oper.semAt_some

theorem back_snoc {α : Type} (zs : List α) (d m : Nat) (h : d + (m + 1) = zs.length) : zs.reverse.take (d + 1) = zs.reverse.take d ++ [zs[m]'(by omega)] := by
  rw [List.take_succ_eq_append_getElem (by rw [List.length_reverse]; omega)]
  congr 2
  rw [List.getElem_reverse]
  congr 1
  omega
theorem back_len {α : Type} {zs : List α} {pre : List (Int × α)} {d : Nat} (h : pre.map (·.2) = zs.reverse.take d) (hd : d ≤ zs.length) : pre.length = d := by
  have := congrArg List.length h
  rw [List.length_map, List.length_take, List.length_reverse] at this
  omega
abbrev ptArg (x : Int × Pt.Point) : Array Value := #[.int .i64 x.1, .agg #[.string x.2.1, .int .i64 x.2.2.1, .int .i64 x.2.2.2]]
set_option maxRecDepth 100000 in
set_option maxHeartbeats 2000000 in
theorem backP_in (F : Fence) (n : Nat) (hf : F.fn 78) (hro : F.round = none) (hn : 1 ≤ n) (l Bs n₀ c : Nat) (A : Option Addr) (zs : List Pt.Point) (hlen : zs.length ≤ 9223372036854775807) (hBn : Bs < n₀) (J Jx : List (Int × Pt.Point) → World → Prop)
    (hY : ∀ pre x W, J pre W → pre.length < zs.length → YieldAt F (n - 1) Try.prog l (ptArg x) W fun e W' =>
      (e = .returned (.bool true) ∧ J (pre ++ [x]) W' ∧ Below n₀ W W') ∨ (e = .returned (.bool false) ∧ Jx (pre ++ [x]) W'))
    (W : World) (hBs : W.cell? ⟨Bs, 0, none⟩ = some (.slice A zs.length c)) (hr : Reads W n₀ 3 A zs.length (zs.flatMap pointCells)) (h0 : J [] W) :
    CallsIn F n Try.prog 78 #[.func (.yield l) #[] #[], .pointer (some ⟨Bs, 0, none⟩)] W fun e W' => (∃ v, e = .returned v) ∧
      ((∃ ys, ys.map (·.2) = zs.reverse ∧ J ys W') ∨ (∃ pre, (∃ d, d ≤ zs.length ∧ pre.map (·.2) = zs.reverse.take d) ∧ Jx pre W')) := by
  refine callsIn_of_wp Try.func78 rfl hf ?_ hro
  simp only [Try.ntmps78, List.size_toArray, List.length_cons, List.length_nil, Nat.reduceAdd, Nat.reduceSub, Array.replicate_succ, Array.replicate_zero, List.push_toArray, List.append_toArray, List.nil_append, List.cons_append]
  have Hr := Lib.hid hr
  clear hr
  gi_wp2
  gi_loopw [3] (fun i wr => ∃ (d m : Nat) (pre : List (Int × Pt.Point)), d + m = zs.length ∧ i = .int .i64 ((m : Int) - 1) ∧ Hid (pre.map (·.2) = zs.reverse.take d) ∧ Hid (J pre wr) ∧ Hid (Below n₀ W wr))
    (fun i _ => (intOf i + 1).toNat)
  case atStart => exact ⟨0, zs.length, [], by omega, by go_num, Lib.hid (by simp), Lib.hid h0, Lib.hid (Below.refl _ _)⟩
  case round =>
    obtain ⟨d, m, pre, hdm, rfl, hpre, hJs, hnx⟩ := hrel
    cases m with
    | zero =>
      have hall : Hid (pre.map (·.2) = zs.reverse) := by
        show _ = _
        rw [hpre.out, List.take_of_length_le (by rw [List.length_reverse]; omega)]
      clear hpre
      simp only [Int.ofNat_zero, Int.zero_sub]
      gi_wp2
      go_end0
      exact ⟨⟨_, rfl⟩, .inl ⟨pre, hall.out, hJs.out⟩⟩
    | succ m =>
      rw [show (((m + 1 : Nat) : Int) - 1) = (m : Int) from by omega]
      obtain ⟨b, off, rfl, hb, hc⟩ := Hr.out.2 (by omega)
      have hlt : m < zs.length := by omega
      obtain ⟨hc0, hc1, hc2⟩ := pt_cells (wr := wr) hlt hc (fun p hp => hnx.out.cell (p := p) hp) hb
      have hcs : wr.cell? ⟨Bs, 0, none⟩ = some (.slice (some ⟨b, off, none⟩) zs.length c) := (hnx.out.cell (p := ⟨Bs, 0, none⟩) hBn).trans hBs
      have hsn : Hid (∀ p, zs[m] = p → (pre ++ [((m : Int), p)]).map (·.2) = zs.reverse.take (d + 1)) := fun p hp => by
        rw [back_snoc zs d m hdm, List.map_append, hpre.out, hp]; rfl
      have hpl := back_len hpre.out (by omega)
      obtain ⟨fn, tmps, assign, body, hy, hR⟩ := hY pre ((m : Int), zs[m]) wr hJs.out (by omega)
      clear hc hpre
      dsimp only [ptArg] at hy
      generalize hzm : zs[m] = p at *
      obtain ⟨nm, t, v⟩ := p
      have Hsn := Lib.hid (hsn.out _ rfl)
      clear hzm hsn
      dsimp only at hy hc0 hc1 hc2
      gi_wp2
      refine hR.mono ?_
      rintro e W3 (⟨rfl, hJ3, hk3⟩ | ⟨rfl, hJx3⟩)
      · gi_wp2
        go_roundw
        case rel => exact ⟨d + 1, m, _, by omega, by go_num, Hsn, Lib.hid hJ3, Lib.hid (hnx.out.trans hk3)⟩
        case measure => simp [intOf]
      · gi_wp2
        refine bodyPost_ret (results_none rfl _ _ _) rfl ?_
        exact ⟨⟨_, rfl⟩, .inr ⟨_, ⟨d + 1, by omega, Hsn.out⟩, hJx3⟩⟩
set_option maxHeartbeats 1000000 in
theorem backP_make (F : Fence) (n : Nat) (hf : F.fn 51) (hro : F.round = none) (a : Option Addr) (len cap : Nat) (w : World) :
    CallsIn F n Try.prog 51 #[.slice a len cap] w fun e w' => e = .returned (.func (.func 78) #[] #[.pointer (some ⟨w.heap.size, 0, none⟩)]) ∧ w' = w.alloc (.cells #[.slice a len cap] 38) := by
  refine callsIn_of_wp Try.func51 rfl hf ?_ hro
  simp only [Try.ntmps51, List.size_toArray, List.length_cons, List.length_nil, Nat.reduceAdd, Nat.reduceSub, Array.replicate_succ, Array.replicate_zero, List.push_toArray, List.append_toArray, List.nil_append, List.cons_append]
  gi_wp2
  go_ret
  exact ⟨rfl, rfl⟩
theorem backP_stops (F : Fence) (n : Nat) (hf : F.fn 78) (hro : F.round = none) (hn : 1 ≤ n) (Bs n₀ c : Nat) (A : Option Addr) (zs : List Pt.Point) (hlen : zs.length ≤ 9223372036854775807) (w : World) (hBs : Bs < n₀) (hn₀ : n₀ ≤ w.heap.size)
    (hc : w.cell? ⟨Bs, 0, none⟩ = some (.slice A zs.length c)) (hr : Reads w n₀ 3 A zs.length (zs.flatMap pointCells)) :
    SeqStopsK F n Try.prog 78 #[.pointer (some ⟨Bs, 0, none⟩)] ptArg (Below n₀) (fun ys => ys.map (·.2) = zs.reverse)
      (fun pre => ∃ d, d ≤ zs.length ∧ pre.map (·.2) = zs.reverse.take d) zs.length w := fun l J Jx W hW _ _ hY h0 =>
  backP_in F n hf hro hn l Bs n₀ c A zs hlen hBs J Jx hY W ((hW.cell (p := ⟨Bs, 0, none⟩) (show Bs < w.heap.size by omega)).trans hc) (hr.below (hW.mono hn₀)) h0

/-! over slices of points -/
abbrev Lay := Option Addr × Nat × List Pt.Point
def layV (y : Lay) : Value := .slice y.1 y.2.2.length y.2.1
abbrev layArg {G : Lay → Prop} (x : Int × { y : Lay // G y }) : Array Value := #[.int .i64 x.1, layV x.2.1]
set_option maxRecDepth 100000 in
set_option maxHeartbeats 2000000 in
theorem backL_in {G : Lay → Prop} (F : Fence) (n : Nat) (hf : F.fn 77) (hro : F.round = none) (hn : 1 ≤ n) (l Bs n₀ c : Nat) (A : Option Addr) (zs : List { y : Lay // G y }) (hlen : zs.length ≤ 9223372036854775807) (hBn : Bs < n₀) (J Jx : List (Int × { y : Lay // G y }) → World → Prop)
    (hY : ∀ pre x W, J pre W → pre.length < zs.length → YieldAt F (n - 1) Try.prog l (layArg x) W fun e W' =>
      (e = .returned (.bool true) ∧ J (pre ++ [x]) W' ∧ Below n₀ W W') ∨ (e = .returned (.bool false) ∧ Jx (pre ++ [x]) W'))
    (W : World) (hBs : W.cell? ⟨Bs, 0, none⟩ = some (.slice A zs.length c)) (hr : Reads W n₀ 1 A zs.length (zs.map fun y => layV y.1)) (h0 : J [] W) :
    CallsIn F n Try.prog 77 #[.func (.yield l) #[] #[], .pointer (some ⟨Bs, 0, none⟩)] W fun e W' => (∃ v, e = .returned v) ∧
      ((∃ ys, ys.map (·.2) = zs.reverse ∧ J ys W') ∨ (∃ pre, (∃ d, d ≤ zs.length ∧ pre.map (·.2) = zs.reverse.take d) ∧ Jx pre W')) := by
  refine callsIn_of_wp Try.func77 rfl hf ?_ hro
  simp only [Try.ntmps77, List.size_toArray, List.length_cons, List.length_nil, Nat.reduceAdd, Nat.reduceSub, Array.replicate_succ, Array.replicate_zero, List.push_toArray, List.append_toArray, List.nil_append, List.cons_append]
  have Hr := Lib.hid hr
  clear hr
  gi_wp2
  gi_loopw [3] (fun i wr => ∃ (d m : Nat) (pre : List (Int × { y : Lay // G y })), d + m = zs.length ∧ i = .int .i64 ((m : Int) - 1) ∧ Hid (pre.map (·.2) = zs.reverse.take d) ∧ Hid (J pre wr) ∧ Hid (Below n₀ W wr))
    (fun i _ => (intOf i + 1).toNat)
  case atStart => exact ⟨0, zs.length, [], by omega, by go_num, Lib.hid (by simp), Lib.hid h0, Lib.hid (Below.refl _ _)⟩
  case round =>
    obtain ⟨d, m, pre, hdm, rfl, hpre, hJs, hnx⟩ := hrel
    cases m with
    | zero =>
      have hall : Hid (pre.map (·.2) = zs.reverse) := by
        show _ = _
        rw [hpre.out, List.take_of_length_le (by rw [List.length_reverse]; omega)]
      clear hpre
      simp only [Int.ofNat_zero, Int.zero_sub]
      gi_wp2
      go_end0
      exact ⟨⟨_, rfl⟩, .inl ⟨pre, hall.out, hJs.out⟩⟩
    | succ m =>
      rw [show (((m + 1 : Nat) : Int) - 1) = (m : Int) from by omega]
      obtain ⟨b, off, rfl, hb, hc⟩ := Hr.out.2 (by omega)
      have hlt : m < zs.length := by omega
      have hcm : wr.cell? ⟨b, off + m, none⟩ = some (layV zs[m].1) := (hnx.out.cell (p := ⟨b, off + m, none⟩) hb).trans (hc m _ (by simp [hlt]))
      have hcs : wr.cell? ⟨Bs, 0, none⟩ = some (.slice (some ⟨b, off, none⟩) zs.length c) := (hnx.out.cell (p := ⟨Bs, 0, none⟩) hBn).trans hBs
      have hsn : Hid (∀ p, zs[m] = p → (pre ++ [((m : Int), p)]).map (·.2) = zs.reverse.take (d + 1)) := fun p hp => by
        rw [back_snoc zs d m hdm, List.map_append, hpre.out, hp]; rfl
      have hpl := back_len hpre.out (by omega)
      obtain ⟨fn, tmps, assign, body, hy, hR⟩ := hY pre ((m : Int), zs[m]) wr hJs.out (by omega)
      clear hc hpre
      dsimp only [layArg] at hy
      generalize hzm : zs[m] = p at *
      obtain ⟨⟨pa, pc, pl⟩, hG⟩ := p
      have Hsn := Lib.hid (hsn.out _ rfl)
      clear hzm hsn
      dsimp only [layV] at hy hcm
      gi_wp2
      refine hR.mono ?_
      rintro e W3 (⟨rfl, hJ3, hk3⟩ | ⟨rfl, hJx3⟩)
      · gi_wp2
        go_roundw
        case rel => exact ⟨d + 1, m, _, by omega, by go_num, Hsn, Lib.hid hJ3, Lib.hid (hnx.out.trans hk3)⟩
        case measure => simp [intOf]
      · gi_wp2
        refine bodyPost_ret (results_none rfl _ _ _) rfl ?_
        exact ⟨⟨_, rfl⟩, .inr ⟨_, ⟨d + 1, by omega, Hsn.out⟩, hJx3⟩⟩
set_option maxHeartbeats 1000000 in
theorem backL_make (F : Fence) (n : Nat) (hf : F.fn 50) (hro : F.round = none) (a : Option Addr) (len cap : Nat) (w : World) :
    CallsIn F n Try.prog 50 #[.slice a len cap] w fun e w' => e = .returned (.func (.func 77) #[] #[.pointer (some ⟨w.heap.size, 0, none⟩)]) ∧ w' = w.alloc (.cells #[.slice a len cap] 37) := by
  refine callsIn_of_wp Try.func50 rfl hf ?_ hro
  simp only [Try.ntmps50, List.size_toArray, List.length_cons, List.length_nil, Nat.reduceAdd, Nat.reduceSub, Array.replicate_succ, Array.replicate_zero, List.push_toArray, List.append_toArray, List.nil_append, List.cons_append]
  gi_wp2
  go_ret
  exact ⟨rfl, rfl⟩
theorem backL_stops {G : Lay → Prop} (F : Fence) (n : Nat) (hf : F.fn 77) (hro : F.round = none) (hn : 1 ≤ n) (Bs n₀ c : Nat) (A : Option Addr) (zs : List { y : Lay // G y }) (hlen : zs.length ≤ 9223372036854775807) (w : World) (hBs : Bs < n₀) (hn₀ : n₀ ≤ w.heap.size)
    (hc : w.cell? ⟨Bs, 0, none⟩ = some (.slice A zs.length c)) (hr : Reads w n₀ 1 A zs.length (zs.map fun y => layV y.1)) :
    SeqStopsK F n Try.prog 77 #[.pointer (some ⟨Bs, 0, none⟩)] layArg (Below n₀) (fun ys => ys.map (·.2) = zs.reverse)
      (fun pre => ∃ d, d ≤ zs.length ∧ pre.map (·.2) = zs.reverse.take d) zs.length w := fun l J Jx W hW _ _ hY h0 =>
  backL_in F n hf hro hn l Bs n₀ c A zs hlen hBs J Jx hY W ((hW.cell (p := ⟨Bs, 0, none⟩) (show Bs < w.heap.size by omega)).trans hc) (hr.below (hW.mono hn₀)) h0
end Go.Proofs.Ythdbmgjlegpbaaa
