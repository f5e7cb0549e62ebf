/- Joined texts. -/
import Derived.Test.YtcchekmejnhlmaaGreatK1
import Derived.Test.YtcchekmejnhlmaaGreatK4
import Derived.Test.YtcchekmejnhlmaaGreatK5
import Derived.Test.YtcchekmejnhlmaaGreatK6
import Derived.Test.YtcchekmejnhlmaaGreatRows
import Derived.RangeFuncNested
import Derived.RangeFuncBound
import Derived.RangeFuncCalls
import Derived.RangeFuncLeaves
import Derived.Shelf.Abstract
import Derived.Shelf.RegionOpen
import Derived.WalkKit
import Derived.OwnWalkIn
import Derived.TacticsInMore
import Derived.LoopNIn
import Derived.LoopIn
import Derived.Scope
import Derived.ControlIn
import Derived.BigRegion
namespace Go.Proofs.YtcchekmejnhlmaaGreat
open Go.RowKit Go.Shelf
set_option linter.unusedVariables false
attribute [local go_sem] Oper.semAt_some
theorem back_snoc {α : Type} (zs : List α) (d m : Nat) (h : d + (m + 1) = zs.length) : zs.reverse.take (d + 1) = zs.reverse.take d ++ [zs[m]'(by omega)] := by
  rw [List.take_succ_eq_append_getElem (by rw [List.length_reverse]; omega)]
  congr 2
  rw [List.getElem_reverse]
  congr 1
  omega
theorem back_len {α : Type} {zs : List α} {pre : List (Int × α)} {d : Nat} (h : pre.map (·.2) = zs.reverse.take d) (hd : d ≤ zs.length) : pre.length = d := by
  have := congrArg List.length h
  rw [List.length_map, List.length_take, List.length_reverse] at this
  omega
abbrev ptArg (x : Int × Pt.Point) : Array Value := #[.int .i64 x.1, .agg #[.string x.2.1, .int .i64 x.2.2.1, .int .i64 x.2.2.2]]
set_option maxRecDepth 100000 in
set_option maxHeartbeats 2000000 in
theorem backP_in (F : Fence) (n : Nat) (hf : F.fn 328) (hro : F.round = none) (hn : 1 ≤ n) (l Bs n₀ c : Nat) (A : Option Addr) (zs : List Pt.Point) (hlen : zs.length ≤ 9223372036854775807) (hBn : Bs < n₀) (J Jx : List (Int × Pt.Point) → World → Prop)
    (hY : ∀ pre x W, J pre W → pre.length < zs.length → YieldAt F (n - 1) Tryz.prog l (ptArg x) W fun e W' =>
      (e = .returned (.bool true) ∧ J (pre ++ [x]) W' ∧ Below n₀ W W') ∨ (e = .returned (.bool false) ∧ Jx (pre ++ [x]) W'))
    (W : World) (hBs : W.cell? ⟨Bs, 0, none⟩ = some (.slice A zs.length c)) (hr : Reads W n₀ 3 A zs.length (zs.flatMap pointCells)) (h0 : J [] W) :
    CallsIn F n Tryz.prog 328 #[.func (.yield l) #[] #[], .pointer (some ⟨Bs, 0, none⟩)] W fun e W' => (∃ v, e = .returned v) ∧
      ((∃ ys, ys.map (·.2) = zs.reverse ∧ J ys W') ∨ (∃ pre, (∃ d, d ≤ zs.length ∧ pre.map (·.2) = zs.reverse.take d) ∧ Jx pre W')) := by
  refine callsIn_of_wp Tryz.func328 rfl hf ?_ hro
  simp only [Tryz.ntmps328, List.size_toArray, List.length_cons, List.length_nil, Nat.reduceAdd, Nat.reduceSub, Array.replicate_succ, Array.replicate_zero, List.push_toArray, List.append_toArray, List.nil_append, List.cons_append]
  have Hr := Lib.hid hr
  clear hr
  gi_wp2
  gi_loopw [3] (fun i wr => ∃ (d m : Nat) (pre : List (Int × Pt.Point)), d + m = zs.length ∧ i = .int .i64 ((m : Int) - 1) ∧ Hid (pre.map (·.2) = zs.reverse.take d) ∧ Hid (J pre wr) ∧ Hid (Below n₀ W wr))
    (fun i _ => (intOf i + 1).toNat)
  case atStart => exact ⟨0, zs.length, [], by omega, by go_num, Lib.hid (by simp), Lib.hid h0, Lib.hid (Below.refl _ _)⟩
  case round =>
    obtain ⟨d, m, pre, hdm, rfl, hpre, hJs, hnx⟩ := hrel
    cases m with
    | zero =>
      have hall : Hid (pre.map (·.2) = zs.reverse) := by
        show _ = _
        rw [hpre.out, List.take_of_length_le (by rw [List.length_reverse]; omega)]
      clear hpre
      simp only [Int.ofNat_zero, Int.zero_sub]
      gi_wp2
      go_end0
      exact ⟨⟨_, rfl⟩, .inl ⟨pre, hall.out, hJs.out⟩⟩
    | succ m =>
      rw [show (((m + 1 : Nat) : Int) - 1) = (m : Int) from by omega]
      obtain ⟨b, off, rfl, hb, hc⟩ := Hr.out.2 (by omega)
      have hlt : m < zs.length := by omega
      obtain ⟨hc0, hc1, hc2⟩ := pt_cells (wr := wr) hlt hc (fun p hp => hnx.out.cell (p := p) hp) hb
      have hcs : wr.cell? ⟨Bs, 0, none⟩ = some (.slice (some ⟨b, off, none⟩) zs.length c) := (hnx.out.cell (p := ⟨Bs, 0, none⟩) hBn).trans hBs
      have hsn : Hid (∀ p, zs[m] = p → (pre ++ [((m : Int), p)]).map (·.2) = zs.reverse.take (d + 1)) := fun p hp => by
        rw [back_snoc zs d m hdm, List.map_append, hpre.out, hp]; rfl
      have hpl := back_len hpre.out (by omega)
      obtain ⟨fn, tmps, assign, body, hy, hR⟩ := hY pre ((m : Int), zs[m]) wr hJs.out (by omega)
      clear hc hpre
      dsimp only [ptArg] at hy
      generalize hzm : zs[m] = p at *
      obtain ⟨nm, t, v⟩ := p
      have Hsn := Lib.hid (hsn.out _ rfl)
      clear hzm hsn
      dsimp only at hy hc0 hc1 hc2
      gi_wp2
      refine hR.mono ?_
      rintro e W3 (⟨rfl, hJ3, hk3⟩ | ⟨rfl, hJx3⟩)
      · gi_wp2
        go_roundw
        case rel => exact ⟨d + 1, m, _, by omega, by go_num, Hsn, Lib.hid hJ3, Lib.hid (hnx.out.trans hk3)⟩
        case measure => simp [intOf]
      · gi_wp2
        refine bodyPost_ret (results_none rfl _ _ _) rfl ?_
        exact ⟨⟨_, rfl⟩, .inr ⟨_, ⟨d + 1, by omega, Hsn.out⟩, hJx3⟩⟩
set_option maxHeartbeats 1000000 in
theorem backP_make (F : Fence) (n : Nat) (hf : F.fn 313) (hro : F.round = none) (a : Option Addr) (len cap : Nat) (w : World) :
    CallsIn F n Tryz.prog 313 #[.slice a len cap] w fun e w' => e = .returned (.func (.func 328) #[] #[.pointer (some ⟨w.heap.size, 0, none⟩)]) ∧ w' = w.alloc (.cells #[.slice a len cap] 34) := by
  refine callsIn_of_wp Tryz.func313 rfl hf ?_ hro
  simp only [Tryz.ntmps313, List.size_toArray, List.length_cons, List.length_nil, Nat.reduceAdd, Nat.reduceSub, Array.replicate_succ, Array.replicate_zero, List.push_toArray, List.append_toArray, List.nil_append, List.cons_append]
  gi_wp2
  go_ret
  exact ⟨rfl, rfl⟩
theorem backP_stops (F : Fence) (n : Nat) (hf : F.fn 328) (hro : F.round = none) (hn : 1 ≤ n) (Bs n₀ c : Nat) (A : Option Addr) (zs : List Pt.Point) (hlen : zs.length ≤ 9223372036854775807) (w : World) (hBs : Bs < n₀) (hn₀ : n₀ ≤ w.heap.size)
    (hc : w.cell? ⟨Bs, 0, none⟩ = some (.slice A zs.length c)) (hr : Reads w n₀ 3 A zs.length (zs.flatMap pointCells)) :
    SeqStopsK F n Tryz.prog 328 #[.pointer (some ⟨Bs, 0, none⟩)] ptArg (Below n₀) (fun ys => ys.map (·.2) = zs.reverse)
      (fun pre => ∃ d, d ≤ zs.length ∧ pre.map (·.2) = zs.reverse.take d) zs.length w := fun l J Jx W hW _ _ hY h0 =>
  backP_in F n hf hro hn l Bs n₀ c A zs hlen hBs J Jx hY W ((hW.cell (p := ⟨Bs, 0, none⟩) (show Bs < w.heap.size by omega)).trans hc) (hr.below (hW.mono hn₀)) h0
abbrev Lay := Option Addr × Nat × List Pt.Point
def layV (y : Lay) : Value := .slice y.1 y.2.2.length y.2.1
abbrev layArg {G : Lay → Prop} (x : Int × { y : Lay // G y }) : Array Value := #[.int .i64 x.1, layV x.2.1]
set_option maxRecDepth 100000 in
set_option maxHeartbeats 2000000 in
theorem backL_in {G : Lay → Prop} (F : Fence) (n : Nat) (hf : F.fn 327) (hro : F.round = none) (hn : 1 ≤ n) (l Bs n₀ c : Nat) (A : Option Addr) (zs : List { y : Lay // G y }) (hlen : zs.length ≤ 9223372036854775807) (hBn : Bs < n₀) (J Jx : List (Int × { y : Lay // G y }) → World → Prop)
    (hY : ∀ pre x W, J pre W → pre.length < zs.length → YieldAt F (n - 1) Tryz.prog l (layArg x) W fun e W' =>
      (e = .returned (.bool true) ∧ J (pre ++ [x]) W' ∧ Below n₀ W W') ∨ (e = .returned (.bool false) ∧ Jx (pre ++ [x]) W'))
    (W : World) (hBs : W.cell? ⟨Bs, 0, none⟩ = some (.slice A zs.length c)) (hr : Reads W n₀ 1 A zs.length (zs.map fun y => layV y.1)) (h0 : J [] W) :
    CallsIn F n Tryz.prog 327 #[.func (.yield l) #[] #[], .pointer (some ⟨Bs, 0, none⟩)] W fun e W' => (∃ v, e = .returned v) ∧
      ((∃ ys, ys.map (·.2) = zs.reverse ∧ J ys W') ∨ (∃ pre, (∃ d, d ≤ zs.length ∧ pre.map (·.2) = zs.reverse.take d) ∧ Jx pre W')) := by
  refine callsIn_of_wp Tryz.func327 rfl hf ?_ hro
  simp only [Tryz.ntmps327, List.size_toArray, List.length_cons, List.length_nil, Nat.reduceAdd, Nat.reduceSub, Array.replicate_succ, Array.replicate_zero, List.push_toArray, List.append_toArray, List.nil_append, List.cons_append]
  have Hr := Lib.hid hr
  clear hr
  gi_wp2
  gi_loopw [3] (fun i wr => ∃ (d m : Nat) (pre : List (Int × { y : Lay // G y })), d + m = zs.length ∧ i = .int .i64 ((m : Int) - 1) ∧ Hid (pre.map (·.2) = zs.reverse.take d) ∧ Hid (J pre wr) ∧ Hid (Below n₀ W wr))
    (fun i _ => (intOf i + 1).toNat)
  case atStart => exact ⟨0, zs.length, [], by omega, by go_num, Lib.hid (by simp), Lib.hid h0, Lib.hid (Below.refl _ _)⟩
  case round =>
    obtain ⟨d, m, pre, hdm, rfl, hpre, hJs, hnx⟩ := hrel
    cases m with
    | zero =>
      have hall : Hid (pre.map (·.2) = zs.reverse) := by
        show _ = _
        rw [hpre.out, List.take_of_length_le (by rw [List.length_reverse]; omega)]
      clear hpre
      simp only [Int.ofNat_zero, Int.zero_sub]
      gi_wp2
      go_end0
      exact ⟨⟨_, rfl⟩, .inl ⟨pre, hall.out, hJs.out⟩⟩
    | succ m =>
      rw [show (((m + 1 : Nat) : Int) - 1) = (m : Int) from by omega]
      obtain ⟨b, off, rfl, hb, hc⟩ := Hr.out.2 (by omega)
      have hlt : m < zs.length := by omega
      have hcm : wr.cell? ⟨b, off + m, none⟩ = some (layV zs[m].1) := (hnx.out.cell (p := ⟨b, off + m, none⟩) hb).trans (hc m _ (by simp [hlt]))
      have hcs : wr.cell? ⟨Bs, 0, none⟩ = some (.slice (some ⟨b, off, none⟩) zs.length c) := (hnx.out.cell (p := ⟨Bs, 0, none⟩) hBn).trans hBs
      have hsn : Hid (∀ p, zs[m] = p → (pre ++ [((m : Int), p)]).map (·.2) = zs.reverse.take (d + 1)) := fun p hp => by
        rw [back_snoc zs d m hdm, List.map_append, hpre.out, hp]; rfl
      have hpl := back_len hpre.out (by omega)
      obtain ⟨fn, tmps, assign, body, hy, hR⟩ := hY pre ((m : Int), zs[m]) wr hJs.out (by omega)
      clear hc hpre
      dsimp only [layArg] at hy
      generalize hzm : zs[m] = p at *
      obtain ⟨⟨pa, pc, pl⟩, hG⟩ := p
      have Hsn := Lib.hid (hsn.out _ rfl)
      clear hzm hsn
      dsimp only [layV] at hy hcm
      gi_wp2
      refine hR.mono ?_
      rintro e W3 (⟨rfl, hJ3, hk3⟩ | ⟨rfl, hJx3⟩)
      · gi_wp2
        go_roundw
        case rel => exact ⟨d + 1, m, _, by omega, by go_num, Hsn, Lib.hid hJ3, Lib.hid (hnx.out.trans hk3)⟩
        case measure => simp [intOf]
      · gi_wp2
        refine bodyPost_ret (results_none rfl _ _ _) rfl ?_
        exact ⟨⟨_, rfl⟩, .inr ⟨_, ⟨d + 1, by omega, Hsn.out⟩, hJx3⟩⟩
set_option maxHeartbeats 1000000 in
theorem backL_make (F : Fence) (n : Nat) (hf : F.fn 312) (hro : F.round = none) (a : Option Addr) (len cap : Nat) (w : World) :
    CallsIn F n Tryz.prog 312 #[.slice a len cap] w fun e w' => e = .returned (.func (.func 327) #[] #[.pointer (some ⟨w.heap.size, 0, none⟩)]) ∧ w' = w.alloc (.cells #[.slice a len cap] 356) := by
  refine callsIn_of_wp Tryz.func312 rfl hf ?_ hro
  simp only [Tryz.ntmps312, List.size_toArray, List.length_cons, List.length_nil, Nat.reduceAdd, Nat.reduceSub, Array.replicate_succ, Array.replicate_zero, List.push_toArray, List.append_toArray, List.nil_append, List.cons_append]
  gi_wp2
  go_ret
  exact ⟨rfl, rfl⟩
theorem backL_stops {G : Lay → Prop} (F : Fence) (n : Nat) (hf : F.fn 327) (hro : F.round = none) (hn : 1 ≤ n) (Bs n₀ c : Nat) (A : Option Addr) (zs : List { y : Lay // G y }) (hlen : zs.length ≤ 9223372036854775807) (w : World) (hBs : Bs < n₀) (hn₀ : n₀ ≤ w.heap.size)
    (hc : w.cell? ⟨Bs, 0, none⟩ = some (.slice A zs.length c)) (hr : Reads w n₀ 1 A zs.length (zs.map fun y => layV y.1)) :
    SeqStopsK F n Tryz.prog 327 #[.pointer (some ⟨Bs, 0, none⟩)] layArg (Below n₀) (fun ys => ys.map (·.2) = zs.reverse)
      (fun pre => ∃ d, d ≤ zs.length ∧ pre.map (·.2) = zs.reverse.take d) zs.length w := fun l J Jx W hW _ _ hY h0 =>
  backL_in F n hf hro hn l Bs n₀ c A zs hlen hBs J Jx hY W ((hW.cell (p := ⟨Bs, 0, none⟩) (show Bs < w.heap.size by omega)).trans hc) (hr.below (hW.mono hn₀)) h0
end Go.Proofs.YtcchekmejnhlmaaGreat
namespace Go.Proofs.YtcchekmejnhlmaaGreat
open Go.RowKit Go.Shelf
set_option linter.unusedVariables false
attribute [local go_sem] Oper.semAt_some
def Qr.hit (s : ByteArray) (t : Int) (p : Pt.Point) : Bool := decide (p.1 = s) && decide (p.2.1 = t)
def Qr.newest (s : ByteArray) (t : Int) (ps : List Pt.Point) : Option Int := (ps.reverse.find? (Qr.hit s t)).map (·.2.2)
def Qr.lastIn (s : ByteArray) (t : Int) (ls : List (List Pt.Point)) : Option Int := ls.reverse.findSome? (Qr.newest s t)
theorem find_at {s : ByteArray} {t : Int} {zs : List Pt.Point} {q : List (Int × Pt.Point)} {x : Int × Pt.Point} {d : Nat} (h : (q ++ [x]).map (·.2) = zs.reverse.take d) (hq : ∀ y ∈ q, Qr.hit s t y.2 = false) (hx : Qr.hit s t x.2 = true) : Qr.newest s t zs = some x.2.2.2 := by
  have e : zs.reverse = q.map (·.2) ++ (x.2 :: zs.reverse.drop d) := by
    have := List.take_append_drop d zs.reverse
    rw [← h] at this
    refine this.symm.trans ?_
    simp
  have hn : (q.map (·.2)).find? (Qr.hit s t) = none := by
    rw [List.find?_eq_none]
    intro y hy
    obtain ⟨z, hz, rfl⟩ := List.mem_map.1 hy
    simp [hq z hz]
  unfold Qr.newest
  rw [e, List.find?_append, hn, List.find?_cons, hx]
  rfl
theorem find_no {s : ByteArray} {t : Int} {zs : List Pt.Point} {q : List (Int × Pt.Point)} (h : q.map (·.2) = zs.reverse) (hq : ∀ y ∈ q, Qr.hit s t y.2 = false) : Qr.newest s t zs = none := by
  have hn : (q.map (·.2)).find? (Qr.hit s t) = none := by
    rw [List.find?_eq_none]
    intro y hy
    obtain ⟨z, hz, rfl⟩ := List.mem_map.1 hy
    simp [hq z hz]
  unfold Qr.newest
  rw [← h, hn]; rfl
theorem last_at {G : Lay → Prop} {s : ByteArray} {t v : Int} {Z : List { y : Lay // G y }} {q : List (Int × { y : Lay // G y })} {x : Int × { y : Lay // G y }} {d : Nat} (h : (q ++ [x]).map (·.2) = Z.reverse.take d) (hq : ∀ y ∈ q, Qr.newest s t y.2.1.2.2 = none) (hx : Qr.newest s t x.2.1.2.2 = some v) : Qr.lastIn s t (Z.map fun y => y.1.2.2) = some v := by
  have e : Z.reverse = q.map (·.2) ++ (x.2 :: Z.reverse.drop d) := by
    have := List.take_append_drop d Z.reverse
    rw [← h] at this
    refine this.symm.trans ?_
    simp
  have hn : (q.map (·.2)).findSome? (fun y => Qr.newest s t y.1.2.2) = none := by
    rw [List.findSome?_eq_none_iff]
    intro y hy
    obtain ⟨z, hz, rfl⟩ := List.mem_map.1 hy
    exact hq z hz
  unfold Qr.lastIn
  rw [← List.map_reverse, List.findSome?_map, e]
  show List.findSome? (fun y : { y : Lay // G y } => Qr.newest s t y.1.2.2) _ = _
  rw [List.findSome?_append, hn, List.findSome?_cons, hx]
  rfl
theorem last_no {G : Lay → Prop} {s : ByteArray} {t : Int} {Z : List { y : Lay // G y }} {q : List (Int × { y : Lay // G y })} (h : q.map (·.2) = Z.reverse) (hq : ∀ y ∈ q, Qr.newest s t y.2.1.2.2 = none) : Qr.lastIn s t (Z.map fun y => y.1.2.2) = none := by
  have hn : (q.map (·.2)).findSome? (fun y => Qr.newest s t y.1.2.2) = none := by
    rw [List.findSome?_eq_none_iff]
    intro y hy
    obtain ⟨z, hz, rfl⟩ := List.mem_map.1 hy
    exact hq z hz
  unfold Qr.lastIn
  rw [← List.map_reverse, List.findSome?_map, ← h]
  exact hn
theorem boxed_below {W W' : World} {B : Nat} {t : TypeId} {v : Value} (h : Boxed W B t v) (hb : Below W.heap.size W W') : Boxed W' B t v := (hb.block B h.lt).trans h
theorem blk_own {g : Nat} {t : TypeId} {cs : Array Value} {X Y : World} {row : Option Nat} (hs : Blk X g t cs) (hg : X.grownBy Y row) (hr : ∀ r, row = some r → ∃ o : Obj, X.heap[r]? = some o ∧ o.isCells = false) : Blk Y g t cs :=
  hs.grown hg (fun e => by obtain ⟨o, ho, hc⟩ := hr g e.symm; rw [show X.heap[g]? = _ from hs] at ho; cases ho; cases hc)
theorem hit_yes {nm s : ByteArray} {t0 t v : Int} (h1 : nm = s) (h2 : t0 = t) : Qr.hit s t (nm, t0, v) = true := by unfold Qr.hit; simp [h1, h2]
theorem hit_no1 {nm s : ByteArray} {t0 t v : Int} (h1 : nm ≠ s) : Qr.hit s t (nm, t0, v) = false := by unfold Qr.hit; simp [h1]
theorem hit_no2 {nm s : ByteArray} {t0 t v : Int} (h2 : t0 ≠ t) : Qr.hit s t (nm, t0, v) = false := by unfold Qr.hit; simp [h2]
def LayOk (w : World) (y : Lay) : Prop := Reads w w.heap.size 3 y.1 y.2.2.length (y.2.2.flatMap pointCells) ∧ y.2.2.length ≤ 9223372036854775807
theorem lift_sub {α : Type} {G : α → Prop} (l : List α) (h : ∀ y ∈ l, G y) : ∃ Z : List { y // G y }, Z.map (·.1) = l := by
  induction l with
  | nil => exact ⟨[], rfl⟩
  | cons a l ih =>
    obtain ⟨Z, hZ⟩ := ih (fun y hy => h y (List.mem_cons_of_mem _ hy))
    exact ⟨⟨a, h a List.mem_cons_self⟩ :: Z, by rw [List.map_cons, hZ]⟩
def NoHit (s : ByteArray) (t : Int) (pre : List (Int × Pt.Point)) : Prop := ∀ y ∈ pre, Qr.hit s t y.2 = false
def Hits (s : ByteArray) (t : Int) (pre : List (Int × Pt.Point)) (v : Int) : Prop := ∃ q y, pre = q ++ [y] ∧ NoHit s t q ∧ Qr.hit s t y.2 = true ∧ y.2.2.2 = v
theorem noHit_nil (s : ByteArray) (t : Int) : NoHit s t [] := fun y hy => by cases hy
theorem noHit_snoc {s : ByteArray} {t : Int} {pre : List (Int × Pt.Point)} {y : Int × Pt.Point} (h : NoHit s t pre) (hy : Qr.hit s t y.2 = false) : NoHit s t (pre ++ [y]) := fun z hz =>
  (List.mem_append.1 hz).elim (h z) (fun e => by rw [List.mem_singleton] at e; subst e; exact hy)
theorem hits_snoc {s : ByteArray} {t : Int} {pre : List (Int × Pt.Point)} {y : Int × Pt.Point} (h : NoHit s t pre) (hy : Qr.hit s t y.2 = true) : Hits s t (pre ++ [y]) y.2.2.2 := ⟨pre, y, rfl, h, hy, rfl⟩
theorem hits_at {s : ByteArray} {t v : Int} {zs : List Pt.Point} {pre : List (Int × Pt.Point)} {d : Nat} (h : pre.map (·.2) = zs.reverse.take d) (hh : Hits s t pre v) : Qr.newest s t zs = some v := by
  obtain ⟨q, y, rfl, hq, hy, rfl⟩ := hh
  exact find_at h hq hy
theorem list_ne {a b : ByteArray} (h : a ≠ b) : (a.toList == b.toList) = false := by
  rw [beq_eq_false_iff_ne, Lib.toList_data, Lib.toList_data]
  intro e
  exact h (Wr.ext_list e)
theorem fr_b3 {S : Nat → Prop} {A X : World} (h : Below A.heap.size A X) : Ev.Fr S A X := ⟨h.os, h.tape, h.output, h.size, fun k hk _ => h.block k hk⟩
def B3 (b k : Nat) : Prop := k = b + 2 ∨ k = b + 3 ∨ k = b + 4
theorem fr_grown3 {S : Nat → Prop} {A X Y : World} {row : Option Nat} (h : Ev.Fr S A X) (hg : X.grownBy Y row) (hr : ∀ r, row = some r → A.heap.size ≤ r) : Ev.Fr S A Y :=
  ⟨hg.os.trans h.os, hg.tape.trans h.tape, hg.output.trans h.output, Nat.le_trans h.size hg.size, fun k hk hn => (hg.block k (Nat.lt_of_lt_of_le hk h.size) (fun e => by have := hr k e.symm; omega)).trans (h.block k hk hn)⟩
theorem fr_set3 {S : Nat → Prop} {A X : World} {p : Addr} (h : Ev.Fr S A X) (hp : S p.block) (v : Value) : Ev.Fr S A (X.setCell p v) :=
  ⟨h.os, h.tape, h.output, by have := h.size; simpa [World.setCell] using this, fun k hk hn => (Below.heap_setCell X p v k (fun e => hn (by rw [e]; exact hp))).trans (h.block k hk hn)⟩
theorem fr_own3 {S : Nat → Prop} {A : World} {B : Nat} (hB : A.heap.size ≤ B) {X Y : World} {row : Option Nat} (h : Ev.Fr S A X) (hg : X.grownBy Y row) (hr : ∀ r, row = some r → B ≤ r ∧ ∃ o : Obj, X.heap[r]? = some o ∧ o.isCells = false) : Ev.Fr S A Y :=
  fr_grown3 h hg fun r e => Nat.le_trans hB (hr r e).1
set_option maxRecDepth 100000 in
set_option maxHeartbeats 4000000 in
theorem last_gen (LP : World → List Lay → Prop) (a0 a1 : Value) (s : ByteArray) (t : Int) (w : World)
    (HLY : ∀ W, Below w.heap.size w W → w.heap.size + 5 ≤ W.heap.size → Calls Tryz.prog 296 #[a0, a1] W fun e w' => ∃ (Av : Option Addr) (cv : Nat) (L : List Lay), e = .returned (.tuple #[.slice Av L.length cv, .bool true]) ∧ W.heap.size ≤ w'.heap.size ∧ (∀ b, w.heap.size ≤ b → b < W.heap.size → w'.heap[b]? = W.heap[b]?) ∧ Reads w' w'.heap.size 1 Av L.length (L.map layV) ∧ (∀ y ∈ L, LayOk w' y) ∧ L.length ≤ 1000000 ∧ LP w' L) :
    Calls Tryz.prog 295 #[a0, a1, .string s, .int .i64 t] w fun e w' => ∃ w2 L, LP w2 L ∧ Ev.Fr (B3 w.heap.size) w2 w' ∧ e = .returned (.tuple #[.int .i64 ((Qr.lastIn s t (L.map (·.2.2))).getD 0), .bool (Qr.lastIn s t (L.map (·.2.2))).isSome, .int .i64 0]) := by
  have HL := Lib.hid HLY
  clear HLY
  refine (callsIn_wide (n := 8)).1 ?_
  refine callsIn_of_wp_marks Tryz.func295 rfl trivial ?_ rfl
  simp only [Tryz.ntmps295, List.size_toArray, List.length_cons, List.length_nil, Nat.reduceAdd, Nat.reduceSub, Array.replicate_succ, Array.replicate_zero, List.push_toArray, List.append_toArray, List.nil_append, List.cons_append]
  gi_wp2
  refine wpIn_wide.2 ?_
  refine wp_scope_straight ?_
  refine (wpIn_wide (n := 8)).1 ?_
  have b6 := ((((Boxed.new w 9 (.string s)).alloc (.cells #[.int .i64 t] 3)).alloc (.cells #[.int .i64 0] 3)).alloc (.cells #[.bool false] 4)).alloc (.cells #[.int .i64 0] 27)
  have b7 := (((Boxed.new (w.alloc (.cells #[.string s] 9)) 3 (.int .i64 t)).alloc (.cells #[.int .i64 0] 3)).alloc (.cells #[.bool false] 4)).alloc (.cells #[.int .i64 0] 27)
  have b8 := ((Boxed.new ((w.alloc (.cells #[.string s] 9)).alloc (.cells #[.int .i64 t] 3)) 3 (.int .i64 0)).alloc (.cells #[.bool false] 4)).alloc (.cells #[.int .i64 0] 27)
  have b9 := (Boxed.new (((w.alloc (.cells #[.string s] 9)).alloc (.cells #[.int .i64 t] 3)).alloc (.cells #[.int .i64 0] 3)) 4 (.bool false)).alloc (.cells #[.int .i64 0] 27)
  have b10 := Boxed.new ((((w.alloc (.cells #[.string s] 9)).alloc (.cells #[.int .i64 t] 3)).alloc (.cells #[.int .i64 0] 3)).alloc (.cells #[.bool false] 4)) 27 (.int .i64 0)
  simp only [World.size_alloc] at b7 b8 b9 b10
  have hb5 : Below w.heap.size w (((((w.alloc (.cells #[.string s] 9)).alloc (.cells #[.int .i64 t] 3)).alloc (.cells #[.int .i64 0] 3)).alloc (.cells #[.bool false] 4)).alloc (.cells #[.int .i64 0] 27)) :=
    (((((Below.refl _ w).alloc (Nat.le_refl _) _).alloc (by simp) _).alloc (by simp; omega) _).alloc (by simp; omega) _).alloc (by simp; omega) _
  have hs5 : w.heap.size + 5 ≤ (((((w.alloc (.cells #[.string s] 9)).alloc (.cells #[.int .i64 t] 3)).alloc (.cells #[.int .i64 0] 3)).alloc (.cells #[.bool false] 4)).alloc (.cells #[.int .i64 0] 27)).heap.size := by simp
  generalize ((((w.alloc (.cells #[.string s] 9)).alloc (.cells #[.int .i64 t] 3)).alloc (.cells #[.int .i64 0] 3)).alloc (.cells #[.bool false] 4)).alloc (.cells #[.int .i64 0] 27) = w5 at *
  have HB5 := Lib.hid hb5
  clear hb5
  gi_wp2_with fail
  refine ⟨trivial, ?_⟩
  refine (callsIn_wide.2 (HL.out w5 HB5.out hs5)).mono ?_
  rintro e w2 ⟨Av, cv, L, rfl, hs2, hkeep, hrv, hlays, hLl, hLP⟩
  have hk5 : ∀ {g : Nat} {t : TypeId} {v : Value}, w.heap.size ≤ g → Boxed w5 g t v → Boxed w2 g t v := fun hg hb => (hkeep _ hg hb.lt).trans hb
  have HLP := Lib.hid hLP
  have Hrv := Lib.hid hrv
  clear hLP hrv
  · gi_wp2_with fail
    refine wpIn_label ?_
    gi_wp2_with fail
    refine ⟨trivial, ?_⟩
    refine (backL_make Fence.wide _ trivial rfl Av L.length cv w2).mono ?_
    rintro e w' ⟨rfl, rfl⟩
    have hb0 : Below w2.heap.size w2 (w2.alloc (.cells #[.slice Av L.length cv] 356)) := (Below.refl _ _).alloc (Nat.le_refl _) _
    have b26 := Boxed.new w2 356 (.slice Av L.length cv)
    have hsz0 : w2.heap.size + 1 ≤ (w2.alloc (.cells #[.slice Av L.length cv] 356)).heap.size := by simp
    obtain ⟨W0, hW0⟩ : ∃ W0, w2.alloc (.cells #[.slice Av L.length cv] 356) = W0 := ⟨_, rfl⟩
    rw [hW0] at hb0 b26 hsz0 ⊢
    clear hW0
    have a6 := boxed_below (hk5 (by omega) b6) hb0
    have a7 := boxed_below (hk5 (by omega) b7) hb0
    have a8 := boxed_below (hk5 (by omega) b8) hb0
    have a9 := boxed_below (hk5 (by omega) b9) hb0
    have a10 := boxed_below (hk5 (by omega) b10) hb0
    have hbW0 : Ev.Fr (B3 w.heap.size) w2 W0 := fr_b3 hb0
    have hG : ∀ y ∈ L, LayOk W0 y := fun y hy => ⟨((hlays y hy).1.below hb0).more (by omega), (hlays y hy).2⟩
    obtain ⟨Z, hZ⟩ := lift_sub L hG
    have hZl : Z.length = L.length := by
      have := congrArg List.length hZ
      rw [List.length_map] at this
      exact this
    have hZr : Reads W0 W0.heap.size 1 Av Z.length (Z.map fun y => layV y.1) := by
      rw [hZl, show (Z.map fun y => layV y.1) = (Z.map (·.1)).map layV from by rw [List.map_map]; rfl, hZ]
      exact (Hrv.out.below hb0).more (by omega)
    have hZp : (Z.map fun y => y.1.2.2) = L.map (·.2.2) := by
      rw [show (Z.map fun y => y.1.2.2) = (Z.map (·.1)).map (·.2.2) from by rw [List.map_map]; rfl, hZ]
    have c26 : W0.cell? ⟨w2.heap.size, 0, none⟩ = some (.slice Av Z.length cv) := by rw [hZl]; exact b26.cell
    have HbW0 := Lib.hid hbW0
    obtain ⟨res, hres⟩ : ∃ res : Int × Bool × Int, res = ((Qr.lastIn s t (Z.map fun y => y.1.2.2)).getD 0, (Qr.lastIn s t (Z.map fun y => y.1.2.2)).isSome, 0) := ⟨_, rfl⟩
    have Hend : Hid (∀ (e : Ending) (w' : World), e = .returned (.tuple #[.int .i64 res.1, .bool res.2.1, .int .i64 res.2.2]) → Ev.Fr (B3 w.heap.size) W0 w' → ∃ w2 L, LP w2 L ∧ Ev.Fr (B3 w.heap.size) w2 w' ∧ e = .returned (.tuple #[.int .i64 ((Qr.lastIn s t (L.map (·.2.2))).getD 0), .bool (Qr.lastIn s t (L.map (·.2.2))).isSome, .int .i64 0])) := Lib.hid fun e w' he hf => ⟨w2, L, HLP.out, hbW0.trans hf (fun _ _ q => q), by rw [he, hres, hZp]⟩
    have Hres' := Lib.hid hres
    have hhs : w.heap.size + 5 ≤ W0.heap.size := by omega
    clear hZp hlays Hrv HL hG hZ b6 b7 b8 b9 b10 hb0 hbW0 b26 hres HLP hkeep hk5
    have hz2 : w2.heap.size < W0.heap.size := by omega
    gi_wp2_with fail
    refine wpIn_rangeFunc_ownH rfl (by omega) (gf := 327) (lb := #[.pointer (some ⟨w2.heap.size, 0, none⟩)]) rfl trivial (enters_of Tryz.func327 (by kernel_rfl) rfl)
      (backL_stops (G := LayOk W0) Fence.wide _ trivial rfl (by omega) w2.heap.size W0.heap.size cv Av Z (by omega) W0 hz2 (Nat.le_refl _) c26 hZr) belowK_t (belowK_b (Nat.le_refl _)) (Below.refl _ _) (fun _ => rfl)
      (fun pre W => (∀ x ∈ pre, Qr.newest s t x.2.1.2.2 = none) ∧ Below W0.heap.size W0 W)
      (fun cd pre W => (cd = .ret ∧ ∃ q x v, pre = q ++ [x] ∧ (∀ y ∈ q, Qr.newest s t y.2.1.2.2 = none) ∧ Qr.newest s t x.2.1.2.2 = some v ∧ Boxed W (w.heap.size + 1 + 1) 3 (.int .i64 v) ∧ Boxed W (w.heap.size + 1 + 1 + 1) 4 (.bool true) ∧ Boxed W (w.heap.size + 1 + 1 + 1 + 1) 27 (.int .i64 0)) ∧ Ev.Fr (B3 w.heap.size) W0 W)
      (OwnFrom.and (ownFrom_pure _ _) (ownFrom_below (Nat.le_refl _) (Nat.le_refl _)))
      (fun cd sx X Y row hs hg hr => by
        obtain ⟨⟨h0, q, x, v, h1, h2, h3, k8, k9, k10⟩, hb⟩ := hs
        exact ⟨⟨h0, q, x, v, h1, h2, h3, blk_own k8 hg (fun r e => (hr r e).2), blk_own k9 hg (fun r e => (hr r e).2), blk_own k10 hg (fun r e => (hr r e).2)⟩, fr_own3 (by omega) hb hg hr⟩)
      ⟨by simp, Below.refl _ _⟩
      (fun x a' _ => a' = { tmps := #[a0, a1, .string s, .int .i64 t, undef, undef, .pointer (some ⟨w.heap.size, 0, none⟩), .pointer (some ⟨w.heap.size + 1, 0, none⟩), .pointer (some ⟨w.heap.size + 1 + 1, 0, none⟩), .pointer (some ⟨w.heap.size + 1 + 1 + 1, 0, none⟩), .pointer (some ⟨w.heap.size + 1 + 1 + 1 + 1, 0, none⟩), .slice Av L.length cv, .bool true, undef, layV x.2.1, undef, undef, .tuple #[.slice Av L.length cv, .bool true], a0, a1, .tuple #[.slice Av L.length cv, .bool true], .slice Av L.length cv, .bool true, .bool true, .bool false, .slice Av L.length cv, .func (.func 327) #[] #[.pointer (some ⟨w2.heap.size, 0, none⟩)], .int .i64 x.1, layV x.2.1, undef, undef, undef, undef, undef, undef, undef, undef, undef, undef, undef, undef, undef, undef, undef, undef, undef], defers := [] })
      (fun _ _ _ _ _ _ hs _ _ => hs)
      ?assign ?body ?done ?stop
    case assign =>
      rintro l pre x W K hi hK
      gi_wp2
      exact hK _ _ (KeepsFrom.refl _ _) (Below.refl _ _) hi rfl
    case body =>
      rintro l pre x a' W hl ⟨r, hr⟩ ⟨hp, hB1⟩ rfl hlt
      obtain ⟨xi, ⟨⟨xa, xc, xl⟩, hGx⟩⟩ := x
      simp only [layV]
      have HGx := Lib.hid hGx
      gi_wp2_with fail
      refine ⟨trivial, ?_⟩
      refine (CallsIn.inRound l (backP_make Fence.wide _ trivial rfl xa xl.length xc W)).mono ?_
      rintro e w' ⟨rfl, rfl⟩
      have hsW := hB1.size
      have hr' : (W.alloc (.cells #[.slice xa xl.length xc] 34)).heap[l]? = some (.loop r) := (Below.heap_alloc W _ l (Array.getElem?_eq_some_iff.1 hr).1).trans hr
      have bN := Boxed.new W 34 (.slice xa xl.length xc)
      have hbN : Below W.heap.size W (W.alloc (.cells #[.slice xa xl.length xc] 34)) := (Below.refl _ _).alloc (Nat.le_refl _) _
      have hszN : W.heap.size + 1 ≤ (W.alloc (.cells #[.slice xa xl.length xc] 34)).heap.size := by simp
      have hkN : KeepsFrom W0.heap.size W (W.alloc (.cells #[.slice xa xl.length xc] 34)) := (KeepsOthers.alloc _ _).from _
      obtain ⟨W1, hW1⟩ : ∃ W1, W.alloc (.cells #[.slice xa xl.length xc] 34) = W1 := ⟨_, rfl⟩
      rw [hW1] at hr' bN hbN hszN hkN ⊢
      clear hW1
      have hb01 : Below W0.heap.size W0 W1 := hB1.trans (hbN.mono hsW)
      have hrx : Reads W1 W1.heap.size 3 xa xl.length (xl.flatMap pointCells) := (HGx.out.1.below hb01).more (by omega)
      have hlx : xl.length ≤ 9223372036854775807 := HGx.out.2
      gi_wp2_with fail
      refine wpIn_rangeFunc_ownN (l₀ := l) (r₀ := r) rfl hr' (by omega) (gf := 328) (lb := #[.pointer (some ⟨W.heap.size, 0, none⟩)]) rfl trivial (enters_of Tryz.func328 (by kernel_rfl) rfl)
        ((backP_stops Fence.wide _ trivial rfl (by omega) W.heap.size W1.heap.size xc xa xl hlx W1 (by omega) (Nat.le_refl _) bN.cell hrx).inRound l) belowK_t (belowK_b (Nat.le_refl _)) (Below.refl _ _) (fun _ => rfl)
        (fun pre' W' => (NoHit s t pre' ∧ Below W1.heap.size W1 W') ∧ KeepsFrom W0.heap.size W W')
        (fun cd pre' W' => ((cd = .ret ∧ ∃ v, Hits s t pre' v ∧ Boxed W' (w.heap.size + 1 + 1) 3 (.int .i64 v) ∧ Boxed W' (w.heap.size + 1 + 1 + 1) 4 (.bool true) ∧ Boxed W' (w.heap.size + 1 + 1 + 1 + 1) 27 (.int .i64 0)) ∧ Ev.Fr (B3 w.heap.size) W0 W') ∧ KeepsFrom W0.heap.size W W')
        (OwnFrom.and (OwnFrom.and (ownFrom_pure _ _) (ownFrom_below (Nat.le_refl _) (Nat.le_refl _))) (ownFrom_keepsFrom (by omega)))
        (fun cd sx X Y row hs hg hr => by
          obtain ⟨⟨⟨h0, v, h1, k8, k9, k10⟩, hb⟩, hk⟩ := hs
          exact ⟨⟨⟨h0, v, h1, blk_own k8 hg (fun r e => (hr r e).2), blk_own k9 hg (fun r e => (hr r e).2), blk_own k10 hg (fun r e => (hr r e).2)⟩, fr_own3 (by omega) hb hg hr⟩, ownFrom_keepsFrom (β := Unit) (by omega) () X Y row hk hg hr⟩)
        ⟨⟨noHit_nil s t, Below.refl _ _⟩, hkN⟩
        (fun y a'' W'' => ∃ Bx, Blk W'' Bx 46 #[.string y.2.1, .int .i64 y.2.2.1, .int .i64 y.2.2.2] ∧ a'' = { tmps := #[a0, a1, .string s, .int .i64 t, undef, undef, .pointer (some ⟨w.heap.size, 0, none⟩), .pointer (some ⟨w.heap.size + 1, 0, none⟩), .pointer (some ⟨w.heap.size + 1 + 1, 0, none⟩), .pointer (some ⟨w.heap.size + 1 + 1 + 1, 0, none⟩), .pointer (some ⟨w.heap.size + 1 + 1 + 1 + 1, 0, none⟩), .slice Av L.length cv, .bool true, undef, .slice xa xl.length xc, undef, .pointer (some ⟨Bx, 0, none⟩), .tuple #[.slice Av L.length cv, .bool true], a0, a1, .tuple #[.slice Av L.length cv, .bool true], .slice Av L.length cv, .bool true, .bool true, .bool false, .slice Av L.length cv, .func (.func 327) #[] #[.pointer (some ⟨w2.heap.size, 0, none⟩)], .int .i64 xi, .slice xa xl.length xc, .slice xa xl.length xc, .func (.func 328) #[] #[.pointer (some ⟨W.heap.size, 0, none⟩)], .int .i64 y.1, .agg #[.string y.2.1, .int .i64 y.2.2.1, .int .i64 y.2.2.2], undef, undef, undef, undef, undef, undef, undef, undef, undef, undef, undef, undef, undef], defers := [] })
        (fun y a'' _ X Y row hs hg hr => by obtain ⟨Bx, e1, e2⟩ := hs; exact ⟨Bx, blk_own e1 hg (fun r e => (hr r e).2), e2⟩)
        ?assign2 ?body2 ?done2 ?stop2
      case assign2 =>
        rintro l2 pre' y W' K ⟨⟨hq, hBW⟩, hKF⟩ hK
        gi_wp2
        exact hK _ _ ((KeepsOthers.alloc _ _).from _) ((Below.refl _ W').alloc hBW.size _) ⟨⟨hq, hBW.alloc hBW.size _⟩, hKF.trans ((KeepsOthers.alloc _ _).from _)⟩ ⟨W'.heap.size, Blk.new W' _ _, rfl⟩
      case body2 =>
        rintro l2 pre' y a'' W' _ _ ⟨⟨hq, hBW⟩, hKF⟩ ⟨Bx, bX, rfl⟩ _
        obtain ⟨yi, nm, t0, v0⟩ := y
        obtain ⟨x0, x1, x2⟩ := pt3_of bX
        have hb0W : Below W0.heap.size W0 W' := hb01.trans (hBW.mono hb01.size)
        have e6 := (boxed_below a6 hb0W).cell
        have e7 := (boxed_below a7 hb0W).cell
        have d8 := boxed_below a8 hb0W
        have d9 := boxed_below a9 hb0W
        have d10 := boxed_below a10 hb0W
        have c8 := d8.cell
        have f8 := d8.frozen
        have c9 := d9.cell
        have f9 := d9.frozen
        have c10 := d10.cell
        have f10 := d10.frozen
        have hbwW : Ev.Fr (B3 w.heap.size) W0 W' := fr_b3 hb0W
        by_cases h1 : nm = s
        · have hz1 : (nm.toList == s.toList) = true := by simp [h1]
          by_cases h2 : t0 = t
          · have hz2 : (t0 != t) = false := by simp [h2]
            have hh := hit_yes (v := v0) h1 h2
            clear h1 h2
            gi_wp2
            exact ⟨((KeepsOthers.setCell _ _ _).trans ((KeepsOthers.setCell _ _ _).trans (KeepsOthers.setCell _ _ _))).from _, ⟨⟨rfl, v0, hits_snoc hq hh, ((d8.set _).other (by omega) _).other (by omega) _, ((d9.other (by omega) _).set _).other (by omega) _, ((d10.other (by omega) _).other (by omega) _).set _⟩, fr_set3 (fr_set3 (fr_set3 hbwW (p := ⟨_, 0, none⟩) (.inl rfl) _) (p := ⟨_, 0, none⟩) (.inr (.inl rfl)) _) (p := ⟨_, 0, none⟩) (.inr (.inr rfl)) _⟩, hKF.trans (((KeepsOthers.setCell _ _ _).trans ((KeepsOthers.setCell _ _ _).trans (KeepsOthers.setCell _ _ _))).from _)⟩
          · have hz2 : (t0 != t) = true := by simp [h2]
            have hh := hit_no2 (nm := nm) (s := s) (v := v0) h2
            clear h1 h2
            gi_wp2
            exact ⟨KeepsFrom.refl _ _, Below.refl _ _, ⟨⟨noHit_snoc hq hh, hBW⟩, hKF⟩⟩
        · have hz1 : (nm.toList == s.toList) = false := list_ne h1
          have hh := hit_no1 (t0 := t0) (t := t) (v := v0) h1
          clear h1
          gi_wp2
          exact ⟨KeepsFrom.refl _ _, Below.refl _ _, ⟨⟨noHit_snoc hq hh, hBW⟩, hKF⟩⟩
      case done2 =>
        rintro ys' W' hys ⟨⟨hq, hBW⟩, hKF⟩
        gi_wp2
        have hb0W : Below W0.heap.size W0 W' := hb01.trans (hBW.mono hb01.size)
        exact ⟨hKF, (hbN.mono hsW).trans (hBW.mono hb01.size), ⟨fun z hz => (List.mem_append.1 hz).elim (hp z) (fun e => by rw [List.mem_singleton] at e; subst e; exact find_no hys hq), hb0W⟩⟩
      case stop2 =>
        rintro cd pre' W' ⟨d, hd, hpre⟩ ⟨⟨⟨rfl, v, hh, k8, k9, k10⟩, hbH⟩, hKF⟩
        gi_wp2
        exact ⟨hKF, ⟨rfl, pre, _, _, rfl, hp, hits_at hpre hh, k8, k9, k10⟩, hbH⟩
    case done =>
      rintro D zs W hD hzs ⟨hp, hB1⟩ hK
      have d8 := boxed_below a8 hB1
      have d9 := boxed_below a9 hB1
      have d10 := boxed_below a10 hB1
      have c8 := d8.cell
      have f8 := d8.frozen
      have c9 := d9.cell
      have f9 := d9.frozen
      have c10 := d10.cell
      have f10 := d10.frozen
      have hno := last_no hzs hp
      gi_wp2
      have hK' : (((W.setCell ⟨w.heap.size + 1 + 1, 0, none⟩ (.int .i64 0)).setCell ⟨w.heap.size + 1 + 1 + 1, 0, none⟩ (.bool false)).setCell ⟨w.heap.size + 1 + 1 + 1 + 1, 0, none⟩ (.int .i64 0)).heap[D]? = some (.deferred (some [])) := ((KeepsOthers.setCell _ _ _).trans ((KeepsOthers.setCell _ _ _).trans (KeepsOthers.setCell _ _ _))).same D _ hK rfl
      have q8 : Boxed (((W.setCell ⟨w.heap.size + 1 + 1, 0, none⟩ (.int .i64 0)).setCell ⟨w.heap.size + 1 + 1 + 1, 0, none⟩ (.bool false)).setCell ⟨w.heap.size + 1 + 1 + 1 + 1, 0, none⟩ (.int .i64 0)) (w.heap.size + 1 + 1) 3 (.int .i64 0) := ((d8.set _).other (by omega) _).other (by omega) _
      have q9 : Boxed (((W.setCell ⟨w.heap.size + 1 + 1, 0, none⟩ (.int .i64 0)).setCell ⟨w.heap.size + 1 + 1 + 1, 0, none⟩ (.bool false)).setCell ⟨w.heap.size + 1 + 1 + 1 + 1, 0, none⟩ (.int .i64 0)) (w.heap.size + 1 + 1 + 1) 4 (.bool false) := ((d9.other (by omega) _).set _).other (by omega) _
      have q10 : Boxed (((W.setCell ⟨w.heap.size + 1 + 1, 0, none⟩ (.int .i64 0)).setCell ⟨w.heap.size + 1 + 1 + 1, 0, none⟩ (.bool false)).setCell ⟨w.heap.size + 1 + 1 + 1 + 1, 0, none⟩ (.int .i64 0)) (w.heap.size + 1 + 1 + 1 + 1) 27 (.int .i64 0) := ((d10.other (by omega) _).other (by omega) _).set _
      have qb := fr_set3 (fr_set3 (fr_set3 (fr_b3 (S := B3 w.heap.size) hB1) (p := ⟨w.heap.size + 1 + 1, 0, none⟩) (.inl rfl) (.int .i64 0)) (p := ⟨w.heap.size + 1 + 1 + 1, 0, none⟩) (.inr (.inl rfl)) (.bool false)) (p := ⟨w.heap.size + 1 + 1 + 1 + 1, 0, none⟩) (.inr (.inr rfl)) (.int .i64 0)
      have Hr9 : Hid (res = (0, false, 0)) := by show _ = _; rw [Hres'.out, hno]; rfl
      generalize ((W.setCell ⟨w.heap.size + 1 + 1, 0, none⟩ (.int .i64 0)).setCell ⟨w.heap.size + 1 + 1 + 1, 0, none⟩ (.bool false)).setCell ⟨w.heap.size + 1 + 1 + 1 + 1, 0, none⟩ (.int .i64 0) = WZ at *
      clear c8 c9 c10 f8 f9 f10 d8 d9 d10
      refine ⟨by simp, .inl ⟨_, _, rfl, run_takeDeferred hK', ?_⟩⟩
      have g8 := cell_kept q8.cell (grownBy_putObj' _ D (.deferred none)) (fun r e => by cases e; exact ⟨_, hK', rfl⟩)
      have g9 := cell_kept q9.cell (grownBy_putObj' _ D (.deferred none)) (fun r e => by cases e; exact ⟨_, hK', rfl⟩)
      have g10 := cell_kept q10.cell (grownBy_putObj' _ D (.deferred none)) (fun r e => by cases e; exact ⟨_, hK', rfl⟩)
      refine ⟨.tuple #[.int .i64 0, .bool false, .int .i64 0], ?_, Hend.out _ _ (by rw [Hr9.out]) (fr_grown3 qb (grownBy_putObj' _ D (.deferred none)) (fun r e => by cases e; omega))⟩
      simp [results, Tryz.f295, go_sem, g8, g9, g10]
    case stop =>
      rintro D cd pre W hD ⟨d, hd, hpre⟩ ⟨⟨rfl, q, x, v, rfl, hq, hx, k8, k9, k10⟩, hbH⟩ hK
      have hat := last_at hpre hq hx
      gi_wp2
      have Hr9 : Hid (res = (v, true, 0)) := by show _ = _; rw [Hres'.out, hat]; rfl
      refine ⟨by simp, .inl ⟨_, _, rfl, run_takeDeferred hK, ?_⟩⟩
      have g8 := cell_kept k8.cell (grownBy_putObj' _ D (.deferred none)) (fun r e => by cases e; exact ⟨_, hK, rfl⟩)
      have g9 := cell_kept k9.cell (grownBy_putObj' _ D (.deferred none)) (fun r e => by cases e; exact ⟨_, hK, rfl⟩)
      have g10 := cell_kept k10.cell (grownBy_putObj' _ D (.deferred none)) (fun r e => by cases e; exact ⟨_, hK, rfl⟩)
      refine ⟨.tuple #[.int .i64 v, .bool true, .int .i64 0], ?_, Hend.out _ _ (by rw [Hr9.out]) (fr_grown3 hbH (grownBy_putObj' _ D (.deferred none)) (fun r e => by cases e; omega))⟩
      simp [results, Tryz.f295, go_sem, g8, g9, g10]
end Go.Proofs.YtcchekmejnhlmaaGreat
namespace Go.Proofs.YtcchekmejnhlmaaGreat
namespace Ev
open Go.RowKit
noncomputable section
set_option linter.unusedVariables false
def oB {α β : Type} (x : Option α) (f : α → Option β) : Option β := Option.rec none f x
theorem oB_some {α β : Type} {x : Option α} {f : α → Option β} {y : β} (h : oB x f = some y) : ∃ a, x = some a ∧ f a = some y := by
  cases x with
  | none => cases h
  | some a => exact ⟨a, rfl, h⟩
abbrev RnT := T8 Nat
def predO (n : Nat) : Option Nat := Nat.rec none (fun j _ => some j) n
def rnI (τ : RnT) (id : Nat) : Option Nat := cnd (Nat.blt id HB) (predO (tget 5 0 τ id)) none
def rnCaps (τ : RnT) : List (Nat × Nat) → Option (List (Nat × Nat))
  | [] => some []
  | p :: r => oB (rnI τ p.1) fun j => oB (rnCaps τ r) fun l => some ((j, p.2) :: l)
def rnS (τ : RnT) (x : Sc) : Option Sc := Sc.rec (some .u) (fun b => some (.b b)) (fun k n => some (.i k n)) (fun l n => some (.s l n)) (some .pn) (fun id off => oB (rnI τ id) fun j => some (.p j off)) (some .sn)
  (fun id off len cap es => oB (rnI τ id) fun j => some (.sk j off len cap es)) (fun id off len lb es => oB (rnI τ id) fun j => some (.su j off len lb es)) (some .se) (some .mn) (fun id => oB (rnI τ id) fun j => some (.m j)) (some .fn) (fun fid caps => oB (rnCaps τ caps) fun l => some (.f fid l)) (some .ni) (fun tag a b c => some (.xx tag a b c)) x
def rnL (τ : RnT) : List Sc → Option (List Sc)
  | [] => some []
  | x :: r => oB (rnS τ x) fun y => oB (rnL τ r) fun l => some (y :: l)
def rnE (τ : RnT) (e : E) : Option E := E.rec (fun x => oB (rnS τ x) fun y => some (.c y)) (fun xs => oB (rnL τ xs) fun ys => some (.a ys)) e
def rnEs (τ : RnT) : List E → Option (List E)
  | [] => some []
  | x :: r => oB (rnE τ x) fun y => oB (rnEs τ r) fun l => some (y :: l)
def rnV (τ : RnT) (v : V) : Option V := V.rec (fun x => oB (rnS τ x) fun y => some (.c y)) (fun xs => oB (rnL τ xs) fun ys => some (.a ys)) (fun es => oB (rnEs τ es) fun ys => some (.t ys)) v
/-- a tree, leaf by leaf -/
def mapT {α : Type} (f : α → Option α) (t : T8 α) : Option (T8 α) :=
  T8.rec (some .z) (fun x => oB (f x) fun y => some (.l y)) (fun _ _ _ _ _ _ _ _ a b c d e g h i => oB a fun a => oB b fun b => oB c fun c => oB d fun d => oB e fun e => oB g fun g => oB h fun h => oB i fun i => some (.n a b c d e g h i)) t
def rnMp (τ : RnT) : List (Sc × E) → Option (List (Sc × E))
  | [] => some []
  | p :: r => oB (rnS τ p.1) fun x => oB (rnE τ p.2) fun y => oB (rnMp τ r) fun l => some ((x, y) :: l)
def rnO (τ : RnT) (o : Ob) : Option Ob := Ob.rec (some .no) (fun n x dep d t => oB (rnS τ d) fun d => oB (mapT (rnS τ) t) fun t => some (.row n x dep d t)) (fun es => oB (rnMp τ es) fun es => some (.mp es))
  (fun el a buf => oB (rnS τ a) fun a => oB (rnS τ buf) fun buf => some (.bd el a buf)) (fun el len n => some (.by' el len n)) o
/-- the old numbers in their new row: l; where each one stands -/
def mkRn (l : List Nat) : Nat → RnT → RnT := List.rec (motive := fun _ => Nat → RnT → RnT) (fun _ τ => τ) (fun id _ ih j τ => T8.fc (tset 5 τ id (Nat.add j 1)) fun τ => ih (Nat.add j 1) τ) l
def gcH (τ : RnT) (H : HT) (l : List Nat) : Nat → HT → Option HT := List.rec (motive := fun _ => Nat → HT → Option HT) (fun _ K => some K) (fun id _ ih j K => cnd (and (Nat.blt id HB) (and (Nat.blt j HB) (Nat.beq (tget 5 0 τ id) (Nat.add j 1)))) (oB (rnO τ (hget H id)) fun o => T8.fc (hset K j o) fun K => ih (Nat.add j 1) K) none) l
def gcS (l : List Nat) (t : T8 V) (H : HT) (τ : RnT) : Option (T8 V × HT) := oB (mapT (rnV τ) t) fun t => oB (gcH τ H l 0 .z) fun K => some (t, K)
def gc (l : List Nat) (t : T8 V) (H : HT) : Option (T8 V × HT) := T8.fc (mkRn l 0 .z) fun τ => gcS l t H τ
/-- τ tells where in l a number stands -/
def RnOk (l : List Nat) (τ : RnT) : Prop := ∀ id j, id < HB → tget 5 0 τ id = j + 1 → l[j]? = some id
theorem mkRn_ok : ∀ (l p : List Nat) (τ : RnT), (∀ id ∈ l, id < HB) → RnOk (p ++ l) τ → RnOk (p ++ l) (mkRn l p.length τ)
  | [], p, τ, _, h => h
  | id :: l, p, τ, hl, h => by
    show RnOk (p ++ id :: l) (T8.fc (tset 5 τ id (p.length + 1)) fun τ => mkRn l (p.length + 1) τ)
    rw [T8.fc_eq]
    have hid := hl id (List.mem_cons_self ..)
    have e : p ++ id :: l = (p ++ [id]) ++ l := by simp
    have hp : p.length + 1 = (p ++ [id]).length := by simp
    rw [e, hp]
    refine mkRn_ok l (p ++ [id]) _ (fun i q => hl i (List.mem_cons_of_mem _ q)) fun i j hi hq => ?_
    rw [tget_set (by simpa [HB] using hid) (by simpa [HB] using hi)] at hq
    by_cases c : i = id
    · rw [if_pos c] at hq
      have : j = p.length := by simp at hq; omega
      rw [this, c, ← e]
      simp
    · rw [if_neg c] at hq
      rw [← e]
      exact h i j hi hq
section
variable {l : List Nat} {τ : RnT} {G : Gh}
/-- the ghosts by the new numbers -/
def gcG (l : List Nat) (G : Gh) : Gh := fun j => match l[j]? with | some id => G id | none => none
theorem rnI_ok (h : RnOk l τ) {id j : Nat} (hr : rnI τ id = some j) : gcG l G j = G id := by
  unfold rnI at hr
  obtain ⟨h1, h2⟩ := cond_some hr
  have h3 : tget 5 0 τ id = j + 1 := by
    unfold predO at h2
    cases hq : tget 5 0 τ id with
    | zero => rw [hq] at h2; cases h2
    | succ i =>
      rw [hq] at h2
      have h2 : some i = some j := h2
      cases h2; rfl
  unfold gcG
  rw [h id j (blt_true h1) h3]
theorem rnCaps_ok (h : RnOk l τ) : ∀ {caps r : List (Nat × Nat)} {cs : List Value}, rnCaps τ caps = some r → All2 (fun (p : Nat × Nat) c => ∃ b sz, G p.1 = some (b, sz) ∧ c = Value.pointer (some ⟨b, p.2, none⟩)) caps cs → All2 (fun (p : Nat × Nat) c => ∃ b sz, gcG l G p.1 = some (b, sz) ∧ c = Value.pointer (some ⟨b, p.2, none⟩)) r cs
  | [], _, _, hr, ha => by cases hr; cases ha; exact .nil
  | p :: caps, _, _, hr, ha => by
    obtain ⟨j, h1, hr⟩ := oB_some hr
    obtain ⟨r', h2, hr⟩ := oB_some hr
    cases hr
    cases ha with
    | cons a b =>
      obtain ⟨bb, sz, g1, g2⟩ := a
      exact .cons ⟨bb, sz, by rw [rnI_ok h h1]; exact g1, g2⟩ (rnCaps_ok h h2 b)
theorem rnS_ok (h : RnOk l τ) {x y : Sc} {v : Value} (hr : rnS τ x = some y) (hx : Sc.ok G x v) : Sc.ok (gcG l G) y v := by
  cases x with
  | p id off =>
    obtain ⟨j, h1, hr⟩ := oB_some hr
    cases hr
    obtain ⟨b, sz, g, e⟩ := hx
    exact ⟨b, sz, by rw [rnI_ok h h1]; exact g, e⟩
  | sk id off len cap es =>
    obtain ⟨j, h1, hr⟩ := oB_some hr
    cases hr
    obtain ⟨b, sz, g, e⟩ := hx
    exact ⟨b, sz, by rw [rnI_ok h h1]; exact g, e⟩
  | su id off len lb es =>
    obtain ⟨j, h1, hr⟩ := oB_some hr
    cases hr
    obtain ⟨b, sz, c, g, e⟩ := hx
    exact ⟨b, sz, c, by rw [rnI_ok h h1]; exact g, e⟩
  | m id =>
    obtain ⟨j, h1, hr⟩ := oB_some hr
    cases hr
    obtain ⟨b, sz, g, e⟩ := hx
    exact ⟨b, sz, by rw [rnI_ok h h1]; exact g, e⟩
  | f fid caps =>
    obtain ⟨r, h1, hr⟩ := oB_some hr
    cases hr
    obtain ⟨cs, e, ha⟩ := hx
    exact ⟨cs, e, rnCaps_ok h h1 ha⟩
  | _ => cases hr; exact hx
theorem rnL_ok (h : RnOk l τ) : ∀ {xs ys : List Sc} {vs : List Value}, rnL τ xs = some ys → All2 (Sc.ok G) xs vs → All2 (Sc.ok (gcG l G)) ys vs
  | [], _, _, hr, ha => by cases hr; cases ha; exact .nil
  | x :: xs, _, _, hr, ha => by
    obtain ⟨y, h1, hr⟩ := oB_some hr
    obtain ⟨ys, h2, hr⟩ := oB_some hr
    cases hr
    cases ha with
    | cons a b => exact .cons (rnS_ok h h1 a) (rnL_ok h h2 b)
theorem rnE_ok (h : RnOk l τ) {e f : E} {v : Value} (hr : rnE τ e = some f) (he : E.ok G e v) : E.ok (gcG l G) f v := by
  cases e with
  | c x =>
    obtain ⟨y, h1, hr⟩ := oB_some hr
    cases hr
    exact rnS_ok h h1 he
  | a xs =>
    obtain ⟨ys, h1, hr⟩ := oB_some hr
    cases hr
    obtain ⟨arr, e, ha⟩ := he
    exact ⟨arr, e, rnL_ok h h1 ha⟩
theorem rnEs_ok (h : RnOk l τ) : ∀ {xs ys : List E} {vs : List Value}, rnEs τ xs = some ys → All2 (E.ok G) xs vs → All2 (E.ok (gcG l G)) ys vs
  | [], _, _, hr, ha => by cases hr; cases ha; exact .nil
  | x :: xs, _, _, hr, ha => by
    obtain ⟨y, h1, hr⟩ := oB_some hr
    obtain ⟨ys, h2, hr⟩ := oB_some hr
    cases hr
    cases ha with
    | cons a b => exact .cons (rnE_ok h h1 a) (rnEs_ok h h2 b)
theorem rnV_ok (h : RnOk l τ) {u v : V} {c : Value} (hr : rnV τ u = some v) (hu : V.ok G u c) : V.ok (gcG l G) v c := by
  cases u with
  | c x =>
    obtain ⟨y, h1, hr⟩ := oB_some hr
    cases hr
    exact rnS_ok h h1 hu
  | a xs =>
    obtain ⟨ys, h1, hr⟩ := oB_some hr
    cases hr
    obtain ⟨arr, e, ha⟩ := hu
    exact ⟨arr, e, rnL_ok h h1 ha⟩
  | t es =>
    obtain ⟨ys, h1, hr⟩ := oB_some hr
    cases hr
    obtain ⟨arr, e, ha⟩ := hu
    exact ⟨arr, e, rnEs_ok h h1 ha⟩
end
theorem mapT_get {α : Type} {f : α → Option α} {z z' : α} (hz : f z = some z') : ∀ (p : List D8) {t t' : T8 α}, mapT f t = some t' → f (T8.get z p t) = some (T8.get z' p t')
  | [], .z, t', h => by cases h; exact hz
  | [], .l x, t', h => by
    obtain ⟨y, h1, h⟩ := oB_some h
    cases h; exact h1
  | [], .n a b c d e g i j, t', h => by
    obtain ⟨_, _, h⟩ := oB_some h
    obtain ⟨_, _, h⟩ := oB_some h
    obtain ⟨_, _, h⟩ := oB_some h
    obtain ⟨_, _, h⟩ := oB_some h
    obtain ⟨_, _, h⟩ := oB_some h
    obtain ⟨_, _, h⟩ := oB_some h
    obtain ⟨_, _, h⟩ := oB_some h
    obtain ⟨_, _, h⟩ := oB_some h
    cases h; exact hz
  | dd :: p, .z, t', h => by
    cases h
    show f (T8.get z p (T8.ch dd .z)) = some (T8.get z' p (T8.ch dd .z))
    have e : T8.ch dd (.z : T8 α) = .z := by cases dd <;> rfl
    rw [e]; exact mapT_get hz p rfl
  | dd :: p, .l x, t', h => by
    obtain ⟨y, h1, h⟩ := oB_some h
    cases h
    show f (T8.get z p (T8.ch dd (.l x))) = some (T8.get z' p (T8.ch dd (.l y)))
    have e : ∀ x : α, T8.ch dd (.l x) = .z := fun x => by cases dd <;> rfl
    rw [e, e]; exact mapT_get hz p rfl
  | dd :: p, .n a b c d e g i j, t', h => by
    obtain ⟨a', ha, h⟩ := oB_some h
    obtain ⟨b', hb, h⟩ := oB_some h
    obtain ⟨c', hc, h⟩ := oB_some h
    obtain ⟨d', hd, h⟩ := oB_some h
    obtain ⟨e', he, h⟩ := oB_some h
    obtain ⟨g', hg, h⟩ := oB_some h
    obtain ⟨i', hi, h⟩ := oB_some h
    obtain ⟨j', hj, h⟩ := oB_some h
    cases h
    show f (T8.get z p (T8.ch dd (.n a b c d e g i j))) = some (T8.get z' p (T8.ch dd (.n a' b' c' d' e' g' i' j')))
    cases dd
    · exact mapT_get hz p ha
    · exact mapT_get hz p hb
    · exact mapT_get hz p hc
    · exact mapT_get hz p hd
    · exact mapT_get hz p he
    · exact mapT_get hz p hg
    · exact mapT_get hz p hi
    · exact mapT_get hz p hj
theorem mapT_tget {α : Type} {f : α → Option α} {z z' : α} (hz : f z = some z') (k i : Nat) {t t' : T8 α} (h : mapT f t = some t') : f (tget k z t i) = some (tget k z' t' i) := by
  rw [tget_eq, tget_eq]
  exact mapT_get hz _ h
section
variable {l : List Nat} {τ : RnT} {G : Gh}
theorem rnMp_ok (h : RnOk l τ) : ∀ {es fs : List (Sc × E)} {ents : List MapEntry}, rnMp τ es = some fs → All2 (fun (p : Sc × E) (e : MapEntry) => Sc.ok G p.1 e.key ∧ E.ok G p.2 e.val) es ents → All2 (fun (p : Sc × E) (e : MapEntry) => Sc.ok (gcG l G) p.1 e.key ∧ E.ok (gcG l G) p.2 e.val) fs ents
  | [], _, _, hr, ha => by cases hr; cases ha; exact .nil
  | p :: es, _, _, hr, ha => by
    obtain ⟨x, h1, hr⟩ := oB_some hr
    obtain ⟨y, h2, hr⟩ := oB_some hr
    obtain ⟨r, h3, hr⟩ := oB_some hr
    cases hr
    cases ha with
    | cons a b => exact .cons ⟨rnS_ok h h1 a.1, rnE_ok h h2 a.2⟩ (rnMp_ok h h3 b)
theorem rnO_ok (h : RnOk l τ) {o o' : Ob} {ob : Obj} {sz : Nat} (hr : rnO τ o = some o') (ho : ObOk G sz o ob) : ObOk (gcG l G) sz o' ob := by
  cases o with
  | no => cases hr; exact ho
  | row n x dep d t =>
    obtain ⟨d', h1, hr⟩ := oB_some hr
    obtain ⟨t', h2, hr⟩ := oB_some hr
    cases hr
    obtain ⟨arr, el, fz, e, k1, k2, k3, k4, k5, k6⟩ := ho
    exact ⟨arr, el, fz, e, k1, k2, k3, k4, k5, fun i hi => rnS_ok h (mapT_tget h1 dep i h2) (k6 i hi)⟩
  | mp es =>
    obtain ⟨fs, h1, hr⟩ := oB_some hr
    cases hr
    obtain ⟨ents, clock, e, k1, k2⟩ := ho
    exact ⟨ents, clock, e, k1, rnMp_ok h h1 k2⟩
  | bd el a buf =>
    obtain ⟨a', h1, hr⟩ := oB_some hr
    obtain ⟨b', h2, hr⟩ := oB_some hr
    cases hr
    obtain ⟨k0, p, v, e, k1, k2⟩ := ho
    exact ⟨k0, p, v, e, rnS_ok h h1 k1, rnS_ok h h2 k2⟩
  | by' el len n => cases hr; exact ho
theorem rnO_no {o : Ob} (h : rnO τ .no = some o) : o = .no := by cases h; rfl
/-- the new heap: each object is an old one by its new name, each new number once -/
theorem gcH_ok {H : HT} : ∀ (l p : List Nat) (K K' : HT), gcH τ H l p.length K = some K' → (∀ j, hp K j ≠ .no → ∃ id, p[j]? = some id ∧ id < HB ∧ tget 5 0 τ id = j + 1 ∧ rnO τ (hget H id) = some (hp K j)) → ∀ j, hp K' j ≠ .no → ∃ id, (p ++ l)[j]? = some id ∧ id < HB ∧ tget 5 0 τ id = j + 1 ∧ rnO τ (hget H id) = some (hp K' j)
  | [], p, K, K', h, hK, j, hj => by
    have h : some K = some K' := h
    cases h
    rw [List.append_nil]; exact hK j hj
  | id :: l, p, K, K', h, hK, j, hj => by
    obtain ⟨h0, h⟩ := cond_some (show cnd (and (Nat.blt id HB) (and (Nat.blt p.length HB) (Nat.beq (tget 5 0 τ id) (Nat.add p.length 1)))) (oB (rnO τ (hget H id)) fun o => T8.fc (hset K p.length o) fun K => gcH τ H l (Nat.add p.length 1) K) none = some K' from h)
    rw [Bool.and_eq_true, Bool.and_eq_true] at h0
    obtain ⟨o, h1, h⟩ := oB_some h
    rw [T8.fc_eq] at h
    have hp' : Nat.add p.length 1 = (p ++ [id]).length := by simp
    rw [hp'] at h
    have e : p ++ id :: l = (p ++ [id]) ++ l := by simp
    rw [e]
    refine gcH_ok l (p ++ [id]) _ _ h (fun i hi => ?_) j hj
    rw [hp_set _ (blt_true h0.2.1)] at hi ⊢
    unfold upd at hi ⊢
    by_cases c : i = p.length
    · rw [if_pos c]
      refine ⟨id, by rw [c]; simp, blt_true h0.1, by rw [c]; exact nbeq_eq h0.2.2, h1⟩
    · rw [if_neg c] at hi ⊢
      obtain ⟨i', g1, g2, g3, g4⟩ := hK i hi
      refine ⟨i', ?_, g2, g3, g4⟩
      have : i < p.length := (List.getElem?_eq_some_iff.1 g1).1
      rw [List.getElem?_append_left this]; exact g1
end
theorem gcH_lt {τ : RnT} {H : HT} : ∀ (l : List Nat) (j : Nat) (K K' : HT), gcH τ H l j K = some K' → ∀ id ∈ l, id < HB
  | [], _, _, _, _, _, q => by cases q
  | id :: l, j, K, K', h, i, q => by
    obtain ⟨h0, h⟩ := cond_some (show cnd (and (Nat.blt id HB) (and (Nat.blt j HB) (Nat.beq (tget 5 0 τ id) (Nat.add j 1)))) (oB (rnO τ (hget H id)) fun o => T8.fc (hset K j o) fun K => gcH τ H l (Nat.add j 1) K) none = some K' from h)
    rw [Bool.and_eq_true] at h0
    obtain ⟨o, h1, h⟩ := oB_some h
    rw [T8.fc_eq] at h
    rcases List.mem_cons.1 q with rfl | q
    · exact blt_true h0.1
    · exact gcH_lt l _ _ _ h i q
/-- what lies there, by the new numbers -/
theorem gc_ok {l : List Nat} {t t' : T8 V} {H H' : HT} (h : gc l t H = some (t', H')) {nt : Nat} {W : List Nat} {G : Gh} {w : World} {a : Act} (hR : R G (hp H) w) (hr : RegOk ⟨nt, W, []⟩ G ⟨t, []⟩ a) :
    R (gcG l G) (hp H') w ∧ RegOk ⟨nt, W, []⟩ (gcG l G) ⟨t', []⟩ a ∧ (∀ j, l.length ≤ j → gcG l G j = none) ∧ ∀ b, Foot (gcG l G) (hp H') b → Foot G (hp H) b := by
  unfold gc at h
  rw [T8.fc_eq] at h
  obtain ⟨t2, h1, h⟩ := oB_some h
  obtain ⟨K, h2, h⟩ := oB_some h
  cases h
  have hl := gcH_lt l 0 .z _ h2
  have hτ : RnOk l (mkRn l 0 .z) := mkRn_ok l [] .z hl fun id j _ q => by rw [tget_z] at q; cases q
  generalize mkRn l 0 .z = τ at *
  have hobj := gcH_ok l [] .z _ h2 (fun j hj => absurd (by rw [hp_z]) hj)
  rw [List.nil_append] at hobj
  have hg : ∀ j id, l[j]? = some id → gcG l G j = G id := fun j id q => by unfold gcG; rw [q]
  have hno : ∀ {j id}, id < HB → rnO τ (hget H id) = some (hp H' j) → hp H' j ≠ .no → hp H id ≠ .no := fun {j id} a b c q => by
    rw [hp_get a] at q
    rw [q] at b
    exact c (rnO_no b)
  refine ⟨⟨fun j hj => ?_, fun i j b si sj hi hj gi gj => ?_⟩, ⟨fun j h1' h2' => ?_, fun t p q => by cases q⟩, fun j hj => ?_, fun b hb => ?_⟩
  · obtain ⟨id, g1, g2, g3, g4⟩ := hobj j hj
    obtain ⟨b, sz, o, k1, k2, k3⟩ := hR.1 id (hno g2 g4 hj)
    rw [hp_get g2] at k3
    exact ⟨b, sz, o, by rw [hg j id g1]; exact k1, k2, rnO_ok hτ g4 k3⟩
  · obtain ⟨id, g1, g2, g3, g4⟩ := hobj i hi
    obtain ⟨id', g1', g2', g3', g4'⟩ := hobj j hj
    rw [hg i id g1] at gi
    rw [hg j id' g1'] at gj
    have := hR.2 id id' b si sj (hno g2 g4 hi) (hno g2' g4' hj) gi gj
    subst this
    omega
  · have := hr.w j h1' h2'
    refine rnV_ok hτ ?_ this
    exact mapT_tget (f := rnV τ) (z := V.t []) (z' := V.t []) rfl 2 j h1
  · unfold gcG; rw [List.getElem?_eq_none hj]
  · obtain ⟨j, sz, k1, k2⟩ := hb
    obtain ⟨id, g1, g2, g3, g4⟩ := hobj j k1
    rw [hg j id g1] at k2
    exact ⟨id, sz, hno g2 g4 k1, k2⟩
end
end Ev
end Go.Proofs.YtcchekmejnhlmaaGreat
namespace Go.Proofs.YtcchekmejnhlmaaGreat
namespace Ev
open Go.RowKit
noncomputable section
set_option linter.unusedVariables false
/-- code that runs from a heap of numbers below n to one of numbers below n' -/
def Rq (P : Program) (nt : Nat) (W : List Nat) (c : Code) (t : T8 V) (H : HT) (n : Nat) (ex : Ex) (t' : T8 V) (H' : HT) (n' : Nat) : Prop :=
  ∀ G a w, R G (hp H) w → RegOk ⟨nt, W, []⟩ G ⟨t, []⟩ a → a.tmps.size = nt → (∀ j, n ≤ j → G j = none) → ∀ Q : Exit → Act → World → Prop,
    (∀ G' a' w', R G' (hp H') w' → Fr (Foot G (hp H)) w w' → (∀ b, Foot G' (hp H') b → Foot G (hp H) b ∨ w.heap.size ≤ b) → RegOk ⟨nt, W, []⟩ G' ⟨t', []⟩ a' → a'.tmps.size = nt → a'.defers = a.defers → (∀ j, n' ≤ j → G' j = none) → Q (exOf ex) a' w') → c.wp P Q a w
/-- the same of code that was made -/
def RqK (P : Program) (nt : Nat) (W : List Nat) (k : K) (t : T8 V) (H : HT) (n : Nat) (ex : Ex) (t' : T8 V) (H' : HT) (n' : Nat) : Prop :=
  ∀ c, comp P nt W c = k → Rq P nt W c t H n ex t' H' n'
section
variable {P : Program} {nt : Nat} {W : List Nat} {call : CallT} {H H1 H' : HT} {n n1 n' : Nat} {t t1 t' : T8 V} {ex : Ex}
theorem rq_runs {c : Code} (h : Runs P nt W c t H n ex t' H' n') : Rq P nt W c t H n ex t' H' n' := by
  intro G a w hR hr hn hg Q hQ
  refine h.2 G a w hR hr hn (fun j h1 _ => hg j h1) Q fun G' a' w' s r m d => hQ G' a' w' s.r s.fr s.ft r m d fun j hj => ?_
  rw [s.ext.2 j (.inr hj)]
  exact hg j (Nat.le_trans h.1 hj)
theorem rq_gc {c : Code} {l : List Nat} (h : Rq P nt W c t H n ex t1 H1 n1) (hg : gc l t1 H1 = some (t', H')) : Rq P nt W c t H n ex t' H' l.length := by
  intro G a w hR hr hn hg0 Q hQ
  refine h G a w hR hr hn hg0 Q fun G' a' w' r f ft rg m d g => ?_
  obtain ⟨k1, k2, k3, k4⟩ := gc_ok hg r rg
  exact hQ _ a' w' k1 f (fun b hb => ft b (k4 b hb)) k2 m d k3
theorem rqK_run (hm : P.follows .mixedOrders = true) (hcall : CallOk P call) (hlen : W.length ≤ 64) (hnd : W.Nodup) {k : K} (h : runK call k t H n = .ok ex t' H' n') : RqK P nt W k t H n ex t' H' n' := by
  intro c hc
  subst hc
  rw [runK_comp] at h
  exact rq_runs (run_ok hm hcall (drawn_ok hcall) hlen hnd c _ _ _ _ _ _ _ h)
theorem rqK_gc {k : K} {l : List Nat} (h : RqK P nt W k t H n ex t1 H1 n1) (hg : gc l t1 H1 = some (t', H')) : RqK P nt W k t H n ex t' H' l.length :=
  fun c hc => rq_gc (h c hc) hg
theorem kReg_shape (x : Option CR) : (∃ l, kReg x = .s l) ∨ (∃ l, kReg x = .d l) ∨ kReg x = .no := by
  cases x with
  | none => exact .inr (.inr rfl)
  | some y => cases y with
    | s l => exact .inl ⟨l, rfl⟩
    | d l => exact .inr (.inl ⟨l, rfl⟩)
theorem kCond_shape (x : Option Od) (a b : K) : (∃ o, kCond x a b = .cond o a b) ∨ kCond x a b = .no := by
  cases x with
  | none => exact .inr rfl
  | some o => exact .inl ⟨o, rfl⟩
theorem rq_scope {x : Code} (h : Rq P nt W x t H n ex t' H' n') : Rq P nt W (.scope x) t H n ex t' H' n' := by
  intro G a w hR hr hn hg Q hQ
  refine wp_scope_straight (h G a w hR hr hn hg _ fun G' a' w' r f ft rg m d g => ?_)
  have := hQ G' a' w' r f ft rg m d g
  cases ex <;> exact this
theorem rq_seq {x y : Code} (h : Rq P nt W x t H n .nx t1 H1 n1) (k : Rq P nt W y t1 H1 n1 ex t' H' n') : Rq P nt W (.seq x y) t H n ex t' H' n' := by
  intro G a w hR hr hn hg Q hQ
  refine wp_seq (h G a w hR hr hn hg _ fun G1 a1 w1 r1 f1 ft1 rg1 m1 d1 g1 => ?_)
  refine k G1 a1 w1 r1 rg1 m1 g1 Q fun G2 a2 w2 r2 f2 ft2 rg2 m2 d2 g2 => hQ G2 a2 w2 r2 ?_ (fun b hb => ?_) rg2 m2 (d2.trans d1) g2
  · exact f1.trans f2 fun j hj hs => (ft1 j hs).resolve_right (by omega)
  · rcases ft2 b hb with q | q
    · exact ft1 b q
    · exact .inr (Nat.le_trans f1.size q)
theorem rqK_seq {a b : K} (h : RqK P nt W a t H n .nx t1 H1 n1) (k : RqK P nt W b t1 H1 n1 ex t' H' n') : RqK P nt W (.seq a b) t H n ex t' H' n' := by
  intro c
  induction c with
  | seq x y _ _ =>
    intro hc
    have hc : K.seq (comp P nt W x) (comp P nt W y) = .seq a b := hc
    cases hc
    exact rq_seq (h x rfl) (k y rfl)
  | scope x ih => intro hc; exact rq_scope (ih hc)
  | region id ops draw =>
    intro hc
    have hc : kReg (cReg P nt W ops draw) = .seq a b := hc
    rcases kReg_shape (cReg P nt W ops draw) with ⟨_, q⟩ | ⟨_, q⟩ | q <;> rw [q] at hc <;> cases hc
  | cond c x y _ _ =>
    intro hc
    have hc : kCond (cOd ⟨nt, W, []⟩ c) (comp P nt W x) (comp P nt W y) = .seq a b := hc
    rcases kCond_shape (cOd ⟨nt, W, []⟩ c) (comp P nt W x) (comp P nt W y) with ⟨_, q⟩ | q <;> rw [q] at hc <;> cases hc
  | _ => intro hc; cases hc
/-- a loop, round by round -/
def Rounds (P : Program) (nt : Nat) (W : List Nat) (k : K) (ex : Ex) (t' : T8 V) (H' : HT) (n' : Nat) : Nat → T8 V → HT → Nat → Prop
  | 0, _, _, _ => False
  | j + 1, t, H, n => (∃ t1 H1 n1, RqK P nt W k t H n .nx t1 H1 n1 ∧ Rounds P nt W k ex t' H' n' j t1 H1 n1) ∨ (ex ≠ .nx ∧ RqK P nt W k t H n ex t' H' n')
theorem rq_loop {x : Code} {k : K} (hk : comp P nt W x = k) {m : Nat} (h : Rounds P nt W k ex t' H' n' m t H n) : Rq P nt W (.loop x) t H n ex t' H' n' := by
  intro G a w hR hr hn hg Q hQ
  refine wp_loop_n (fun j a1 w1 => ∃ t1 H1 n1 G1, Rounds P nt W k ex t' H' n' j t1 H1 n1 ∧ R G1 (hp H1) w1 ∧ Fr (Foot G (hp H)) w w1 ∧ (∀ b, Foot G1 (hp H1) b → Foot G (hp H) b ∨ w.heap.size ≤ b) ∧ RegOk ⟨nt, W, []⟩ G1 ⟨t1, []⟩ a1 ∧ a1.tmps.size = nt ∧ a1.defers = a.defers ∧ (∀ j, n1 ≤ j → G1 j = none)) ?_ ?_ (j := m) ⟨t, H, n, G, h, hR, Fr.refl _ _, fun _ => .inl, hr, hn, rfl, hg⟩
  · rintro a1 w1 ⟨t1, H1, n1, G1, h1, _⟩
    exact h1
  · rintro j a1 w1 ⟨t1, H1, n1, G1, h1, r1, f1, ft1, rg1, m1, d1, g1⟩
    have tr : ∀ {G2 : Gh} {H2 : HT} {w2 : World}, Fr (Foot G1 (hp H1)) w1 w2 → (∀ b, Foot G2 (hp H2) b → Foot G1 (hp H1) b ∨ w1.heap.size ≤ b) → Fr (Foot G (hp H)) w w2 ∧ ∀ b, Foot G2 (hp H2) b → Foot G (hp H) b ∨ w.heap.size ≤ b := fun f2 ft2 =>
      ⟨f1.trans f2 fun j hj hs => (ft1 j hs).resolve_right (by omega), fun b hb => by
        rcases ft2 b hb with q | q
        · exact ft1 b q
        · exact .inr (Nat.le_trans f1.size q)⟩
    rcases h1 with ⟨t2, H2, n2, h2, h3⟩ | ⟨h2, h3⟩
    · refine h2 x hk G1 a1 w1 r1 rg1 m1 g1 _ fun G2 a2 w2 r2 f2 ft2 rg2 m2 d2 g2 => ?_
      obtain ⟨q1, q2⟩ := tr f2 ft2
      exact ⟨t2, H2, n2, G2, h3, r2, q1, q2, rg2, m2, d2.trans d1, g2⟩
    · refine h3 x hk G1 a1 w1 r1 rg1 m1 g1 _ fun G2 a2 w2 r2 f2 ft2 rg2 m2 d2 g2 => ?_
      obtain ⟨q1, q2⟩ := tr f2 ft2
      have := hQ G2 a2 w2 r2 q1 q2 rg2 m2 (d2.trans d1) g2
      cases ex with
      | nx => exact absurd rfl h2
      | ex id => exact this
      | rt => exact this
theorem rqK_loop {k : K} {m : Nat} (h : Rounds P nt W k ex t' H' n' m t H n) : RqK P nt W (.loop k) t H n ex t' H' n' := by
  intro c
  induction c with
  | loop x _ =>
    intro hc
    have hc : K.loop (comp P nt W x) = .loop k := hc
    cases hc
    exact rq_loop rfl h
  | scope x ih => intro hc; exact rq_scope (ih hc)
  | region id ops draw =>
    intro hc
    have hc : kReg (cReg P nt W ops draw) = .loop k := hc
    rcases kReg_shape (cReg P nt W ops draw) with ⟨_, q⟩ | ⟨_, q⟩ | q <;> rw [q] at hc <;> cases hc
  | cond c x y _ _ =>
    intro hc
    have hc : kCond (cOd ⟨nt, W, []⟩ c) (comp P nt W x) (comp P nt W y) = .loop k := hc
    rcases kCond_shape (cOd ⟨nt, W, []⟩ c) (comp P nt W x) (comp P nt W y) with ⟨_, q⟩ | q <;> rw [q] at hc <;> cases hc
  | _ => intro hc; cases hc
/-- a block: who leaves by its number goes on behind it -/
def exB (id : Nat) : Ex → Ex
  | .ex i => cnd (Nat.beq i id) .nx (.ex i)
  | e => e
theorem rqK_blk {id : Nat} {k : K} (h : RqK P nt W k t H n ex t' H' n') : RqK P nt W (.blk id k) t H n (exB id ex) t' H' n' := by
  intro c
  induction c with
  | block i x _ =>
    intro hc
    have hc : K.blk i (comp P nt W x) = .blk id k := hc
    cases hc
    intro G a w hR hr hn hg Q hQ
    refine wp_block (h x rfl G a w hR hr hn hg _ fun G' a' w' r f ft rg m d g => ?_)
    have hq := hQ G' a' w' r f ft rg m d g
    cases ex with
    | nx => exact hq
    | rt => exact hq
    | ex id' =>
      show (if id' = id then Q .normal a' w' else Q (.exit id') a' w')
      have hq : Q (exOf (cnd (Nat.beq id' id) .nx (.ex id'))) a' w' := hq
      cases hb : Nat.beq id' id with
      | true => rw [hb] at hq; rw [if_pos (nbeq_eq hb)]; exact hq
      | false => rw [hb] at hq; rw [if_neg (Nat.ne_of_beq_eq_false hb)]; exact hq
  | scope x ih => intro hc; exact rq_scope (ih hc)
  | region id' ops draw =>
    intro hc
    have hc : kReg (cReg P nt W ops draw) = .blk id k := hc
    rcases kReg_shape (cReg P nt W ops draw) with ⟨_, q⟩ | ⟨_, q⟩ | q <;> rw [q] at hc <;> cases hc
  | cond c x y _ _ =>
    intro hc
    have hc : kCond (cOd ⟨nt, W, []⟩ c) (comp P nt W x) (comp P nt W y) = .blk id k := hc
    rcases kCond_shape (cOd ⟨nt, W, []⟩ c) (comp P nt W x) (comp P nt W y) with ⟨_, q⟩ | q <;> rw [q] at hc <;> cases hc
  | _ => intro hc; cases hc
def runL (call : CallT) (l : List K) : RunT := List.rec (motive := fun _ => RunT) (fun t H n => .ok .nx t H n) (fun a _ ih t H n => seqO ih (runK call a t H n)) l
end
/-- a run's end, its heap named anew -/
def gcO (g : List Nat) (r : Ot) : Option (T8 V × HT) := Ot.rec none (fun e t H _ => Ex.rec (gc g t H) (fun _ => none) none e) r
theorem gcO_ok {g : List Nat} {r : Ot} {t' : T8 V} {H' : HT} (h : gcO g r = some (t', H')) : ∃ t H n, r = .ok .nx t H n ∧ gc g t H = some (t', H') := by
  cases r with
  | no => cases h
  | ok e t H n =>
    cases e with
    | nx => exact ⟨t, H, n, rfl, h⟩
    | _ => cases h
/-- what comes back and is true -/
def okR (rs : List RV) (r : Ot) : Bool := okB' (Ot.rec Rs.no (retE rs) r)
 where okB' (r : Rs) : Bool := Rs.rec false (fun v _ _ => V.rec (fun x => Sc.rec false (fun b => b) (fun _ _ => false) (fun _ _ => false) false (fun _ _ => false) false (fun _ _ _ _ _ => false) (fun _ _ _ _ _ => false) false false (fun _ => false) false (fun _ _ => false) false (fun _ _ _ _ => false) x) (fun _ => false) (fun _ => false) v) r
theorem okR_ok {rs : List RV} {r : Ot} (h : okR rs r = true) : ∃ ex t H n, r = .ok ex t H n ∧ retE rs ex t H n = .ok (.c (.b true)) H n := by
  cases r with
  | no => cases h
  | ok ex t H n =>
    refine ⟨ex, t, H, n, rfl, ?_⟩
    have h : okR.okB' (retE rs ex t H n) = true := h
    have key : ∀ v H' n', retE rs ex t H n = .ok v H' n' → H' = H ∧ n' = n := by
      intro v H' n' q
      have q : (match ex with | .ex _ => Rs.no | _ => retV rs ⟨t, []⟩ H n) = .ok v H' n' := q
      have q : retV rs ⟨t, []⟩ H n = .ok v H' n' := by
        cases ex with
        | ex id => cases q
        | nx => exact q
        | rt => exact q
      unfold retV at q
      split at q
      · split at q
        · cases q; exact ⟨rfl, rfl⟩
        · cases q
      · cases q
    cases hr : retE rs ex t H n with
    | no => rw [hr] at h; cases h
    | ok v H1 n1 =>
      rw [hr] at h
      obtain ⟨rfl, rfl⟩ := key _ _ _ hr
      cases v with
      | c x =>
        cases x with
        | b b =>
          have h : b = true := h
          rw [h]
        | _ => cases h
      | _ => cases h
end
end Ev
end Go.Proofs.YtcchekmejnhlmaaGreat
namespace Go.Proofs.YtcchekmejnhlmaaGreat
namespace Ev
open Go.RowKit
noncomputable section
def yI (n : Nat) : Sc := .i .i64 (.ofNat n)
def yJ (n : Nat) : Sc := .i .u64 (.ofNat n)
def yK (n : Nat) : Od := .k (.c (.i .i64 (.ofNat n)))
def yV (x : Sc) : Od := .k (.c x)
def yu : Ins := .u (.l (.ld false 1 (.s 0))) none true
def yP (x : PO) : Ins := .u (.p x) none true
def yW (x : PO) (j : Nat) : Ins := .u (.p x) (some j) true
def yL' (x : LO) : Ins := .u (.l x) none true
def yA (x : AO) : Ins := .u (.a x) none true
def yE (x : EO) : Ins := .u (.e x) none true
def yF (x : EO) : Ins := .u (.e x) none false
def yS (f : Nat) (l : List Od) : Ins := .u (.cs f l) none true
def yR (f : Nat) (l : List Od) (j : Nat) : Ins := .u (.cs f l) (some j) true
def yM (j i : Nat) : Ins := .u (.p (.mv (.s j))) (some i) true
def yf (o j : Nat) : Ins := .u (.p (.fad o (.s j))) none true
def yg (o j : Nat) : Ins := .u (.p (.fad o (.r j))) none true
def yx (i j : Nat) : Ins := .u (.p (.ext (.s i) j)) none true
def yG (i : Nat) (b : Bool) (x : PO) : Ins := .g (.s i) b (.p x) none true
def yH (i : Nat) (b : Bool) (x : LO) : Ins := .g (.s i) b (.l x) none true
def yD (x : Ins) : DIns := ⟨x, 0⟩
def yT (x : Ins) : K := .s [x]
def yz (n : Nat) : List Sc := Nat.rec [] (fun _ l => .i .i64 (.ofNat 0) :: l) n
def ll (n : Nat) : T8 Sc := .l (.i .i64 (.ofNat n))
def n1 {α : Type} (a : T8 α) : T8 α := .n a .z .z .z .z .z .z .z
def n2 {α : Type} (a b : T8 α) : T8 α := .n a b .z .z .z .z .z .z
def n3 {α : Type} (a b c : T8 α) : T8 α := .n a b c .z .z .z .z .z
def n4 {α : Type} (a b c d : T8 α) : T8 α := .n a b c d .z .z .z .z
def n5 {α : Type} (a b c d e : T8 α) : T8 α := .n a b c d e .z .z .z
def n6 {α : Type} (a b c d e f : T8 α) : T8 α := .n a b c d e f .z .z
def yr (n : Nat) (x : Bool) (d : Nat) (t : T8 Sc) : Ob := .row n x d .u t
def ya (n : Nat) (l : List Sc) : List Sc := Nat.rec l (fun _ l => .i .i64 (.ofNat 0) :: l) n
def i0 : Sc := .i .i64 (.ofNat 0)
def e0 : Sc := .s 0 0
def yl : LO := .ld false 1 (.s 0)
def bV : Od := .k (.c (.b false))
def bW : Od := .k (.c (.b true))
def lF : T8 V := .l (.c (.b false))
def lT : T8 V := .l (.c (.b true))
def mm (n : Nat) : T8 Sc := n1 (ll n)
def m0 : T8 Sc := n1 (ll 0)
def le : T8 Sc := .l (.s 0 0)
def me : T8 Sc := n1 le
def ls : T8 Sc := .l (.s 1 115)
def s0 : Od := .s 0
def s1 : Od := .s 1
def s2 : Od := .s 2
def s3 : Od := .s 3
def s4 : Od := .s 4
def s5 : Od := .s 5
def s6 : Od := .s 6
def s7 : Od := .s 7
def o0 : Od := .r 0
def o1 : Od := .r 1
def o2 : Od := .r 2
def o3 : Od := .r 3
def o4 : Od := .r 4
def o5 : Od := .r 5
def o6 : Od := .r 6
def o7 : Od := .r 7
def o8 : Od := .r 8
def o9 : Od := .r 9
def o10 : Od := .r 10
def o11 : Od := .r 11
def o12 : Od := .r 12
def o13 : Od := .r 13
def o14 : Od := .r 14
def o15 : Od := .r 15
def o16 : Od := .r 16
def o17 : Od := .r 17
def o18 : Od := .r 18
def o19 : Od := .r 19
def o20 : Od := .r 20
def o21 : Od := .r 21
def o22 : Od := .r 22
end
end Ev
end Go.Proofs.YtcchekmejnhlmaaGreat
namespace Go.Proofs.YtcchekmejnhlmaaGreat
end Go.Proofs.YtcchekmejnhlmaaGreat
namespace Go.Proofs.YtcchekmejnhlmaaGreat
open Go.RowKit
set_option linter.unusedVariables false
end Go.Proofs.YtcchekmejnhlmaaGreat
namespace Go.Proofs.YtcchekmejnhlmaaGreat
open Go.RowKit
set_option linter.unusedVariables false
theorem flip_of (b : UInt8) : ∃ d : UInt8, d ≠ b ∧ bits .xor .u8 (b.toNat : Int) 1 = (d.toNat : Int) := by
  obtain ⟨d, h1, h2⟩ := turn_of 0 b
  rw [show wrap64 (1 + wrap64 ((IntKind.u64.wrap 0).tmod 255)) % 256 = 1 from by simp [wrap64, IntKind.wrap, IntKind.bits, IntKind.signed]] at h2
  exact ⟨d, h1, h2⟩
set_option maxRecDepth 100000 in
theorem u_turn (s : ByteArray) (i bb wb : Nat) (w : World) (hi : i < s.size) (hs : s.size ≤ 65536) (hbt : bb < w.heap.size) (hwt : wb < w.heap.size) (hb : w.cell? ⟨bb, 0, none⟩ = some (.int .i64 (i : Int))) (hw : w.cell? ⟨wb, 0, none⟩ = some (.int .i64 1)) :
    Calls Tryz.prog 239 #[.string s, .pointer (some ⟨bb, 0, none⟩), .pointer (some ⟨wb, 0, none⟩)] w fun e w' => ∃ d : UInt8, d ≠ s[i] ∧ e = .returned (.string (turned s i d)) ∧ Below w.heap.size w w' := by
  have hcv := to_bytes (P := Tryz.prog) 9 127 5 Tryz.underlying9 Tryz.underlying127 Tryz.underlying5 s
  obtain ⟨d, hd, hx⟩ := flip_of s[i]
  have hcell := fun cap => bytes_cell w 5 s cap i hi
  have hfro := fun cap => bytes_frozen w 5 s cap i hi
  have hback : ∀ c, (convert 127 9 (.slice (some ⟨w.heap.size, 0, .none⟩) s.size c)).run Tryz.prog ((w.alloc (bytesObj 5 s c)).setCell ⟨w.heap.size, i, .none⟩ (.int .u8 (d.toNat : Int))).drew.drew = .ok (.string (turned s i d)) ((w.alloc (bytesObj 5 s c)).setCell ⟨w.heap.size, i, .none⟩ (.int .u8 (d.toNat : Int))).drew.drew :=
    fun c => from_turned (P := Tryz.prog) 127 9 5 Tryz.underlying127 Tryz.underlying5 Tryz.underlying9 s i d hi c c w.drew.drew
  have hal : ∀ o, Below w.heap.size w (w.alloc o) := fun o => (Below.refl _ w).alloc (Nat.le_refl _) o
  have hbb : ∀ o, (w.alloc o).cell? ⟨bb, 0, none⟩ = some (.int .i64 (i : Int)) := fun o => ((hal o).cell (p := ⟨bb, 0, none⟩) hbt).trans hb
  have hww : ∀ o, (w.alloc o).cell? ⟨wb, 0, none⟩ = some (.int .i64 1) := fun o => ((hal o).cell (p := ⟨wb, 0, none⟩) hwt).trans hw
  have Hd := Lib.hid hd
  have Hal := Lib.hid hal
  clear hd hal hb hw
  have hi' : (i : Int) < (s.size : Int) := by omega
  go_enter Tryz.func239, Tryz.ntmps239
  go_wp2_with fail
  go_region
  go_wp2_with fail
  go_ret
  refine ⟨d, Hd.out, rfl, ?_⟩
  have hb := (Hal.out (bytesObj 5 s (grownCap w s.size 0 5))).setCell (p := ⟨w.heap.size, i, none⟩) (Nat.le_refl _) (.int .u8 (d.toNat : Int))
  exact ⟨hb.os, hb.tape, hb.output, hb.size, hb.block⟩
theorem zero_strE (w : World) : (zeroValue 9).run Tryz.prog w = .ok (.string ⟨#[]⟩) w := by
  have h : (Tryz.prog.info? 9).map (fun i => i.zero) = some (some (.string ⟨#[]⟩)) := by kernel_rfl
  obtain ⟨i, hi, hz⟩ := Option.map_eq_some_iff.1 h
  simp [zeroValue, typeInfo, hi, hz]
/-- nothing is found in a map without entries -/
theorem lku_none {W : World} {bf clock : Nat} (h : W.heap[bf]? = some (.map #[] clock)) (k : Nat) : (Instr.lookup 130 (.map (some bf)) (.int .i64 (k : Int)) true).run Tryz.prog W = .ok (.tuple #[.string ⟨#[]⟩, .bool false]) W := by
  have hik : Ev.IsK true (.int .i64 (k : Int)) := ⟨_, _, rfl⟩
  rcases findNow_int (d := .int .i64) rfl k ([] : List MapEntry) 0 (fun e he => by cases he) with ⟨q1, q2⟩ | ⟨j, e0, q0, qk, q1⟩
  · rw [Ev.lookup_run (ok := true) (fn := none) Tryz.underlying130 Tryz.underlying3 rfl hik (.inr ⟨bf, clock, #[], rfl, h, rfl⟩) q1 (zero_strE W)]
    rfl
  · cases q0
set_option maxRecDepth 100000 in
set_option maxHeartbeats 1000000 in
/-- the block b is turned at byte i -/
theorem u_damage (bd bl bf clock lo len cap b i : Nat) (s : ByteArray) (va : Array Value) (vel : TypeId) (vfz : Nat × Nat) (la : Array Value) (lel : TypeId) (lfz : Nat × Nat) (w : World)
    (hne : bd ≠ bl) (hd : w.heap[bd]? = some (.cells va vel vfz)) (hds : 4 ≤ va.size) (h0 : va.getD 0 undef = .slice (some ⟨bl, lo, none⟩) len cap) (h1 : va.getD 1 undef = .map (some bf))
    (hf : w.heap[bf]? = some (.map #[] clock)) (hl : w.heap[bl]? = some (.cells la lel lfz)) (hb : b < len) (hcap : len ≤ cap) (hcap2 : cap ≤ 1000000) (hlb : lo + b < la.size) (hls : la.getD (lo + b) undef = .string s) (hfz : ¬ (lfz.1 ≤ lo + b ∧ lo + b < lfz.2)) (hs : s.size = 64) (hi : i < 64) :
    Calls Tryz.prog 184 #[.pointer (some ⟨bd, 0, none⟩), .int .i64 (b : Int), .int .i64 (i : Int), .int .i64 1] w fun e w' => ∃ (d : UInt8) (W : World), d ≠ s[i]'(by omega) ∧ e = .returned (.int .i64 0) ∧ Below w.heap.size w W ∧ w' = W.setCell ⟨bl, lo + b, none⟩ (.string (turned s i d)) := by
  have hdt : bd < w.heap.size := (Array.getElem?_eq_some_iff.1 hd).1
  have hft : bf < w.heap.size := (Array.getElem?_eq_some_iff.1 hf).1
  have hlt : bl < w.heap.size := (Array.getElem?_eq_some_iff.1 hl).1
  have cells : ∀ W : World, Below w.heap.size w W → W.cell? ⟨bd, 0, none⟩ = some (.slice (some ⟨bl, lo, none⟩) len cap) ∧ W.cell? ⟨bd, 1, none⟩ = some (.map (some bf)) ∧ W.heap[bf]? = some (.map #[] clock) ∧ W.cell? ⟨bl, lo + b, none⟩ = some (.string s) ∧ W.frozen? ⟨bl, lo + b, none⟩ = false := fun W h => by
    have hd' : W.heap[bd]? = some (.cells va vel vfz) := (h.block bd hdt).trans hd
    have hl' : W.heap[bl]? = some (.cells la lel lfz) := (h.block bl hlt).trans hl
    refine ⟨?_, ?_, (h.block bf hft).trans hf, ?_, ?_⟩
    · rw [cell_getD hd' (by omega), h0]
    · rw [cell_getD hd' (by omega), h1]
    · rw [cell_getD hl' (by omega), hls]
    · exact Ev.frozen_at hl' hfz
  have b2 : Below w.heap.size w ((w.alloc (.cells #[.int .i64 (i : Int)] 3)).alloc (.cells #[.int .i64 1] 3)) := ((Below.refl _ w).alloc (Nat.le_refl _) _).alloc (by simp) _
  obtain ⟨W2, hW2⟩ : ∃ W2, (w.alloc (.cells #[.int .i64 (i : Int)] 3)).alloc (.cells #[.int .i64 1] 3) = W2 := ⟨_, rfl⟩
  have hsz : w.heap.size + 2 = W2.heap.size := by rw [← hW2]; simp
  have e0 : W2.cell? ⟨w.heap.size, 0, none⟩ = some (.int .i64 (i : Int)) := by
    rw [← hW2]
    exact ((Blk.new w 3 #[.int .i64 (i : Int)]).alloc (.cells #[.int .i64 1] 3)).cell 0
  have e1 : W2.cell? ⟨w.heap.size + 1, 0, none⟩ = some (.int .i64 1) := by
    rw [← hW2]
    have := (Blk.new (w.alloc (.cells #[.int .i64 (i : Int)] 3)) 3 #[.int .i64 1]).cell 0
    rw [World.size_alloc] at this
    exact this
  have hT := u_turn s i w.heap.size (w.heap.size + 1) W2.drew (by omega) (by omega) (by show _ < W2.heap.size; omega) (by show _ < W2.heap.size; omega) e0 e1
  rw [hW2] at b2
  obtain ⟨c0, c1, m1, cs, fs⟩ := cells _ b2
  have hfl0 : bf ≠ bl := fun q => by rw [q, hl] at hf; cases hf
  have HNE := Lib.hid hfl0
  clear hfl0
  have HT := Lib.hid hT
  have HC := Lib.hid cells
  have Hb2 := Lib.hid b2
  have Hsz := Lib.hid hsz
  clear hd hds h0 h1 hf hl hlb hls hfz cells b2 hsz hT
  have hbl : (b : Int) < (len : Int) := by omega
  have hi2 : (i : Int) < 64 := by omega
  have hb0 : (0 : Int) ≤ (b : Int) := by omega
  go_enter Tryz.func184, Tryz.ntmps184
  have c0a := c0
  have e0a := e0
  have e1a := e1
  rw [← hW2] at c0a e0a e1a
  go_wp2_with fail
  clear c0a e0a e1a hW2
  go_region_with (first | (go_at_call 239; refine HT.out.mono ?_; rintro e w7 ⟨d, hd, rfl, hb7⟩; have hB7 : Hid (Below w.heap.size w w7) := Lib.hid (Hb2.out.drew.trans (hb7.mono (by show _ ≤ W2.heap.size; have := Hsz.out; omega))); obtain ⟨c70, c71, m71, cs7, fs7⟩ := HC.out w7 hB7.out; have Hd := Lib.hid hd; clear hd hb7))
  all_goals
    have hfl : bf ≠ bl := HNE.out
    obtain ⟨W8, hW8⟩ : ∃ W8, w7.setCell ⟨bl, lo + b, none⟩ (.string (turned s i d)) = W8 := ⟨_, rfl⟩
    have m8 : W8.heap[bf]? = some (.map #[] clock) := by rw [← hW8, Below.heap_setCell _ _ _ _ hfl]; exact m71
    have c8 : W8.cell? ⟨bd, 1, none⟩ = some (.map (some bf)) := by rw [← hW8, World.cell?_setCell_other _ _ _ _ (fun h => hne ((Addr.mk.inj h).1).symm)]; exact c71
    rw [hW8]
    have hlk := lku_none m8 b
    have HW8 := Lib.hid hW8
    clear hW8
    go_wp2_with fail
    go_ret
    exact ⟨d, w7, Hd.out, rfl, hB7.out, HW8.out.symm⟩
end Go.Proofs.YtcchekmejnhlmaaGreat
namespace Go.Proofs.YtcchekmejnhlmaaGreat
open Go.RowKit
set_option linter.unusedVariables false
/-- what lies where a block is to be turned: the vault in bv, its disk, the block's text s in the row bl -/
structure RotAt (w : World) (bv bd bl lo b gb ob qi : Nat) (s : ByteArray) : Prop where
  vd : w.cell? ⟨bv, 0, none⟩ = some (.pointer (some ⟨bd, 0, none⟩)) ∧ bv < w.heap.size
  ne : bd ≠ bl
  dk : ∃ (bf clock len cap : Nat) (va : Array Value) (vel : TypeId) (vfz : Nat × Nat), w.heap[bd]? = some (.cells va vel vfz) ∧ 4 ≤ va.size ∧ va.getD 0 undef = .slice (some ⟨bl, lo, none⟩) len cap ∧ va.getD 1 undef = .map (some bf) ∧ w.heap[bf]? = some (.map #[] clock) ∧ b < len ∧ len ≤ cap ∧ cap ≤ 1000000
  ls : ∃ (la : Array Value) (lel : TypeId) (lfz : Nat × Nat), w.heap[bl]? = some (.cells la lel lfz) ∧ lo + b < la.size ∧ la.getD (lo + b) undef = .string s ∧ ¬ (lfz.1 ≤ lo + b ∧ lo + b < lfz.2)
  sz : s.size = 64
  bk : w.cell? ⟨gb, ob + qi, none⟩ = some (.int .i64 (b : Int)) ∧ gb < w.heap.size
set_option maxRecDepth 100000 in
set_option maxHeartbeats 1000000 in
theorem u_rot (FP : World → Nat → Nat → Nat → ByteArray → Prop) (bv r k0 qd md : Nat) (w : World) (hq : (k0 : Int).tdiv 64 = (qd : Int)) (hm : (k0 : Int).tmod 64 = (md : Int)) (hmd : md < 64)
    (hf : Calls Tryz.prog 129 #[.pointer (some ⟨bv, 0, none⟩), .int .i64 (r : Int)] w fun e w1 => ∃ (n k cb gb ob bd bl lo b : Nat) (q : Int) (s : ByteArray), e = .returned (.tuple #[.agg #[.int .i64 (n : Int), .int .u64 q, .slice (some ⟨gb, ob, none⟩) k cb], .int .i64 0]) ∧ k0 < n ∧ n ≤ 1000000 ∧ qd < k ∧ RotAt w1 bv bd bl lo b gb ob (qd) s ∧ FP w1 bl lo b s) :
    Calls Tryz.prog 123 #[.pointer (some ⟨bv, 0, none⟩), .int .i64 (r : Int), .int .i64 (k0 : Int)] w fun e w' => ∃ (w1 W : World) (bl lo b : Nat) (s : ByteArray) (d : UInt8), FP w1 bl lo b s ∧ Below w1.heap.size w1 W ∧ (∃ h : md < s.size, d ≠ s[md]) ∧ w' = W.setCell ⟨bl, lo + b, none⟩ (.string (turned s (md) d)) ∧ e = .returned (.int .i64 0) := by
  have HF := Lib.hid hf
  clear hf
  go_enter Tryz.func123, Tryz.ntmps123
  go_wp2_with fail
  refine HF.out.mono ?_
  rintro e w1 ⟨n, k, cb, gb, ob, bd, bl, lo, b, q, s, rfl, hn, hn1, hk, hR, hFP⟩
  obtain ⟨hvd, hvt⟩ := hR.vd
  obtain ⟨hbk, hbt⟩ := hR.bk
  obtain ⟨bf, clock, len, cap, va, vel, vfz, d1, d2, d3, d4, d5, d6, d7, d8⟩ := hR.dk
  obtain ⟨la, lel, lfz, l1, l2, l3, l4⟩ := hR.ls
  have hne := hR.ne
  have hsz := hR.sz
  have b3 : Below w1.heap.size w1 (w1.alloc (.cells #[.int .i64 (n : Int), .int .u64 q, .slice (some ⟨gb, ob, none⟩) k cb] 179)) := (Below.refl _ w1).alloc (Nat.le_refl _) _
  have bX := Blk.new w1 179 #[.int .i64 (n : Int), .int .u64 q, .slice (some ⟨gb, ob, none⟩) k cb]
  have hFP := Lib.hid hFP
  have hk0 : (k0 : Int) < (n : Int) := by omega
  have cell2 : ∀ p : Addr, p.block < w1.heap.size → (w1.alloc (.cells #[.int .i64 (n : Int), .int .u64 q, .slice (some ⟨gb, ob, none⟩) k cb] 179)).cell? p = w1.cell? p := fun p hp => b3.cell hp
  obtain ⟨W2, hW2⟩ : ∃ W2, w1.alloc (.cells #[.int .i64 (n : Int), .int .u64 q, .slice (some ⟨gb, ob, none⟩) k cb] 179) = W2 := ⟨_, rfl⟩
  rw [hW2] at b3 bX cell2
  have HW2 := Lib.hid hW2
  have x0 := bX.cell 0
  have x2 := bX.cell 2
  have v0 := (cell2 ⟨bv, 0, none⟩ hvt).trans hvd
  have g0 := (cell2 ⟨gb, ob + qd, none⟩ hbt).trans hbk
  have x0a := x0
  rw [← hW2] at x0a
  have hbd := (Array.getElem?_eq_some_iff.1 d1).1
  have hbf := (Array.getElem?_eq_some_iff.1 d5).1
  have hbl := (Array.getElem?_eq_some_iff.1 l1).1
  have hD := u_damage bd bl bf clock lo len cap b md s va vel vfz la lel lfz W2.drew hne ((b3.block bd hbd).trans d1) d2 d3 d4 ((b3.block bf hbf).trans d5) ((b3.block bl hbl).trans l1) d6 d7 d8 l2 l3 l4 hsz (by omega)
  have HD := Lib.hid hD
  have Hb3 := Lib.hid b3
  have Hsz := Lib.hid hsz
  have hk1 : (qd : Int) < (k : Int) := by omega
  clear hD b3 d1 d3 d4 d5 l1 l3 l4 cell2 bX hR hvd hbk hW2 hn hk
  go_wp2_with fail
  rw [HW2.out]
  clear x0a
  have hqn : (0 : Int) ≤ (qd : Int) := by omega
  have hqB : (qd : Int) ≤ 1000000 := by
    have : (k0 : Int).tdiv 64 = (k0 : Int) / 64 := Int.tdiv_eq_ediv_of_nonneg (by omega)
    omega
  have hwq : IntKind.i64.wrap (qd : Int) = (qd : Int) := by simp [IntKind.wrap, IntKind.bits, IntKind.signed]; omega
  have hwm : IntKind.i64.wrap (md : Int) = (md : Int) := by simp [IntKind.wrap, IntKind.bits, IntKind.signed]; omega
  have hq2 : (k0 : Int) / 64 = (qd : Int) := by rw [← hq, Int.tdiv_eq_ediv_of_nonneg (by omega)]
  have hm2 : (k0 : Int) % 64 = (md : Int) := by rw [← hm, Int.tmod_eq_emod_of_nonneg (by omega)]
  go_region_with (first | (go_at_call 184; refine HD.out.mono ?_; rintro e w7 ⟨d, W7, hd, rfl, hb7, hw7⟩; have Hd := Lib.hid hd; have Hw7 := Lib.hid hw7; have Hb7 := Lib.hid hb7; clear hd hw7 hb7))
  all_goals
    go_wp2_with fail
    go_ret
    exact ⟨w1, W7, bl, lo, b, s, d, hFP.out, Hb3.out.drew.trans (Hb7.out.mono (by show _ ≤ W2.heap.size; exact Hb3.out.size)), ⟨by omega, Hd.out⟩, Hw7.out, rfl⟩
end Go.Proofs.YtcchekmejnhlmaaGreat
namespace Go.Proofs.YtcchekmejnhlmaaGreat
open Go.RowKit
set_option linter.unusedVariables false
/-- a disk whose fresh blocks are none: bd its block, bl the row of the blocks that last -/
structure DiskAt (w : World) (bd bl lo len : Nat) : Prop where
  dk : ∃ (bf clock cap : Nat) (va : Array Value) (vel : TypeId) (vfz : Nat × Nat), w.heap[bd]? = some (.cells va vel vfz) ∧ 4 ≤ va.size ∧ va.getD 0 undef = .slice (some ⟨bl, lo, none⟩) len cap ∧ va.getD 1 undef = .map (some bf) ∧ w.heap[bf]? = some (.map #[] clock)
theorem DiskAt.lt {w : World} {bd bl lo len : Nat} (h : DiskAt w bd bl lo len) : bd < w.heap.size := by
  obtain ⟨bf, clock, cap, va, vel, vfz, h1, _⟩ := h.dk
  exact (Array.getElem?_eq_some_iff.1 h1).1
theorem DiskAt.below {w w' : World} {bd bl lo len : Nat} (h : DiskAt w bd bl lo len) (hb : Below w.heap.size w w') : DiskAt w' bd bl lo len := by
  obtain ⟨bf, clock, cap, va, vel, vfz, h1, h2, h3, h4, h5⟩ := h.dk
  exact ⟨bf, clock, cap, va, vel, vfz, (hb.block bd (Array.getElem?_eq_some_iff.1 h1).1).trans h1, h2, h3, h4, (hb.block bf (Array.getElem?_eq_some_iff.1 h5).1).trans h5⟩
theorem DiskAt.cells {w : World} {bd bl lo len : Nat} (h : DiskAt w bd bl lo len) : ∃ bf clock cap, w.cell? ⟨bd, 0, none⟩ = some (.slice (some ⟨bl, lo, none⟩) len cap) ∧ w.cell? ⟨bd, 1, none⟩ = some (.map (some bf)) ∧ w.heap[bf]? = some (.map #[] clock) := by
  obtain ⟨bf, clock, cap, va, vel, vfz, h1, h2, h3, h4, h5⟩ := h.dk
  refine ⟨bf, clock, cap, ?_, ?_, h5⟩
  · rw [Ev.cell_at h1 (by omega), h3]
  · rw [Ev.cell_at h1 (by omega), h4]
set_option maxRecDepth 100000 in
set_option maxHeartbeats 1000000 in
theorem u_read (bd bl lo len b : Nat) (s : ByteArray) (w : World) (h : DiskAt w bd bl lo len) (hb : b < len) (hc : w.cell? ⟨bl, lo + b, none⟩ = some (.string s)) :
    Calls Tryz.prog 193 #[.pointer (some ⟨bd, 0, none⟩), .int .i64 (b : Int)] w fun e w' => e = .returned (.tuple #[.string s, .int .i64 0]) ∧ w' = w := by
  obtain ⟨bf, clock, cap, c0, c1, m1⟩ := h.cells
  have hlk := lku_none m1 b
  have hbl : (b : Int) < (len : Int) := by omega
  have hb0 : (0 : Int) ≤ (b : Int) := by omega
  clear h m1
  go_enter Tryz.func193, Tryz.ntmps193
  go_wp2_with fail
  go_ret2
  exact ⟨rfl, rfl⟩
def takeB (s : ByteArray) (k : Nat) : ByteArray := ⟨(s.data.toList.take k).toArray⟩
set_option maxRecDepth 100000 in
set_option maxHeartbeats 1000000 in
theorem u_blocks (bd bl lo len b k : Nat) (s : ByteArray) (w : World) (h : DiskAt w bd bl lo len) (hb : b < len) (hblt : bl < w.heap.size) (hc : w.cell? ⟨bl, lo + b, none⟩ = some (.string s)) (hs : s.size = 64) (hk : 1 ≤ k) (hk2 : k ≤ 64) (hlen : len ≤ 1000000) :
    Calls Tryz.prog 131 #[.pointer (some ⟨bd, 0, none⟩), .int .i64 (b : Int), .int .i64 (k : Int)] w fun e w' => e = .returned (.string (takeB s k)) ∧ Below w.heap.size w w' := by
  obtain ⟨i0, hi, hz0, hz1, hz2⟩ := info_parts info_u8
  have hmk := run_make_rowN (P := Tryz.prog) 127 5 i0 _ Tryz.underlying127 hi hz0 .i64 .i64 0 (k + 64) (Nat.zero_le _) (by rw [hz2]; omega) (by omega) w
  rw [hz1] at hmk
  have hO : (w.alloc (.cells (madeCells (Value.int .u8 0).cells ((k + 64) * 1)) 5)).ownsRow w.heap.size 5 1 (.slice (some ⟨w.heap.size, 0, none⟩) 0 (k + 64)) 0 [] :=
    ⟨rfl, .inr ⟨w.heap.size, k + 64, _, rfl, Nat.le_refl _, (MapKept.heap_alloc w _).1, by omega, by unfold maxLen; omega, by simp [madeCells], by simp⟩⟩
  have hbe : Below w.heap.size w (w.alloc (.cells (madeCells (Value.int .u8 0).cells ((k + 64) * 1)) 5)) := (Below.refl _ w).alloc (Nat.le_refl _) _
  generalize (w.alloc (.cells (madeCells (Value.int .u8 0).cells ((k + 64) * 1)) 5)) = W1 at *
  have HO := Lib.hid hO
  have Hbe := Lib.hid hbe
  have HDk := Lib.hid h
  have Hc := Lib.hid hc
  clear hO hbe h hc
  have hk0 : (0 : Int) < (k : Int) := by omega
  have hkm : (k : Int) ≤ 64 := by omega
  have hbm : (b : Int) ≤ 1000000 := by omega
  rw [show ((0 : Nat) : Int) = 0 from rfl, show ((k + 64 : Nat) : Int) = (k : Int) + 64 from by omega] at hmk
  go_enter Tryz.func131, Tryz.ntmps131
  go_wp2_with fail
  go_loopw [1, 7, 8, 9] (fun at_ out _ _ wr => (Hid (out = .slice (some ⟨w.heap.size, 0, none⟩) 0 (k + 64)) ∧ at_ = .int .i64 (b : Int) ∧ Hid (wr = W1)) ∨ (∃ A c, out = .slice A 64 c ∧ Hid (wr.ownsRow w.heap.size 5 1 (.slice A 64 c) 64 (Lib.strCells s)) ∧ Hid (Below w.heap.size w wr) ∧ at_ = .int .i64 ((b : Int) + 1))) (fun _ out _ _ _ => match out with | .slice _ l _ => 64 - l | _ => 0)
  case atStart => exact .inl ⟨Lib.hid rfl, rfl, Lib.hid rfl⟩
  case round =>
    rcases hrel with ⟨ho, rfl, hw1⟩ | ⟨A, c, rfl, hown, hb1, rfl⟩
    · have e1 : _ = _ := ho.out
      subst e1
      have e2 : wr = W1 := hw1.out
      subst e2
      have hrd := u_read bd bl lo len b s wr (HDk.out.below Hbe.out) hb ((Hbe.out.cell (p := ⟨bl, lo + b, none⟩) hblt).trans Hc.out)
      have Hrd := Lib.hid hrd
      clear hrd hmk
      go_wp2_with fail
      refine Hrd.out.mono ?_
      rintro e w2 ⟨rfl, rfl⟩
      go_wp2_with (at_builtin; (refine Lib.wpList_append_own_string _ rfl _ _ 127 9 rfl w.heap.size 5 i0 Tryz.underlying127 Tryz.underlying9 hi hz0 hz1 hz2 (.slice (some ⟨w.heap.size, 0, none⟩) 0 (k + 64)) 0 [] (by rfl) HO.out s (by rfl) (by unfold maxLen; omega) (by omega) Hbe.out.size ?_); intro v' w3 hown' hgrow _)
      rw [show 0 + s.size = 64 from by omega, List.nil_append] at hown'
      obtain ⟨A3, c3, rfl, _, _⟩ := own_slice hown'
      have hb3 : Below w.heap.size w w3 := below_grown Hbe.out hgrow (fun j hj => by have : some w.heap.size = some j := hj; injection this with this; omega)
      have Ho3 := Lib.hid hown'
      have Hb3 := Lib.hid hb3
      clear hown' hgrow hb3
      go_wp2_with fail
      exact ⟨.inr ⟨A3, c3, rfl, Ho3, Hb3, rfl⟩, by simp⟩
    · obtain ⟨g, rfl, hg1, hg2⟩ := own_some hown.out (by omega)
      have hconv : ∀ cap, (convert 127 9 (.slice (some ⟨g, 0, none⟩) k cap)).run Tryz.prog wr = .ok (.string (takeB s k)) wr := fun cap => by
        have hl : (s.data.toList.take k).length = k := by
          rw [List.length_take, Array.length_toList]
          have : s.data.size = 64 := hs
          omega
        have := run_convert_bytes_back (P := Tryz.prog) wr 127 9 5 ⟨g, 0, none⟩ cap (s.data.toList.take k) Tryz.underlying127 Tryz.underlying5 Tryz.underlying9 (fun j hj => by
          rw [add_mk, Nat.zero_add]
          refine own_cell hown.out ?_
          have hj2 : j < s.data.toList.length := by rw [List.length_take] at hj; omega
          unfold Lib.strCells
          rw [List.getElem?_map, List.getElem?_eq_getElem hj2, Option.map_some, List.getElem_take])
        rw [hl] at this
        exact this
      obtain ⟨A5, c5, e5, h5, _⟩ := own_slice hown.out
      have hc5 : 64 ≤ c := by injection e5 with _ _ e6; omega
      have hnk : ¬ (64 : Int) < (k : Int) := by omega
      have hkc : (k : Int) ≤ (c : Int) := by omega
      have Hb1 := hb1
      clear hmk
      go_wp2_with fail
      go_ret
      exact ⟨rfl, Hb1.out⟩
end Go.Proofs.YtcchekmejnhlmaaGreat
namespace Go.Proofs.YtcchekmejnhlmaaGreat
open Go.RowKit
set_option linter.unusedVariables false
theorem ownF_slice {w : World} {base : Nat} {e : TypeId} {size n : Nat} {v : Value} {xs : List Value} (h : w.ownsRowF base e size v n xs) : ∃ A c, v = .slice A n c := by
  rcases h.2 with ⟨rfl, rfl⟩ | ⟨g, cap, cur, fz, rfl, _⟩
  · exact ⟨_, _, rfl⟩
  · exact ⟨_, _, rfl⟩
/-- the text of the first j blocks, n bytes at most -/
def accB (ss : List ByteArray) (n j : Nat) : ByteArray := ⟨(((ss.take j).flatMap fun s => s.data.toList).take n).toArray⟩
theorem flat64 : ∀ (ss : List ByteArray), (∀ s ∈ ss, s.size = 64) → (ss.flatMap fun s => s.data.toList).length = 64 * ss.length
  | [], _ => rfl
  | s :: ss, h => by
    rw [List.flatMap_cons, List.length_append, flat64 ss fun x hx => h x (List.mem_cons_of_mem _ hx), Array.length_toList, List.length_cons]
    have : s.data.size = 64 := h s (List.mem_cons_self ..)
    omega
theorem accB_size {ss : List ByteArray} {n j : Nat} (h : ∀ s ∈ ss, s.size = 64) (hj : j ≤ ss.length) : (accB ss n j).size = min n (64 * j) := by
  show (((ss.take j).flatMap fun s => s.data.toList).take n).toArray.size = _
  rw [List.size_toArray, List.length_take, flat64 _ (fun s hs => h s (List.mem_of_mem_take hs)), List.length_take]
  congr 2
  omega
theorem accB_step {ss : List ByteArray} {n j : Nat} (h : ∀ s ∈ ss, s.size = 64) (hj : j < ss.length) (hn : 64 * j ≤ n) : Lib.strCells (accB ss n j) ++ Lib.strCells (takeB ss[j] (min 64 (n - 64 * j))) = Lib.strCells (accB ss n (j + 1)) := by
  unfold Lib.strCells accB takeB
  simp only
  rw [← List.map_append]
  congr 1
  have hl : ((ss.take j).flatMap fun s => s.data.toList).length = 64 * j := by
    rw [flat64 _ (fun s hs => h s (List.mem_of_mem_take hs)), List.length_take]; congr 1; omega
  have hs : ss[j].data.toList.length = 64 := by rw [Array.length_toList]; exact h _ (List.getElem_mem hj)
  rw [List.take_succ_eq_append_getElem hj, List.flatMap_append, List.flatMap_cons, List.flatMap_nil, List.append_nil, List.take_append, hl]
  congr 1
  rw [Nat.min_comm, ← List.take_take, List.take_of_length_le (l := ss[j].data.toList) (by omega)]
theorem cell_same {w w' : World} {p : Addr} (h : w'.heap[p.block]? = w.heap[p.block]?) : w'.cell? p = w.cell? p := by
  unfold World.cell?; rw [h]
theorem fr_lo {S : Nat → Prop} {B : Nat} {w w' : World} (h : Ev.Fr S w w') (hS : ∀ k, k < B → ¬ S k) (hB : B ≤ w.heap.size) : Below B w w' := ⟨h.os, h.tape, h.output, h.size, fun k hk => h.block k (Nat.lt_of_lt_of_le hk hB) (hS k hk)⟩
/-- what lies where the file is read -/
structure GetAt (w : World) (bv bd bl lo len gb ob n : Nat) (bs : List Nat) (ss : List ByteArray) : Prop where
  vd : w.cell? ⟨bv, 0, none⟩ = some (.pointer (some ⟨bd, 0, none⟩)) ∧ bv < w.heap.size
  dk : DiskAt w bd bl lo len
  hbl : bl < w.heap.size ∧ len ≤ 1000000
  ls : bs.length = ss.length
  sz : ∀ s ∈ ss, s.size = 64
  hgb : gb < w.heap.size
  bk : ∀ j (h : j < bs.length) (h2 : j < ss.length), w.cell? ⟨gb, ob + j, none⟩ = some (.int .i64 (bs[j] : Int)) ∧ bs[j] < len ∧ w.cell? ⟨bl, lo + bs[j], none⟩ = some (.string ss[j])
  nn : 1 ≤ n ∧ n ≤ 64 * ss.length ∧ 64 * (ss.length - 1) < n ∧ ss.length ≤ 100000
theorem UBld.kept {w w' : World} {b : Nat} {p v : Value} {bs : List Value} (h : UBld w b p v bs) (hb : Below w.heap.size w w') : UBld w' b p v bs := by
  obtain ⟨h1, h2, h3⟩ := h
  refine ⟨(hb.block b (Array.getElem?_eq_some_iff.1 h1).1).trans h1, ⟨h2.1, ?_⟩, h3⟩
  rcases h2.2 with q | ⟨g, cap, cur, fz, q1, q2, q3, q4⟩
  · exact .inl q
  · exact .inr ⟨g, cap, cur, fz, q1, q2, (hb.block g (Array.getElem?_eq_some_iff.1 q3).1).trans q3, q4⟩
set_option maxRecDepth 100000 in
set_option maxHeartbeats 1000000 in
theorem u_getrot (GP : World → Prop) (bv r : Nat) (w : World)
    (hf : Calls Tryz.prog 129 #[.pointer (some ⟨bv, 0, none⟩), .int .i64 (r : Int)] w fun e w1 => ∃ (n cb gb ob bd bl lo len : Nat) (bs : List Nat) (ss : List ByteArray) (q : Int), e = .returned (.tuple #[.agg #[.int .i64 (n : Int), .int .u64 q, .slice (some ⟨gb, ob, none⟩) ss.length cb], .int .i64 0]) ∧ GetAt w1 bv bd bl lo len gb ob n bs ss ∧ ((Sm.hashL (accB ss n ss.length).data.toList : Nat) : Int) ≠ q ∧ GP w1) :
    Calls Tryz.prog 69 #[.pointer (some ⟨bv, 0, none⟩), .int .i64 (r : Int)] w fun e w' => ∃ w1, GP w1 ∧ Below w1.heap.size w1 w' ∧ e = .returned (.tuple #[.string ⟨#[]⟩, .int .i64 903]) := by
  have HF := Lib.hid hf
  clear hf
  go_enter Tryz.func69, Tryz.ntmps69
  go_wp2_with fail
  refine HF.out.mono ?_
  rintro e w1 ⟨n, cb, gb, ob, bd, bl, lo, len, bs, ss, q, rfl, hG, hq, hGP⟩
  have HG := Lib.hid hG
  have Hq := Lib.hid hq
  have HGP := Lib.hid hGP
  clear hG hq hGP HF
  have bX := Blk.new w1 179 #[.int .i64 (n : Int), .int .u64 q, .slice (some ⟨gb, ob, none⟩) ss.length cb]
  have hk0 := HG.out.nn.2.2.2
  have hkk : (ss.length : Int) ≤ 100000 := by omega
  go_wp2_with fail
  obtain ⟨W2, hW2⟩ : ∃ W2, (w1.alloc (.cells #[.int .i64 (n : Int), .int .u64 q, .slice (some ⟨gb, ob, none⟩) ss.length cb] 179)).alloc (.cells #[.pointer none, .slice none 0 0] 203) = W2 := ⟨_, rfl⟩
  have hU0 : UBld W2 (w1.heap.size + 1) (.pointer none) (.slice none 0 0) (Lib.strCells (accB ss n 0)) := by
    rw [← hW2]
    refine ⟨?_, ⟨by simp, .inl ⟨rfl, by simp [accB, Lib.strCells]⟩⟩, by simp [Value.ownBlock]⟩
    have := Blk.new (w1.alloc (.cells #[.int .i64 (n : Int), .int .u64 q, .slice (some ⟨gb, ob, none⟩) ss.length cb] 179)) 203 #[.pointer none, .slice none 0 0]
    rw [World.size_alloc] at this
    exact this
  have hb0 : Below w1.heap.size w1 W2 := by rw [← hW2]; exact ((Below.refl _ w1).alloc (Nat.le_refl _) _).alloc (by simp) _
  have hX2 : Blk W2 w1.heap.size 179 #[.int .i64 (n : Int), .int .u64 q, .slice (some ⟨gb, ob, none⟩) ss.length cb] := by rw [← hW2]; exact bX.alloc _
  try rw [hW2]
  have HU0 := Lib.hid hU0
  have Hb0 := Lib.hid hb0
  have HX2 := Lib.hid hX2
  have hs2 : w1.heap.size + 2 ≤ W2.heap.size := by rw [← hW2]; simp
  clear hU0 hb0 hX2 hW2 bX
  go_loopw [10, 23] (fun _ i wr => ∃ (j : Nat) (p v : Value), i = .int .i64 (j : Int) ∧ j ≤ ss.length ∧ Hid (UBld wr (w1.heap.size + 1) p v (Lib.strCells (accB ss n j))) ∧ Hid (p = .pointer none ∨ p = .pointer (some ⟨w1.heap.size + 1, 0, none⟩)) ∧ Hid (∀ g, v.ownBlock = some g → w1.heap.size + 2 ≤ g) ∧ Hid (Blk wr w1.heap.size 179 #[.int .i64 (n : Int), .int .u64 q, .slice (some ⟨gb, ob, none⟩) ss.length cb]) ∧ Hid (Below w1.heap.size w1 wr)) (fun _ i _ => ss.length - (intOf i).toNat)
  case atStart => exact ⟨0, _, _, rfl, Nat.zero_le _, HU0, Lib.hid (.inl rfl), Lib.hid (fun g hg => by cases hg), HX2, Hb0⟩
  case round =>
    obtain ⟨j, p, v, rfl, hj, HU, Hp, Hv, HX, Hb⟩ := hrel
    by_cases hlt : j < ss.length
    · have h64 := HG.out.sz
      obtain ⟨hn1, hn2, hn3, _⟩ := HG.out.nn
      have hls := HG.out.ls
      obtain ⟨q1, q2, q3⟩ := HG.out.bk j (by omega) hlt
      have hL : (accB ss n j).size = 64 * j := by rw [accB_size h64 hj]; omega
      have hsl : (Lib.strCells (accB ss n j)).length = 64 * j := by rw [Lib.strCells_length, hL]
      obtain ⟨A, c, rfl⟩ := ownF_slice HU.out.2.1
      have hstep := Lib.hid (accB_step (n := n) h64 hlt (by omega))
      obtain ⟨kk, hkkd⟩ : ∃ kk, kk = min 64 (n - 64 * j) := ⟨_, rfl⟩
      obtain ⟨L, hLd⟩ : ∃ L, L = 64 * j := ⟨_, rfl⟩
      rw [hsl, ← hLd] at HU Hv
      rw [← hkkd] at hstep
      have hk1 : 1 ≤ kk ∧ kk ≤ 64 := by omega
      have hLn : (L : Int) ≤ (n : Int) := by omega
      have hnB : (n : Int) ≤ 6400000 := by omega
      have hmn : min (64 : Int) ((n : Int) - (L : Int)) = (kk : Int) := by omega
      have hwr : IntKind.i64.wrap ((n : Int) - (L : Int)) = (n : Int) - (L : Int) := by simp [IntKind.wrap, IntKind.bits, IntKind.signed]; omega
      have hsj : ss[j].size = 64 := h64 _ (List.getElem_mem hlt)
      have hlen := u_len (w1.heap.size + 1) p A L c wr.drew HU.out.1
      have hblk := u_blocks bd bl lo len bs[j] kk ss[j] wr.drew ((HG.out.dk.below Hb.out).below ⟨rfl, rfl, rfl, Nat.le_refl _, fun _ _ => rfl⟩) q2 (Nat.lt_of_lt_of_le HG.out.hbl.1 Hb.out.size) ((Hb.out.cell (p := ⟨bl, lo + bs[j], none⟩) HG.out.hbl.1).trans q3) hsj hk1.1 hk1.2 HG.out.hbl.2
      have HLen := Lib.hid hlen
      have HWb : Hid ((Lib.strCells (accB ss n j)).length + (takeB ss[j] kk).size ≤ 140737488355328) := Lib.hid (by
        rw [hsl]
        have : (takeB ss[j] kk).size ≤ kk := by
          show (ss[j].data.toList.take kk).toArray.size ≤ kk
          rw [List.size_toArray, List.length_take]; omega
        omega)
      have HBlk := Lib.hid hblk
      have cb0 := (Hb.out.cell (p := ⟨gb, ob + j, none⟩) HG.out.hgb).trans q1
      have cv0 := (Hb.out.cell (p := ⟨bv, 0, none⟩) HG.out.vd.2).trans HG.out.vd.1
      have cn0 := HX.out.cell 0
      have hji : (j : Int) < (ss.length : Int) := by omega
      have hj0 : (0 : Int) ≤ (j : Int) := by omega
      have hL0 : (0 : Int) ≤ (L : Int) := by omega
      have Hkk := Lib.hid hkkd
      have HLd := Lib.hid hLd
      have Hsj := Lib.hid hsj
      clear hlen hblk hkkd hLd hL hsl hsj q1 q3 h64
      generalize ss[j] = sj at *
      generalize bs[j] = bj at *
      clear hls
      have HBv : Hid (bv < wr.heap.size) := Lib.hid (Nat.lt_of_lt_of_le HG.out.vd.2 Hb.out.size)
      have HBn : Hid (¬ (bv = w1.heap.size + 1 ∨ (Value.slice A L c).ownBlock = some bv)) := Lib.hid fun q => by
        have := HG.out.vd.2
        rcases q with q | q
        · omega
        · have := Hv.out _ q; omega
      have HXn : Hid (¬ (w1.heap.size = w1.heap.size + 1 ∨ (Value.slice A L c).ownBlock = some w1.heap.size)) := Lib.hid fun q => by
        rcases q with q | q
        · omega
        · have := Hv.out _ q; omega
      have hXl := (Array.getElem?_eq_some_iff.1 HX.out).1
      go_wp2_with fail
      refine wp_region_K (S := (fun W => W.cell? ⟨bv, 0, none⟩ = some (.pointer (some ⟨bd, 0, none⟩)) ∧ W.cell? ⟨w1.heap.size, 0, none⟩ = some (.int .i64 (n : Int)))) [] (by kernel_rfl) ?_ (fun hHeld => ?_)
      · exact ⟨cv0, cn0⟩
      ((refine wpAnyK_take (i := 0) (oi := ⟨some 27, _, _, _, _, _⟩) (v := ?_) rfl (by kernel_rfl) (fun _ _ _ h => h) (Or.inl ⟨by rfl, ?_⟩) (by assumption) ?_); rotate_left 1; (focus (intro w hSw; (try dsimp only at hSw); go_simp; (try with_reducible rfl); done)); (try simp only [Act.put, List.setIfInBounds_toArray, List.set_cons_zero, List.set_cons_succ]))
      ((refine wpAnyK_take (i := 1) (oi := ⟨some 28, _, _, _, _, _⟩) (v := ?_) rfl (by kernel_rfl) (fun _ _ _ h => h) (Or.inl ⟨by rfl, ?_⟩) (by assumption) ?_); rotate_left 1; (focus (intro w hSw; (try dsimp only at hSw); go_simp; (try with_reducible rfl); done)); (try simp only [Act.put, List.setIfInBounds_toArray, List.set_cons_zero, List.set_cons_succ]))
      ((refine wpAnyK_take (i := 2) (oi := ⟨some 29, _, _, _, _, _⟩) (v := ?_) rfl (by kernel_rfl) (fun _ _ _ h => h) (Or.inl ⟨by rfl, ?_⟩) (by assumption) ?_); rotate_left 1; (focus (intro w hSw; (try dsimp only at hSw); go_simp; (try with_reducible rfl); done)); (try simp only [Act.put, List.setIfInBounds_toArray, List.set_cons_zero, List.set_cons_succ]))
      ((refine wpAnyK_take (i := 3) (oi := ⟨some 30, _, _, _, _, _⟩) (v := ?_) rfl (by kernel_rfl) (fun _ _ _ h => h) (Or.inl ⟨by rfl, ?_⟩) (by assumption) ?_); rotate_left 1; (focus (intro w hSw; (try dsimp only at hSw); go_simp; (try with_reducible rfl); done)); (try simp only [Act.put, List.setIfInBounds_toArray, List.set_cons_zero, List.set_cons_succ]))
      ((refine wpAnyK_take (i := 4) (oi := ⟨some 31, _, _, _, _, _⟩) (v := ?_) rfl (by kernel_rfl) (fun _ _ _ h => h) (Or.inl ⟨by rfl, ?_⟩) (by assumption) ?_); rotate_left 1; (focus (intro w hSw; (try dsimp only at hSw); go_simp; (try with_reducible rfl); done)); (try simp only [Act.put, List.setIfInBounds_toArray, List.set_cons_zero, List.set_cons_succ]))
      ((refine wpAnyK_take (i := 5) (oi := ⟨some 32, _, _, _, _, _⟩) (v := ?_) rfl (by kernel_rfl) (fun _ _ _ h => h) (Or.inl ⟨by rfl, ?_⟩) (by assumption) ?_); rotate_left 1; (focus (intro w hSw; (try dsimp only at hSw); go_simp; (try with_reducible rfl); done)); (try simp only [Act.put, List.setIfInBounds_toArray, List.set_cons_zero, List.set_cons_succ]))
      ((refine wpAnyK_take (i := 6) (oi := ⟨some 33, _, _, _, _, _⟩) (v := ?_) rfl (by kernel_rfl) (fun _ _ _ h => h) (Or.inl ⟨by rfl, ?_⟩) (by assumption) ?_); rotate_left 1; (focus (intro w hSw; (try dsimp only at hSw); go_simp; (try with_reducible rfl); done)); (try simp only [Act.put, List.setIfInBounds_toArray, List.set_cons_zero, List.set_cons_succ]))
      refine wpAnyK_op (i := 7) (o := ⟨some 34, _, _, _, _, _⟩) (by kernel_rfl) rfl (fun K' hK => ?_)
      go_simp
      ((with_reducible refine HLen.out.mono ?_); rintro e w5 ⟨rfl, rfl⟩)
      go_wp2_with fail
      refine hK.out _ _ (fun _ => ?_) (fun hHeld' => ?_)
      · exact ⟨cv0, cn0⟩
      have hHeld := hHeld' rfl
      clear hK K'
      try simp only [Act.put, List.setIfInBounds_toArray, List.set_cons_zero, List.set_cons_succ]
      ((refine wpAnyK_take (i := 8) (oi := ⟨some 35, _, _, _, _, _⟩) (v := ?_) rfl (by kernel_rfl) (fun _ _ _ h => h) (Or.inl ⟨by rfl, ?_⟩) (by assumption) ?_); rotate_left 1; (focus (intro w hSw; (try dsimp only at hSw); go_simp; (try with_reducible rfl); done)); (try simp only [Act.put, List.setIfInBounds_toArray, List.set_cons_zero, List.set_cons_succ]))
      ((refine wpAnyK_take (i := 9) (oi := ⟨some 36, _, _, _, _, _⟩) (v := ?_) rfl (by kernel_rfl) (fun _ _ _ h => h) (Or.inl ⟨by rfl, ?_⟩) (by assumption) ?_); rotate_left 1; (focus (intro w hSw; (try dsimp only at hSw); go_simp; (try with_reducible rfl); done)); (try simp only [Act.put, List.setIfInBounds_toArray, List.set_cons_zero, List.set_cons_succ]))
      refine wpAnyK_op (i := 10) (o := ⟨some 37, _, _, _, _, _⟩) (by kernel_rfl) rfl (fun K' hK => ?_)
      go_simp
      ((with_reducible refine HBlk.out.mono ?_); rintro e w7 ⟨rfl, hb70⟩; have hb7 : Below wr.heap.size wr w7 := (Below.refl _ wr).drew.trans hb70; have HU7 := Lib.hid (HU.out.kept (w' := w7) hb7); have Hb7 : Hid (Below w1.heap.size w1 w7) := Lib.hid (Hb.out.trans (hb7.mono Hb.out.size)); have HX7 := Lib.hid (show Blk w7 _ _ _ from (hb7.block w1.heap.size (Array.getElem?_eq_some_iff.1 HX.out).1).trans HX.out); have Hw7 : Hid (wr.heap.size ≤ w7.heap.size) := Lib.hid hb7.size; have HWr := Lib.hid (u_write (w1.heap.size + 1) p _ _ (takeB sj kk) w7 HU7.out Hp.out HWb.out); have HBw := Lib.hid (Nat.lt_of_lt_of_le HBv.out Hw7.out); have HXw := Lib.hid (Nat.lt_of_lt_of_le hXl Hw7.out); have HS7 := Lib.hid (show w7.cell? ⟨bv, 0, none⟩ = some (.pointer (some ⟨bd, 0, none⟩)) ∧ w7.cell? ⟨w1.heap.size, 0, none⟩ = some (.int .i64 (n : Int)) from ⟨(hb7.cell (p := ⟨bv, 0, none⟩) HBv.out).trans cv0, HX7.out.cell 0⟩); clear hb7 hb70)
      go_wp2_with fail
      refine hK.out _ _ (fun _ => ?_) (fun hHeld' => ?_)
      · exact HS7.out
      have hHeld := hHeld' rfl
      clear hK K'
      try simp only [Act.put, List.setIfInBounds_toArray, List.set_cons_zero, List.set_cons_succ]
      refine wpAnyK_op (i := 11) (o := ⟨some 38, _, _, _, _, _⟩) (by kernel_rfl) rfl (fun K' hK => ?_)
      go_simp
      ((with_reducible refine HWr.out.mono ?_); rintro e w8 ⟨rfl, v8, hu8, hf8, hn8, ho8⟩; have HU8 := Lib.hid hu8; have HF8 := Lib.hid hf8; have HO8 := Lib.hid ho8; clear hu8 hf8 hn8 ho8)
      go_wp2_with fail
      refine hK.out _ _ (fun _ => ?_) (fun hHeld' => ?_)
      · exact ⟨(cell_same (HF8.out.block bv HBw.out (HBn.out))).trans HS7.out.1, (cell_same (HF8.out.block w1.heap.size HXw.out (HXn.out))).trans HS7.out.2⟩
      have hHeld := hHeld' rfl
      clear hK K'
      try simp only [Act.put, List.setIfInBounds_toArray, List.set_cons_zero, List.set_cons_succ]
      refine wpAnyK_done (by kernel_rfl) ?_ _
      have hU9 := HU8.out
      rw [hstep.out] at hU9
      have HU9 := Lib.hid hU9
      have hb2 : w1.heap.size + 1 < wr.heap.size := (Array.getElem?_eq_some_iff.1 HU.out.1).1
      have hO9 : ∀ g, v8.ownBlock = some g → w1.heap.size + 2 ≤ g := fun g hg => by
        rcases HO8.out g hg with q | q
        · exact Hv.out g q
        · have := Hw7.out; omega
      have hX9 : Blk w8 w1.heap.size 179 #[.int .i64 (n : Int), .int .u64 q, .slice (some ⟨gb, ob, none⟩) ss.length cb] := (HF8.out.block w1.heap.size HXw.out HXn.out).trans HX7.out
      have hB9 : Below w1.heap.size w1 w8 := Hb7.out.trans (fr_lo HF8.out (fun k hk q => by
        rcases q with q | q
        · omega
        · have := Hv.out _ q; omega) Hb7.out.size)
      have HO9 := Lib.hid hO9
      have HX9 := Lib.hid hX9
      have HB9 := Lib.hid hB9
      clear hU9 hO9 hX9 hB9
      go_wp2_with fail
      go_roundw
      case rel => exact ⟨j + 1, _, v8, by go_num, by omega, HU9, Lib.hid (.inr rfl), HO9, HX9, HB9⟩
      case measure => simp [intOf]; omega
    · have hje : j = ss.length := by omega
      subst hje
      have h64 := HG.out.sz
      obtain ⟨hn1, hn2, hn3, _⟩ := HG.out.nn
      have hT : (accB ss n ss.length).size = n := by rw [accB_size h64 (Nat.le_refl _)]; omega
      have Hq' := Hq.out
      obtain ⟨T, hTd⟩ : ∃ T, T = accB ss n ss.length := ⟨_, rfl⟩
      rw [← hTd] at HU hT Hq'
      have hTl : T.data.toList.length = n := by rw [Array.length_toList]; exact hT
      have hTne : T.data.toList ≠ [] := fun q => by rw [q] at hTl; simp at hTl; omega
      have hcl : (Lib.strCells T).length = T.data.toList.length := by simp [Lib.strCells]
      obtain ⟨hbk, hown, hob⟩ := HU.out
      rw [hcl] at hown
      rcases hown.2 with ⟨_, h0⟩ | ⟨g, cap, cur, fz, rfl, _, hg, hfz, hnc, hcm, hcs, htk⟩
      · omega
      have hstr := u_string (w1.heap.size + 1) g cap p T.data.toList cur fz wr.drew hbk hg hTne hnc hcm (by omega) (by
        rw [Nat.mul_one] at htk
        exact htk)
      have hTe : (⟨T.data.toList.toArray⟩ : ByteArray) = T := by simp
      rw [hTe] at hstr
      have HStr := Lib.hid hstr
      have hhash := fun W => hash_any T W (by unfold maxLen; omega)
      have HHash := Lib.hid hhash
      have cn1 := HX.out.cell 1
      have hne : ((Sm.hashL T.data.toList : Nat) : Int) != q := bne_iff_ne.2 Hq'
      have hgX : Hid (¬ (w1.heap.size = g)) := Lib.hid fun q => by have := Hv.out g rfl; omega
      have hXl := (Array.getElem?_eq_some_iff.1 HX.out).1
      have hnj : ¬ ((ss.length : Nat) : Int) < ((ss.length : Nat) : Int) := by omega
      have Hbg : Hid (∀ k, k < w1.heap.size → ¬ (k = g)) := Lib.hid (fun k hk q => by have := Hv.out g rfl; omega)
      clear hstr hhash hbk hown hob hg hfz hnc hcm hcs htk hT hTl hTne hcl h64 hn1 hn2 hn3 hTe hTd hj
      generalize hhl : ((Sm.hashL T.data.toList : Nat) : Int) = hv at *
      go_wp2_with fail
      refine wp_region_K (S := (fun W => W.cell? ⟨w1.heap.size, 1, none⟩ = some (.int .u64 q))) [] (by kernel_rfl) ?_ (fun hHeld => ?_)
      · exact cn1
      ((refine wpAnyK_take (i := 2) (oi := ⟨some 42, _, _, _, _, _⟩) (v := ?_) rfl (by kernel_rfl) (fun _ _ _ h => h) (Or.inl ⟨by rfl, ?_⟩) (by assumption) ?_); rotate_left 1; (focus (intro w hSw; (try dsimp only at hSw); go_simp; (try with_reducible rfl); done)); (try simp only [Act.put, List.setIfInBounds_toArray, List.set_cons_zero, List.set_cons_succ]))
      ((refine wpAnyK_take (i := 3) (oi := ⟨some 43, _, _, _, _, _⟩) (v := ?_) rfl (by kernel_rfl) (fun _ _ _ h => h) (Or.inl ⟨by rfl, ?_⟩) (by assumption) ?_); rotate_left 1; (focus (intro w hSw; (try dsimp only at hSw); go_simp; (try with_reducible rfl); done)); (try simp only [Act.put, List.setIfInBounds_toArray, List.set_cons_zero, List.set_cons_succ]))
      refine wpAnyK_op (i := 0) (o := ⟨some 40, _, _, _, _, _⟩) (by kernel_rfl) rfl (fun K' hK => ?_)
      go_simp
      ((with_reducible refine HStr.out.mono ?_); rintro e w5 ⟨rfl, hf5, _⟩; have HF5 := Lib.hid hf5; clear hf5; have HC5 := Lib.hid ((cell_same (w' := w5) (p := ⟨w1.heap.size, 1, none⟩) (HF5.out.block w1.heap.size hXl hgX.out)).trans cn1))
      go_wp2_with fail
      refine hK.out _ _ (fun _ => ?_) (fun hHeld' => ?_)
      · exact HC5.out
      have hHeld := hHeld' rfl
      clear hK K'
      try simp only [Act.put, List.setIfInBounds_toArray, List.set_cons_zero, List.set_cons_succ]
      refine wpAnyK_op (i := 1) (o := ⟨some 41, _, _, _, _, _⟩) (by kernel_rfl) rfl (fun K' hK => ?_)
      go_simp
      ((with_reducible refine (HHash.out _).mono ?_); rintro e w6 ⟨rfl, rfl⟩)
      go_wp2_with fail
      refine hK.out _ _ (fun _ => ?_) (fun hHeld' => ?_)
      · exact HC5.out
      have hHeld := hHeld' rfl
      clear hK K'
      try simp only [Act.put, List.setIfInBounds_toArray, List.set_cons_zero, List.set_cons_succ]
      ((refine wpAnyK_take (i := 4) (oi := ⟨some 44, _, _, _, _, _⟩) (v := ?_) rfl (by kernel_rfl) (fun _ _ _ h => h) (Or.inl ⟨by rfl, ?_⟩) (by assumption) ?_); rotate_left 1; (focus (intro w hSw; (try dsimp only at hSw); go_simp; (try with_reducible rfl); done)); (try simp only [Act.put, List.setIfInBounds_toArray, List.set_cons_zero, List.set_cons_succ]))
      refine wpAnyK_done (by kernel_rfl) ?_ _
      have hB5 : Below w1.heap.size w1 w5 := Hb.out.trans ((Below.refl _ wr).drew.mono Hb.out.size |>.trans (fr_lo HF5.out Hbg.out Hb.out.size))
      have HB5 := Lib.hid hB5
      clear hB5
      go_wp2_with fail
      go_ret2
      exact ⟨w1, HGP.out, HB5.out, rfl⟩
end Go.Proofs.YtcchekmejnhlmaaGreat
namespace Go.Proofs.YtcchekmejnhlmaaGreat
end Go.Proofs.YtcchekmejnhlmaaGreat
