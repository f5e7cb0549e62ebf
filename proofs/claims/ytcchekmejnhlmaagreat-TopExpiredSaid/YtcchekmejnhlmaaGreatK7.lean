/- Joined texts. -/
import Derived.Test.YtcchekmejnhlmaaGreatK4
import Derived.Test.YtcchekmejnhlmaaGreatK5
import Derived.Test.YtcchekmejnhlmaaGreatK6
import Derived.RangeFuncNested
import Derived.RangeFuncBound
import Derived.RangeFuncCalls
import Derived.RangeFuncLeaves
import Derived.Shelf.Abstract
import Derived.Shelf.RegionOpen
import Derived.WalkKit
import Derived.OwnWalkIn
import Derived.TacticsInMore
import Derived.LoopNIn
import Derived.LoopIn
import Derived.Scope
import Derived.ControlIn
namespace Go.Proofs.YtcchekmejnhlmaaGreat
open Go.RowKit Go.Shelf
set_option linter.unusedVariables false
attribute [local go_sem] Oper.semAt_some
theorem back_snoc {α : Type} (zs : List α) (d m : Nat) (h : d + (m + 1) = zs.length) : zs.reverse.take (d + 1) = zs.reverse.take d ++ [zs[m]'(by omega)] := by
  rw [List.take_succ_eq_append_getElem (by rw [List.length_reverse]; omega)]
  congr 2
  rw [List.getElem_reverse]
  congr 1
  omega
theorem back_len {α : Type} {zs : List α} {pre : List (Int × α)} {d : Nat} (h : pre.map (·.2) = zs.reverse.take d) (hd : d ≤ zs.length) : pre.length = d := by
  have := congrArg List.length h
  rw [List.length_map, List.length_take, List.length_reverse] at this
  omega
abbrev ptArg (x : Int × Pt.Point) : Array Value := #[.int .i64 x.1, .agg #[.string x.2.1, .int .i64 x.2.2.1, .int .i64 x.2.2.2]]
set_option maxRecDepth 100000 in
set_option maxHeartbeats 2000000 in
theorem backP_in (F : Fence) (n : Nat) (hf : F.fn 328) (hro : F.round = none) (hn : 1 ≤ n) (l Bs n₀ c : Nat) (A : Option Addr) (zs : List Pt.Point) (hlen : zs.length ≤ 9223372036854775807) (hBn : Bs < n₀) (J Jx : List (Int × Pt.Point) → World → Prop)
    (hY : ∀ pre x W, J pre W → pre.length < zs.length → YieldAt F (n - 1) Tryz.prog l (ptArg x) W fun e W' =>
      (e = .returned (.bool true) ∧ J (pre ++ [x]) W' ∧ Below n₀ W W') ∨ (e = .returned (.bool false) ∧ Jx (pre ++ [x]) W'))
    (W : World) (hBs : W.cell? ⟨Bs, 0, none⟩ = some (.slice A zs.length c)) (hr : Reads W n₀ 3 A zs.length (zs.flatMap pointCells)) (h0 : J [] W) :
    CallsIn F n Tryz.prog 328 #[.func (.yield l) #[] #[], .pointer (some ⟨Bs, 0, none⟩)] W fun e W' => (∃ v, e = .returned v) ∧
      ((∃ ys, ys.map (·.2) = zs.reverse ∧ J ys W') ∨ (∃ pre, (∃ d, d ≤ zs.length ∧ pre.map (·.2) = zs.reverse.take d) ∧ Jx pre W')) := by
  refine callsIn_of_wp Tryz.func328 rfl hf ?_ hro
  simp only [Tryz.ntmps328, List.size_toArray, List.length_cons, List.length_nil, Nat.reduceAdd, Nat.reduceSub, Array.replicate_succ, Array.replicate_zero, List.push_toArray, List.append_toArray, List.nil_append, List.cons_append]
  have Hr := Lib.hid hr
  clear hr
  gi_wp2
  gi_loopw [3] (fun i wr => ∃ (d m : Nat) (pre : List (Int × Pt.Point)), d + m = zs.length ∧ i = .int .i64 ((m : Int) - 1) ∧ Hid (pre.map (·.2) = zs.reverse.take d) ∧ Hid (J pre wr) ∧ Hid (Below n₀ W wr))
    (fun i _ => (intOf i + 1).toNat)
  case atStart => exact ⟨0, zs.length, [], by omega, by go_num, Lib.hid (by simp), Lib.hid h0, Lib.hid (Below.refl _ _)⟩
  case round =>
    obtain ⟨d, m, pre, hdm, rfl, hpre, hJs, hnx⟩ := hrel
    cases m with
    | zero =>
      have hall : Hid (pre.map (·.2) = zs.reverse) := by
        show _ = _
        rw [hpre.out, List.take_of_length_le (by rw [List.length_reverse]; omega)]
      clear hpre
      simp only [Int.ofNat_zero, Int.zero_sub]
      gi_wp2
      go_end0
      exact ⟨⟨_, rfl⟩, .inl ⟨pre, hall.out, hJs.out⟩⟩
    | succ m =>
      rw [show (((m + 1 : Nat) : Int) - 1) = (m : Int) from by omega]
      obtain ⟨b, off, rfl, hb, hc⟩ := Hr.out.2 (by omega)
      have hlt : m < zs.length := by omega
      obtain ⟨hc0, hc1, hc2⟩ := pt_cells (wr := wr) hlt hc (fun p hp => hnx.out.cell (p := p) hp) hb
      have hcs : wr.cell? ⟨Bs, 0, none⟩ = some (.slice (some ⟨b, off, none⟩) zs.length c) := (hnx.out.cell (p := ⟨Bs, 0, none⟩) hBn).trans hBs
      have hsn : Hid (∀ p, zs[m] = p → (pre ++ [((m : Int), p)]).map (·.2) = zs.reverse.take (d + 1)) := fun p hp => by
        rw [back_snoc zs d m hdm, List.map_append, hpre.out, hp]; rfl
      have hpl := back_len hpre.out (by omega)
      obtain ⟨fn, tmps, assign, body, hy, hR⟩ := hY pre ((m : Int), zs[m]) wr hJs.out (by omega)
      clear hc hpre
      dsimp only [ptArg] at hy
      generalize hzm : zs[m] = p at *
      obtain ⟨nm, t, v⟩ := p
      have Hsn := Lib.hid (hsn.out _ rfl)
      clear hzm hsn
      dsimp only at hy hc0 hc1 hc2
      gi_wp2
      refine hR.mono ?_
      rintro e W3 (⟨rfl, hJ3, hk3⟩ | ⟨rfl, hJx3⟩)
      · gi_wp2
        go_roundw
        case rel => exact ⟨d + 1, m, _, by omega, by go_num, Hsn, Lib.hid hJ3, Lib.hid (hnx.out.trans hk3)⟩
        case measure => simp [intOf]
      · gi_wp2
        refine bodyPost_ret (results_none rfl _ _ _) rfl ?_
        exact ⟨⟨_, rfl⟩, .inr ⟨_, ⟨d + 1, by omega, Hsn.out⟩, hJx3⟩⟩
set_option maxHeartbeats 1000000 in
theorem backP_make (F : Fence) (n : Nat) (hf : F.fn 313) (hro : F.round = none) (a : Option Addr) (len cap : Nat) (w : World) :
    CallsIn F n Tryz.prog 313 #[.slice a len cap] w fun e w' => e = .returned (.func (.func 328) #[] #[.pointer (some ⟨w.heap.size, 0, none⟩)]) ∧ w' = w.alloc (.cells #[.slice a len cap] 34) := by
  refine callsIn_of_wp Tryz.func313 rfl hf ?_ hro
  simp only [Tryz.ntmps313, List.size_toArray, List.length_cons, List.length_nil, Nat.reduceAdd, Nat.reduceSub, Array.replicate_succ, Array.replicate_zero, List.push_toArray, List.append_toArray, List.nil_append, List.cons_append]
  gi_wp2
  go_ret
  exact ⟨rfl, rfl⟩
theorem backP_stops (F : Fence) (n : Nat) (hf : F.fn 328) (hro : F.round = none) (hn : 1 ≤ n) (Bs n₀ c : Nat) (A : Option Addr) (zs : List Pt.Point) (hlen : zs.length ≤ 9223372036854775807) (w : World) (hBs : Bs < n₀) (hn₀ : n₀ ≤ w.heap.size)
    (hc : w.cell? ⟨Bs, 0, none⟩ = some (.slice A zs.length c)) (hr : Reads w n₀ 3 A zs.length (zs.flatMap pointCells)) :
    SeqStopsK F n Tryz.prog 328 #[.pointer (some ⟨Bs, 0, none⟩)] ptArg (Below n₀) (fun ys => ys.map (·.2) = zs.reverse)
      (fun pre => ∃ d, d ≤ zs.length ∧ pre.map (·.2) = zs.reverse.take d) zs.length w := fun l J Jx W hW _ _ hY h0 =>
  backP_in F n hf hro hn l Bs n₀ c A zs hlen hBs J Jx hY W ((hW.cell (p := ⟨Bs, 0, none⟩) (show Bs < w.heap.size by omega)).trans hc) (hr.below (hW.mono hn₀)) h0
abbrev Lay := Option Addr × Nat × List Pt.Point
def layV (y : Lay) : Value := .slice y.1 y.2.2.length y.2.1
abbrev layArg {G : Lay → Prop} (x : Int × { y : Lay // G y }) : Array Value := #[.int .i64 x.1, layV x.2.1]
set_option maxRecDepth 100000 in
set_option maxHeartbeats 2000000 in
theorem backL_in {G : Lay → Prop} (F : Fence) (n : Nat) (hf : F.fn 327) (hro : F.round = none) (hn : 1 ≤ n) (l Bs n₀ c : Nat) (A : Option Addr) (zs : List { y : Lay // G y }) (hlen : zs.length ≤ 9223372036854775807) (hBn : Bs < n₀) (J Jx : List (Int × { y : Lay // G y }) → World → Prop)
    (hY : ∀ pre x W, J pre W → pre.length < zs.length → YieldAt F (n - 1) Tryz.prog l (layArg x) W fun e W' =>
      (e = .returned (.bool true) ∧ J (pre ++ [x]) W' ∧ Below n₀ W W') ∨ (e = .returned (.bool false) ∧ Jx (pre ++ [x]) W'))
    (W : World) (hBs : W.cell? ⟨Bs, 0, none⟩ = some (.slice A zs.length c)) (hr : Reads W n₀ 1 A zs.length (zs.map fun y => layV y.1)) (h0 : J [] W) :
    CallsIn F n Tryz.prog 327 #[.func (.yield l) #[] #[], .pointer (some ⟨Bs, 0, none⟩)] W fun e W' => (∃ v, e = .returned v) ∧
      ((∃ ys, ys.map (·.2) = zs.reverse ∧ J ys W') ∨ (∃ pre, (∃ d, d ≤ zs.length ∧ pre.map (·.2) = zs.reverse.take d) ∧ Jx pre W')) := by
  refine callsIn_of_wp Tryz.func327 rfl hf ?_ hro
  simp only [Tryz.ntmps327, List.size_toArray, List.length_cons, List.length_nil, Nat.reduceAdd, Nat.reduceSub, Array.replicate_succ, Array.replicate_zero, List.push_toArray, List.append_toArray, List.nil_append, List.cons_append]
  have Hr := Lib.hid hr
  clear hr
  gi_wp2
  gi_loopw [3] (fun i wr => ∃ (d m : Nat) (pre : List (Int × { y : Lay // G y })), d + m = zs.length ∧ i = .int .i64 ((m : Int) - 1) ∧ Hid (pre.map (·.2) = zs.reverse.take d) ∧ Hid (J pre wr) ∧ Hid (Below n₀ W wr))
    (fun i _ => (intOf i + 1).toNat)
  case atStart => exact ⟨0, zs.length, [], by omega, by go_num, Lib.hid (by simp), Lib.hid h0, Lib.hid (Below.refl _ _)⟩
  case round =>
    obtain ⟨d, m, pre, hdm, rfl, hpre, hJs, hnx⟩ := hrel
    cases m with
    | zero =>
      have hall : Hid (pre.map (·.2) = zs.reverse) := by
        show _ = _
        rw [hpre.out, List.take_of_length_le (by rw [List.length_reverse]; omega)]
      clear hpre
      simp only [Int.ofNat_zero, Int.zero_sub]
      gi_wp2
      go_end0
      exact ⟨⟨_, rfl⟩, .inl ⟨pre, hall.out, hJs.out⟩⟩
    | succ m =>
      rw [show (((m + 1 : Nat) : Int) - 1) = (m : Int) from by omega]
      obtain ⟨b, off, rfl, hb, hc⟩ := Hr.out.2 (by omega)
      have hlt : m < zs.length := by omega
      have hcm : wr.cell? ⟨b, off + m, none⟩ = some (layV zs[m].1) := (hnx.out.cell (p := ⟨b, off + m, none⟩) hb).trans (hc m _ (by simp [hlt]))
      have hcs : wr.cell? ⟨Bs, 0, none⟩ = some (.slice (some ⟨b, off, none⟩) zs.length c) := (hnx.out.cell (p := ⟨Bs, 0, none⟩) hBn).trans hBs
      have hsn : Hid (∀ p, zs[m] = p → (pre ++ [((m : Int), p)]).map (·.2) = zs.reverse.take (d + 1)) := fun p hp => by
        rw [back_snoc zs d m hdm, List.map_append, hpre.out, hp]; rfl
      have hpl := back_len hpre.out (by omega)
      obtain ⟨fn, tmps, assign, body, hy, hR⟩ := hY pre ((m : Int), zs[m]) wr hJs.out (by omega)
      clear hc hpre
      dsimp only [layArg] at hy
      generalize hzm : zs[m] = p at *
      obtain ⟨⟨pa, pc, pl⟩, hG⟩ := p
      have Hsn := Lib.hid (hsn.out _ rfl)
      clear hzm hsn
      dsimp only [layV] at hy hcm
      gi_wp2
      refine hR.mono ?_
      rintro e W3 (⟨rfl, hJ3, hk3⟩ | ⟨rfl, hJx3⟩)
      · gi_wp2
        go_roundw
        case rel => exact ⟨d + 1, m, _, by omega, by go_num, Hsn, Lib.hid hJ3, Lib.hid (hnx.out.trans hk3)⟩
        case measure => simp [intOf]
      · gi_wp2
        refine bodyPost_ret (results_none rfl _ _ _) rfl ?_
        exact ⟨⟨_, rfl⟩, .inr ⟨_, ⟨d + 1, by omega, Hsn.out⟩, hJx3⟩⟩
set_option maxHeartbeats 1000000 in
theorem backL_make (F : Fence) (n : Nat) (hf : F.fn 312) (hro : F.round = none) (a : Option Addr) (len cap : Nat) (w : World) :
    CallsIn F n Tryz.prog 312 #[.slice a len cap] w fun e w' => e = .returned (.func (.func 327) #[] #[.pointer (some ⟨w.heap.size, 0, none⟩)]) ∧ w' = w.alloc (.cells #[.slice a len cap] 356) := by
  refine callsIn_of_wp Tryz.func312 rfl hf ?_ hro
  simp only [Tryz.ntmps312, List.size_toArray, List.length_cons, List.length_nil, Nat.reduceAdd, Nat.reduceSub, Array.replicate_succ, Array.replicate_zero, List.push_toArray, List.append_toArray, List.nil_append, List.cons_append]
  gi_wp2
  go_ret
  exact ⟨rfl, rfl⟩
theorem backL_stops {G : Lay → Prop} (F : Fence) (n : Nat) (hf : F.fn 327) (hro : F.round = none) (hn : 1 ≤ n) (Bs n₀ c : Nat) (A : Option Addr) (zs : List { y : Lay // G y }) (hlen : zs.length ≤ 9223372036854775807) (w : World) (hBs : Bs < n₀) (hn₀ : n₀ ≤ w.heap.size)
    (hc : w.cell? ⟨Bs, 0, none⟩ = some (.slice A zs.length c)) (hr : Reads w n₀ 1 A zs.length (zs.map fun y => layV y.1)) :
    SeqStopsK F n Tryz.prog 327 #[.pointer (some ⟨Bs, 0, none⟩)] layArg (Below n₀) (fun ys => ys.map (·.2) = zs.reverse)
      (fun pre => ∃ d, d ≤ zs.length ∧ pre.map (·.2) = zs.reverse.take d) zs.length w := fun l J Jx W hW _ _ hY h0 =>
  backL_in F n hf hro hn l Bs n₀ c A zs hlen hBs J Jx hY W ((hW.cell (p := ⟨Bs, 0, none⟩) (show Bs < w.heap.size by omega)).trans hc) (hr.below (hW.mono hn₀)) h0
end Go.Proofs.YtcchekmejnhlmaaGreat
namespace Go.Proofs.YtcchekmejnhlmaaGreat
open Go.RowKit Go.Shelf
set_option linter.unusedVariables false
attribute [local go_sem] Oper.semAt_some
def Qr.hit (s : ByteArray) (t : Int) (p : Pt.Point) : Bool := decide (p.1 = s) && decide (p.2.1 = t)
def Qr.newest (s : ByteArray) (t : Int) (ps : List Pt.Point) : Option Int := (ps.reverse.find? (Qr.hit s t)).map (·.2.2)
def Qr.lastIn (s : ByteArray) (t : Int) (ls : List (List Pt.Point)) : Option Int := ls.reverse.findSome? (Qr.newest s t)
theorem find_at {s : ByteArray} {t : Int} {zs : List Pt.Point} {q : List (Int × Pt.Point)} {x : Int × Pt.Point} {d : Nat} (h : (q ++ [x]).map (·.2) = zs.reverse.take d) (hq : ∀ y ∈ q, Qr.hit s t y.2 = false) (hx : Qr.hit s t x.2 = true) : Qr.newest s t zs = some x.2.2.2 := by
  have e : zs.reverse = q.map (·.2) ++ (x.2 :: zs.reverse.drop d) := by
    have := List.take_append_drop d zs.reverse
    rw [← h] at this
    refine this.symm.trans ?_
    simp
  have hn : (q.map (·.2)).find? (Qr.hit s t) = none := by
    rw [List.find?_eq_none]
    intro y hy
    obtain ⟨z, hz, rfl⟩ := List.mem_map.1 hy
    simp [hq z hz]
  unfold Qr.newest
  rw [e, List.find?_append, hn, List.find?_cons, hx]
  rfl
theorem find_no {s : ByteArray} {t : Int} {zs : List Pt.Point} {q : List (Int × Pt.Point)} (h : q.map (·.2) = zs.reverse) (hq : ∀ y ∈ q, Qr.hit s t y.2 = false) : Qr.newest s t zs = none := by
  have hn : (q.map (·.2)).find? (Qr.hit s t) = none := by
    rw [List.find?_eq_none]
    intro y hy
    obtain ⟨z, hz, rfl⟩ := List.mem_map.1 hy
    simp [hq z hz]
  unfold Qr.newest
  rw [← h, hn]; rfl
theorem last_at {G : Lay → Prop} {s : ByteArray} {t v : Int} {Z : List { y : Lay // G y }} {q : List (Int × { y : Lay // G y })} {x : Int × { y : Lay // G y }} {d : Nat} (h : (q ++ [x]).map (·.2) = Z.reverse.take d) (hq : ∀ y ∈ q, Qr.newest s t y.2.1.2.2 = none) (hx : Qr.newest s t x.2.1.2.2 = some v) : Qr.lastIn s t (Z.map fun y => y.1.2.2) = some v := by
  have e : Z.reverse = q.map (·.2) ++ (x.2 :: Z.reverse.drop d) := by
    have := List.take_append_drop d Z.reverse
    rw [← h] at this
    refine this.symm.trans ?_
    simp
  have hn : (q.map (·.2)).findSome? (fun y => Qr.newest s t y.1.2.2) = none := by
    rw [List.findSome?_eq_none_iff]
    intro y hy
    obtain ⟨z, hz, rfl⟩ := List.mem_map.1 hy
    exact hq z hz
  unfold Qr.lastIn
  rw [← List.map_reverse, List.findSome?_map, e]
  show List.findSome? (fun y : { y : Lay // G y } => Qr.newest s t y.1.2.2) _ = _
  rw [List.findSome?_append, hn, List.findSome?_cons, hx]
  rfl
theorem last_no {G : Lay → Prop} {s : ByteArray} {t : Int} {Z : List { y : Lay // G y }} {q : List (Int × { y : Lay // G y })} (h : q.map (·.2) = Z.reverse) (hq : ∀ y ∈ q, Qr.newest s t y.2.1.2.2 = none) : Qr.lastIn s t (Z.map fun y => y.1.2.2) = none := by
  have hn : (q.map (·.2)).findSome? (fun y => Qr.newest s t y.1.2.2) = none := by
    rw [List.findSome?_eq_none_iff]
    intro y hy
    obtain ⟨z, hz, rfl⟩ := List.mem_map.1 hy
    exact hq z hz
  unfold Qr.lastIn
  rw [← List.map_reverse, List.findSome?_map, ← h]
  exact hn
theorem boxed_below {W W' : World} {B : Nat} {t : TypeId} {v : Value} (h : Boxed W B t v) (hb : Below W.heap.size W W') : Boxed W' B t v := (hb.block B h.lt).trans h
theorem blk_own {g : Nat} {t : TypeId} {cs : Array Value} {X Y : World} {row : Option Nat} (hs : Blk X g t cs) (hg : X.grownBy Y row) (hr : ∀ r, row = some r → ∃ o : Obj, X.heap[r]? = some o ∧ o.isCells = false) : Blk Y g t cs :=
  hs.grown hg (fun e => by obtain ⟨o, ho, hc⟩ := hr g e.symm; rw [show X.heap[g]? = _ from hs] at ho; cases ho; cases hc)
theorem hit_yes {nm s : ByteArray} {t0 t v : Int} (h1 : nm = s) (h2 : t0 = t) : Qr.hit s t (nm, t0, v) = true := by unfold Qr.hit; simp [h1, h2]
theorem hit_no1 {nm s : ByteArray} {t0 t v : Int} (h1 : nm ≠ s) : Qr.hit s t (nm, t0, v) = false := by unfold Qr.hit; simp [h1]
theorem hit_no2 {nm s : ByteArray} {t0 t v : Int} (h2 : t0 ≠ t) : Qr.hit s t (nm, t0, v) = false := by unfold Qr.hit; simp [h2]
def LayOk (w : World) (y : Lay) : Prop := Reads w w.heap.size 3 y.1 y.2.2.length (y.2.2.flatMap pointCells) ∧ y.2.2.length ≤ 9223372036854775807
theorem lift_sub {α : Type} {G : α → Prop} (l : List α) (h : ∀ y ∈ l, G y) : ∃ Z : List { y // G y }, Z.map (·.1) = l := by
  induction l with
  | nil => exact ⟨[], rfl⟩
  | cons a l ih =>
    obtain ⟨Z, hZ⟩ := ih (fun y hy => h y (List.mem_cons_of_mem _ hy))
    exact ⟨⟨a, h a List.mem_cons_self⟩ :: Z, by rw [List.map_cons, hZ]⟩
def NoHit (s : ByteArray) (t : Int) (pre : List (Int × Pt.Point)) : Prop := ∀ y ∈ pre, Qr.hit s t y.2 = false
def Hits (s : ByteArray) (t : Int) (pre : List (Int × Pt.Point)) (v : Int) : Prop := ∃ q y, pre = q ++ [y] ∧ NoHit s t q ∧ Qr.hit s t y.2 = true ∧ y.2.2.2 = v
theorem noHit_nil (s : ByteArray) (t : Int) : NoHit s t [] := fun y hy => by cases hy
theorem noHit_snoc {s : ByteArray} {t : Int} {pre : List (Int × Pt.Point)} {y : Int × Pt.Point} (h : NoHit s t pre) (hy : Qr.hit s t y.2 = false) : NoHit s t (pre ++ [y]) := fun z hz =>
  (List.mem_append.1 hz).elim (h z) (fun e => by rw [List.mem_singleton] at e; subst e; exact hy)
theorem hits_snoc {s : ByteArray} {t : Int} {pre : List (Int × Pt.Point)} {y : Int × Pt.Point} (h : NoHit s t pre) (hy : Qr.hit s t y.2 = true) : Hits s t (pre ++ [y]) y.2.2.2 := ⟨pre, y, rfl, h, hy, rfl⟩
theorem hits_at {s : ByteArray} {t v : Int} {zs : List Pt.Point} {pre : List (Int × Pt.Point)} {d : Nat} (h : pre.map (·.2) = zs.reverse.take d) (hh : Hits s t pre v) : Qr.newest s t zs = some v := by
  obtain ⟨q, y, rfl, hq, hy, rfl⟩ := hh
  exact find_at h hq hy
theorem list_ne {a b : ByteArray} (h : a ≠ b) : (a.toList == b.toList) = false := by
  rw [beq_eq_false_iff_ne, Lib.toList_data, Lib.toList_data]
  intro e
  exact h (Wr.ext_list e)
theorem fr_b3 {S : Nat → Prop} {A X : World} (h : Below A.heap.size A X) : Ev.Fr S A X := ⟨h.os, h.tape, h.output, h.size, fun k hk _ => h.block k hk⟩
def B3 (b k : Nat) : Prop := k = b + 2 ∨ k = b + 3 ∨ k = b + 4
theorem fr_grown3 {S : Nat → Prop} {A X Y : World} {row : Option Nat} (h : Ev.Fr S A X) (hg : X.grownBy Y row) (hr : ∀ r, row = some r → A.heap.size ≤ r) : Ev.Fr S A Y :=
  ⟨hg.os.trans h.os, hg.tape.trans h.tape, hg.output.trans h.output, Nat.le_trans h.size hg.size, fun k hk hn => (hg.block k (Nat.lt_of_lt_of_le hk h.size) (fun e => by have := hr k e.symm; omega)).trans (h.block k hk hn)⟩
theorem fr_set3 {S : Nat → Prop} {A X : World} {p : Addr} (h : Ev.Fr S A X) (hp : S p.block) (v : Value) : Ev.Fr S A (X.setCell p v) :=
  ⟨h.os, h.tape, h.output, by have := h.size; simpa [World.setCell] using this, fun k hk hn => (Below.heap_setCell X p v k (fun e => hn (by rw [e]; exact hp))).trans (h.block k hk hn)⟩
theorem fr_own3 {S : Nat → Prop} {A : World} {B : Nat} (hB : A.heap.size ≤ B) {X Y : World} {row : Option Nat} (h : Ev.Fr S A X) (hg : X.grownBy Y row) (hr : ∀ r, row = some r → B ≤ r ∧ ∃ o : Obj, X.heap[r]? = some o ∧ o.isCells = false) : Ev.Fr S A Y :=
  fr_grown3 h hg fun r e => Nat.le_trans hB (hr r e).1
set_option maxRecDepth 100000 in
set_option maxHeartbeats 4000000 in
theorem last_gen (LP : World → List Lay → Prop) (a0 a1 : Value) (s : ByteArray) (t : Int) (w : World)
    (HLY : ∀ W, Below w.heap.size w W → w.heap.size + 5 ≤ W.heap.size → Calls Tryz.prog 296 #[a0, a1] W fun e w' => ∃ (Av : Option Addr) (cv : Nat) (L : List Lay), e = .returned (.tuple #[.slice Av L.length cv, .bool true]) ∧ W.heap.size ≤ w'.heap.size ∧ (∀ b, w.heap.size ≤ b → b < W.heap.size → w'.heap[b]? = W.heap[b]?) ∧ Reads w' w'.heap.size 1 Av L.length (L.map layV) ∧ (∀ y ∈ L, LayOk w' y) ∧ L.length ≤ 1000000 ∧ LP w' L) :
    Calls Tryz.prog 295 #[a0, a1, .string s, .int .i64 t] w fun e w' => ∃ w2 L, LP w2 L ∧ Ev.Fr (B3 w.heap.size) w2 w' ∧ e = .returned (.tuple #[.int .i64 ((Qr.lastIn s t (L.map (·.2.2))).getD 0), .bool (Qr.lastIn s t (L.map (·.2.2))).isSome, .int .i64 0]) := by
  have HL := Lib.hid HLY
  clear HLY
  refine (callsIn_wide (n := 8)).1 ?_
  refine callsIn_of_wp_marks Tryz.func295 rfl trivial ?_ rfl
  simp only [Tryz.ntmps295, List.size_toArray, List.length_cons, List.length_nil, Nat.reduceAdd, Nat.reduceSub, Array.replicate_succ, Array.replicate_zero, List.push_toArray, List.append_toArray, List.nil_append, List.cons_append]
  gi_wp2
  refine wpIn_wide.2 ?_
  refine wp_scope_straight ?_
  refine (wpIn_wide (n := 8)).1 ?_
  have b6 := ((((Boxed.new w 9 (.string s)).alloc (.cells #[.int .i64 t] 3)).alloc (.cells #[.int .i64 0] 3)).alloc (.cells #[.bool false] 4)).alloc (.cells #[.int .i64 0] 27)
  have b7 := (((Boxed.new (w.alloc (.cells #[.string s] 9)) 3 (.int .i64 t)).alloc (.cells #[.int .i64 0] 3)).alloc (.cells #[.bool false] 4)).alloc (.cells #[.int .i64 0] 27)
  have b8 := ((Boxed.new ((w.alloc (.cells #[.string s] 9)).alloc (.cells #[.int .i64 t] 3)) 3 (.int .i64 0)).alloc (.cells #[.bool false] 4)).alloc (.cells #[.int .i64 0] 27)
  have b9 := (Boxed.new (((w.alloc (.cells #[.string s] 9)).alloc (.cells #[.int .i64 t] 3)).alloc (.cells #[.int .i64 0] 3)) 4 (.bool false)).alloc (.cells #[.int .i64 0] 27)
  have b10 := Boxed.new ((((w.alloc (.cells #[.string s] 9)).alloc (.cells #[.int .i64 t] 3)).alloc (.cells #[.int .i64 0] 3)).alloc (.cells #[.bool false] 4)) 27 (.int .i64 0)
  simp only [World.size_alloc] at b7 b8 b9 b10
  have hb5 : Below w.heap.size w (((((w.alloc (.cells #[.string s] 9)).alloc (.cells #[.int .i64 t] 3)).alloc (.cells #[.int .i64 0] 3)).alloc (.cells #[.bool false] 4)).alloc (.cells #[.int .i64 0] 27)) :=
    (((((Below.refl _ w).alloc (Nat.le_refl _) _).alloc (by simp) _).alloc (by simp; omega) _).alloc (by simp; omega) _).alloc (by simp; omega) _
  have hs5 : w.heap.size + 5 ≤ (((((w.alloc (.cells #[.string s] 9)).alloc (.cells #[.int .i64 t] 3)).alloc (.cells #[.int .i64 0] 3)).alloc (.cells #[.bool false] 4)).alloc (.cells #[.int .i64 0] 27)).heap.size := by simp
  generalize ((((w.alloc (.cells #[.string s] 9)).alloc (.cells #[.int .i64 t] 3)).alloc (.cells #[.int .i64 0] 3)).alloc (.cells #[.bool false] 4)).alloc (.cells #[.int .i64 0] 27) = w5 at *
  have HB5 := Lib.hid hb5
  clear hb5
  gi_wp2_with fail
  refine ⟨trivial, ?_⟩
  refine (callsIn_wide.2 (HL.out w5 HB5.out hs5)).mono ?_
  rintro e w2 ⟨Av, cv, L, rfl, hs2, hkeep, hrv, hlays, hLl, hLP⟩
  have hk5 : ∀ {g : Nat} {t : TypeId} {v : Value}, w.heap.size ≤ g → Boxed w5 g t v → Boxed w2 g t v := fun hg hb => (hkeep _ hg hb.lt).trans hb
  have HLP := Lib.hid hLP
  have Hrv := Lib.hid hrv
  clear hLP hrv
  · gi_wp2_with fail
    refine wpIn_label ?_
    gi_wp2_with fail
    refine ⟨trivial, ?_⟩
    refine (backL_make Fence.wide _ trivial rfl Av L.length cv w2).mono ?_
    rintro e w' ⟨rfl, rfl⟩
    have hb0 : Below w2.heap.size w2 (w2.alloc (.cells #[.slice Av L.length cv] 356)) := (Below.refl _ _).alloc (Nat.le_refl _) _
    have b26 := Boxed.new w2 356 (.slice Av L.length cv)
    have hsz0 : w2.heap.size + 1 ≤ (w2.alloc (.cells #[.slice Av L.length cv] 356)).heap.size := by simp
    obtain ⟨W0, hW0⟩ : ∃ W0, w2.alloc (.cells #[.slice Av L.length cv] 356) = W0 := ⟨_, rfl⟩
    rw [hW0] at hb0 b26 hsz0 ⊢
    clear hW0
    have a6 := boxed_below (hk5 (by omega) b6) hb0
    have a7 := boxed_below (hk5 (by omega) b7) hb0
    have a8 := boxed_below (hk5 (by omega) b8) hb0
    have a9 := boxed_below (hk5 (by omega) b9) hb0
    have a10 := boxed_below (hk5 (by omega) b10) hb0
    have hbW0 : Ev.Fr (B3 w.heap.size) w2 W0 := fr_b3 hb0
    have hG : ∀ y ∈ L, LayOk W0 y := fun y hy => ⟨((hlays y hy).1.below hb0).more (by omega), (hlays y hy).2⟩
    obtain ⟨Z, hZ⟩ := lift_sub L hG
    have hZl : Z.length = L.length := by
      have := congrArg List.length hZ
      rw [List.length_map] at this
      exact this
    have hZr : Reads W0 W0.heap.size 1 Av Z.length (Z.map fun y => layV y.1) := by
      rw [hZl, show (Z.map fun y => layV y.1) = (Z.map (·.1)).map layV from by rw [List.map_map]; rfl, hZ]
      exact (Hrv.out.below hb0).more (by omega)
    have hZp : (Z.map fun y => y.1.2.2) = L.map (·.2.2) := by
      rw [show (Z.map fun y => y.1.2.2) = (Z.map (·.1)).map (·.2.2) from by rw [List.map_map]; rfl, hZ]
    have c26 : W0.cell? ⟨w2.heap.size, 0, none⟩ = some (.slice Av Z.length cv) := by rw [hZl]; exact b26.cell
    have HbW0 := Lib.hid hbW0
    obtain ⟨res, hres⟩ : ∃ res : Int × Bool × Int, res = ((Qr.lastIn s t (Z.map fun y => y.1.2.2)).getD 0, (Qr.lastIn s t (Z.map fun y => y.1.2.2)).isSome, 0) := ⟨_, rfl⟩
    have Hend : Hid (∀ (e : Ending) (w' : World), e = .returned (.tuple #[.int .i64 res.1, .bool res.2.1, .int .i64 res.2.2]) → Ev.Fr (B3 w.heap.size) W0 w' → ∃ w2 L, LP w2 L ∧ Ev.Fr (B3 w.heap.size) w2 w' ∧ e = .returned (.tuple #[.int .i64 ((Qr.lastIn s t (L.map (·.2.2))).getD 0), .bool (Qr.lastIn s t (L.map (·.2.2))).isSome, .int .i64 0])) := Lib.hid fun e w' he hf => ⟨w2, L, HLP.out, hbW0.trans hf (fun _ _ q => q), by rw [he, hres, hZp]⟩
    have Hres' := Lib.hid hres
    have hhs : w.heap.size + 5 ≤ W0.heap.size := by omega
    clear hZp hlays Hrv HL hG hZ b6 b7 b8 b9 b10 hb0 hbW0 b26 hres HLP hkeep hk5
    have hz2 : w2.heap.size < W0.heap.size := by omega
    gi_wp2_with fail
    refine wpIn_rangeFunc_ownH rfl (by omega) (gf := 327) (lb := #[.pointer (some ⟨w2.heap.size, 0, none⟩)]) rfl trivial (enters_of Tryz.func327 (by kernel_rfl) rfl)
      (backL_stops (G := LayOk W0) Fence.wide _ trivial rfl (by omega) w2.heap.size W0.heap.size cv Av Z (by omega) W0 hz2 (Nat.le_refl _) c26 hZr) belowK_t (belowK_b (Nat.le_refl _)) (Below.refl _ _) (fun _ => rfl)
      (fun pre W => (∀ x ∈ pre, Qr.newest s t x.2.1.2.2 = none) ∧ Below W0.heap.size W0 W)
      (fun cd pre W => (cd = .ret ∧ ∃ q x v, pre = q ++ [x] ∧ (∀ y ∈ q, Qr.newest s t y.2.1.2.2 = none) ∧ Qr.newest s t x.2.1.2.2 = some v ∧ Boxed W (w.heap.size + 1 + 1) 3 (.int .i64 v) ∧ Boxed W (w.heap.size + 1 + 1 + 1) 4 (.bool true) ∧ Boxed W (w.heap.size + 1 + 1 + 1 + 1) 27 (.int .i64 0)) ∧ Ev.Fr (B3 w.heap.size) W0 W)
      (OwnFrom.and (ownFrom_pure _ _) (ownFrom_below (Nat.le_refl _) (Nat.le_refl _)))
      (fun cd sx X Y row hs hg hr => by
        obtain ⟨⟨h0, q, x, v, h1, h2, h3, k8, k9, k10⟩, hb⟩ := hs
        exact ⟨⟨h0, q, x, v, h1, h2, h3, blk_own k8 hg (fun r e => (hr r e).2), blk_own k9 hg (fun r e => (hr r e).2), blk_own k10 hg (fun r e => (hr r e).2)⟩, fr_own3 (by omega) hb hg hr⟩)
      ⟨by simp, Below.refl _ _⟩
      (fun x a' _ => a' = { tmps := #[a0, a1, .string s, .int .i64 t, undef, undef, .pointer (some ⟨w.heap.size, 0, none⟩), .pointer (some ⟨w.heap.size + 1, 0, none⟩), .pointer (some ⟨w.heap.size + 1 + 1, 0, none⟩), .pointer (some ⟨w.heap.size + 1 + 1 + 1, 0, none⟩), .pointer (some ⟨w.heap.size + 1 + 1 + 1 + 1, 0, none⟩), .slice Av L.length cv, .bool true, undef, layV x.2.1, undef, undef, .tuple #[.slice Av L.length cv, .bool true], a0, a1, .tuple #[.slice Av L.length cv, .bool true], .slice Av L.length cv, .bool true, .bool true, .bool false, .slice Av L.length cv, .func (.func 327) #[] #[.pointer (some ⟨w2.heap.size, 0, none⟩)], .int .i64 x.1, layV x.2.1, undef, undef, undef, undef, undef, undef, undef, undef, undef, undef, undef, undef, undef, undef, undef, undef, undef], defers := [] })
      (fun _ _ _ _ _ _ hs _ _ => hs)
      ?assign ?body ?done ?stop
    case assign =>
      rintro l pre x W K hi hK
      gi_wp2
      exact hK _ _ (KeepsFrom.refl _ _) (Below.refl _ _) hi rfl
    case body =>
      rintro l pre x a' W hl ⟨r, hr⟩ ⟨hp, hB1⟩ rfl hlt
      obtain ⟨xi, ⟨⟨xa, xc, xl⟩, hGx⟩⟩ := x
      simp only [layV]
      have HGx := Lib.hid hGx
      gi_wp2_with fail
      refine ⟨trivial, ?_⟩
      refine (CallsIn.inRound l (backP_make Fence.wide _ trivial rfl xa xl.length xc W)).mono ?_
      rintro e w' ⟨rfl, rfl⟩
      have hsW := hB1.size
      have hr' : (W.alloc (.cells #[.slice xa xl.length xc] 34)).heap[l]? = some (.loop r) := (Below.heap_alloc W _ l (Array.getElem?_eq_some_iff.1 hr).1).trans hr
      have bN := Boxed.new W 34 (.slice xa xl.length xc)
      have hbN : Below W.heap.size W (W.alloc (.cells #[.slice xa xl.length xc] 34)) := (Below.refl _ _).alloc (Nat.le_refl _) _
      have hszN : W.heap.size + 1 ≤ (W.alloc (.cells #[.slice xa xl.length xc] 34)).heap.size := by simp
      have hkN : KeepsFrom W0.heap.size W (W.alloc (.cells #[.slice xa xl.length xc] 34)) := (KeepsOthers.alloc _ _).from _
      obtain ⟨W1, hW1⟩ : ∃ W1, W.alloc (.cells #[.slice xa xl.length xc] 34) = W1 := ⟨_, rfl⟩
      rw [hW1] at hr' bN hbN hszN hkN ⊢
      clear hW1
      have hb01 : Below W0.heap.size W0 W1 := hB1.trans (hbN.mono hsW)
      have hrx : Reads W1 W1.heap.size 3 xa xl.length (xl.flatMap pointCells) := (HGx.out.1.below hb01).more (by omega)
      have hlx : xl.length ≤ 9223372036854775807 := HGx.out.2
      gi_wp2_with fail
      refine wpIn_rangeFunc_ownN (l₀ := l) (r₀ := r) rfl hr' (by omega) (gf := 328) (lb := #[.pointer (some ⟨W.heap.size, 0, none⟩)]) rfl trivial (enters_of Tryz.func328 (by kernel_rfl) rfl)
        ((backP_stops Fence.wide _ trivial rfl (by omega) W.heap.size W1.heap.size xc xa xl hlx W1 (by omega) (Nat.le_refl _) bN.cell hrx).inRound l) belowK_t (belowK_b (Nat.le_refl _)) (Below.refl _ _) (fun _ => rfl)
        (fun pre' W' => (NoHit s t pre' ∧ Below W1.heap.size W1 W') ∧ KeepsFrom W0.heap.size W W')
        (fun cd pre' W' => ((cd = .ret ∧ ∃ v, Hits s t pre' v ∧ Boxed W' (w.heap.size + 1 + 1) 3 (.int .i64 v) ∧ Boxed W' (w.heap.size + 1 + 1 + 1) 4 (.bool true) ∧ Boxed W' (w.heap.size + 1 + 1 + 1 + 1) 27 (.int .i64 0)) ∧ Ev.Fr (B3 w.heap.size) W0 W') ∧ KeepsFrom W0.heap.size W W')
        (OwnFrom.and (OwnFrom.and (ownFrom_pure _ _) (ownFrom_below (Nat.le_refl _) (Nat.le_refl _))) (ownFrom_keepsFrom (by omega)))
        (fun cd sx X Y row hs hg hr => by
          obtain ⟨⟨⟨h0, v, h1, k8, k9, k10⟩, hb⟩, hk⟩ := hs
          exact ⟨⟨⟨h0, v, h1, blk_own k8 hg (fun r e => (hr r e).2), blk_own k9 hg (fun r e => (hr r e).2), blk_own k10 hg (fun r e => (hr r e).2)⟩, fr_own3 (by omega) hb hg hr⟩, ownFrom_keepsFrom (β := Unit) (by omega) () X Y row hk hg hr⟩)
        ⟨⟨noHit_nil s t, Below.refl _ _⟩, hkN⟩
        (fun y a'' W'' => ∃ Bx, Blk W'' Bx 46 #[.string y.2.1, .int .i64 y.2.2.1, .int .i64 y.2.2.2] ∧ a'' = { tmps := #[a0, a1, .string s, .int .i64 t, undef, undef, .pointer (some ⟨w.heap.size, 0, none⟩), .pointer (some ⟨w.heap.size + 1, 0, none⟩), .pointer (some ⟨w.heap.size + 1 + 1, 0, none⟩), .pointer (some ⟨w.heap.size + 1 + 1 + 1, 0, none⟩), .pointer (some ⟨w.heap.size + 1 + 1 + 1 + 1, 0, none⟩), .slice Av L.length cv, .bool true, undef, .slice xa xl.length xc, undef, .pointer (some ⟨Bx, 0, none⟩), .tuple #[.slice Av L.length cv, .bool true], a0, a1, .tuple #[.slice Av L.length cv, .bool true], .slice Av L.length cv, .bool true, .bool true, .bool false, .slice Av L.length cv, .func (.func 327) #[] #[.pointer (some ⟨w2.heap.size, 0, none⟩)], .int .i64 xi, .slice xa xl.length xc, .slice xa xl.length xc, .func (.func 328) #[] #[.pointer (some ⟨W.heap.size, 0, none⟩)], .int .i64 y.1, .agg #[.string y.2.1, .int .i64 y.2.2.1, .int .i64 y.2.2.2], undef, undef, undef, undef, undef, undef, undef, undef, undef, undef, undef, undef, undef], defers := [] })
        (fun y a'' _ X Y row hs hg hr => by obtain ⟨Bx, e1, e2⟩ := hs; exact ⟨Bx, blk_own e1 hg (fun r e => (hr r e).2), e2⟩)
        ?assign2 ?body2 ?done2 ?stop2
      case assign2 =>
        rintro l2 pre' y W' K ⟨⟨hq, hBW⟩, hKF⟩ hK
        gi_wp2
        exact hK _ _ ((KeepsOthers.alloc _ _).from _) ((Below.refl _ W').alloc hBW.size _) ⟨⟨hq, hBW.alloc hBW.size _⟩, hKF.trans ((KeepsOthers.alloc _ _).from _)⟩ ⟨W'.heap.size, Blk.new W' _ _, rfl⟩
      case body2 =>
        rintro l2 pre' y a'' W' _ _ ⟨⟨hq, hBW⟩, hKF⟩ ⟨Bx, bX, rfl⟩ _
        obtain ⟨yi, nm, t0, v0⟩ := y
        obtain ⟨x0, x1, x2⟩ := pt3_of bX
        have hb0W : Below W0.heap.size W0 W' := hb01.trans (hBW.mono hb01.size)
        have e6 := (boxed_below a6 hb0W).cell
        have e7 := (boxed_below a7 hb0W).cell
        have d8 := boxed_below a8 hb0W
        have d9 := boxed_below a9 hb0W
        have d10 := boxed_below a10 hb0W
        have c8 := d8.cell
        have f8 := d8.frozen
        have c9 := d9.cell
        have f9 := d9.frozen
        have c10 := d10.cell
        have f10 := d10.frozen
        have hbwW : Ev.Fr (B3 w.heap.size) W0 W' := fr_b3 hb0W
        by_cases h1 : nm = s
        · have hz1 : (nm.toList == s.toList) = true := by simp [h1]
          by_cases h2 : t0 = t
          · have hz2 : (t0 != t) = false := by simp [h2]
            have hh := hit_yes (v := v0) h1 h2
            clear h1 h2
            gi_wp2
            exact ⟨((KeepsOthers.setCell _ _ _).trans ((KeepsOthers.setCell _ _ _).trans (KeepsOthers.setCell _ _ _))).from _, ⟨⟨rfl, v0, hits_snoc hq hh, ((d8.set _).other (by omega) _).other (by omega) _, ((d9.other (by omega) _).set _).other (by omega) _, ((d10.other (by omega) _).other (by omega) _).set _⟩, fr_set3 (fr_set3 (fr_set3 hbwW (p := ⟨_, 0, none⟩) (.inl rfl) _) (p := ⟨_, 0, none⟩) (.inr (.inl rfl)) _) (p := ⟨_, 0, none⟩) (.inr (.inr rfl)) _⟩, hKF.trans (((KeepsOthers.setCell _ _ _).trans ((KeepsOthers.setCell _ _ _).trans (KeepsOthers.setCell _ _ _))).from _)⟩
          · have hz2 : (t0 != t) = true := by simp [h2]
            have hh := hit_no2 (nm := nm) (s := s) (v := v0) h2
            clear h1 h2
            gi_wp2
            exact ⟨KeepsFrom.refl _ _, Below.refl _ _, ⟨⟨noHit_snoc hq hh, hBW⟩, hKF⟩⟩
        · have hz1 : (nm.toList == s.toList) = false := list_ne h1
          have hh := hit_no1 (t0 := t0) (t := t) (v := v0) h1
          clear h1
          gi_wp2
          exact ⟨KeepsFrom.refl _ _, Below.refl _ _, ⟨⟨noHit_snoc hq hh, hBW⟩, hKF⟩⟩
      case done2 =>
        rintro ys' W' hys ⟨⟨hq, hBW⟩, hKF⟩
        gi_wp2
        have hb0W : Below W0.heap.size W0 W' := hb01.trans (hBW.mono hb01.size)
        exact ⟨hKF, (hbN.mono hsW).trans (hBW.mono hb01.size), ⟨fun z hz => (List.mem_append.1 hz).elim (hp z) (fun e => by rw [List.mem_singleton] at e; subst e; exact find_no hys hq), hb0W⟩⟩
      case stop2 =>
        rintro cd pre' W' ⟨d, hd, hpre⟩ ⟨⟨⟨rfl, v, hh, k8, k9, k10⟩, hbH⟩, hKF⟩
        gi_wp2
        exact ⟨hKF, ⟨rfl, pre, _, _, rfl, hp, hits_at hpre hh, k8, k9, k10⟩, hbH⟩
    case done =>
      rintro D zs W hD hzs ⟨hp, hB1⟩ hK
      have d8 := boxed_below a8 hB1
      have d9 := boxed_below a9 hB1
      have d10 := boxed_below a10 hB1
      have c8 := d8.cell
      have f8 := d8.frozen
      have c9 := d9.cell
      have f9 := d9.frozen
      have c10 := d10.cell
      have f10 := d10.frozen
      have hno := last_no hzs hp
      gi_wp2
      have hK' : (((W.setCell ⟨w.heap.size + 1 + 1, 0, none⟩ (.int .i64 0)).setCell ⟨w.heap.size + 1 + 1 + 1, 0, none⟩ (.bool false)).setCell ⟨w.heap.size + 1 + 1 + 1 + 1, 0, none⟩ (.int .i64 0)).heap[D]? = some (.deferred (some [])) := ((KeepsOthers.setCell _ _ _).trans ((KeepsOthers.setCell _ _ _).trans (KeepsOthers.setCell _ _ _))).same D _ hK rfl
      have q8 : Boxed (((W.setCell ⟨w.heap.size + 1 + 1, 0, none⟩ (.int .i64 0)).setCell ⟨w.heap.size + 1 + 1 + 1, 0, none⟩ (.bool false)).setCell ⟨w.heap.size + 1 + 1 + 1 + 1, 0, none⟩ (.int .i64 0)) (w.heap.size + 1 + 1) 3 (.int .i64 0) := ((d8.set _).other (by omega) _).other (by omega) _
      have q9 : Boxed (((W.setCell ⟨w.heap.size + 1 + 1, 0, none⟩ (.int .i64 0)).setCell ⟨w.heap.size + 1 + 1 + 1, 0, none⟩ (.bool false)).setCell ⟨w.heap.size + 1 + 1 + 1 + 1, 0, none⟩ (.int .i64 0)) (w.heap.size + 1 + 1 + 1) 4 (.bool false) := ((d9.other (by omega) _).set _).other (by omega) _
      have q10 : Boxed (((W.setCell ⟨w.heap.size + 1 + 1, 0, none⟩ (.int .i64 0)).setCell ⟨w.heap.size + 1 + 1 + 1, 0, none⟩ (.bool false)).setCell ⟨w.heap.size + 1 + 1 + 1 + 1, 0, none⟩ (.int .i64 0)) (w.heap.size + 1 + 1 + 1 + 1) 27 (.int .i64 0) := ((d10.other (by omega) _).other (by omega) _).set _
      have qb := fr_set3 (fr_set3 (fr_set3 (fr_b3 (S := B3 w.heap.size) hB1) (p := ⟨w.heap.size + 1 + 1, 0, none⟩) (.inl rfl) (.int .i64 0)) (p := ⟨w.heap.size + 1 + 1 + 1, 0, none⟩) (.inr (.inl rfl)) (.bool false)) (p := ⟨w.heap.size + 1 + 1 + 1 + 1, 0, none⟩) (.inr (.inr rfl)) (.int .i64 0)
      have Hr9 : Hid (res = (0, false, 0)) := by show _ = _; rw [Hres'.out, hno]; rfl
      generalize ((W.setCell ⟨w.heap.size + 1 + 1, 0, none⟩ (.int .i64 0)).setCell ⟨w.heap.size + 1 + 1 + 1, 0, none⟩ (.bool false)).setCell ⟨w.heap.size + 1 + 1 + 1 + 1, 0, none⟩ (.int .i64 0) = WZ at *
      clear c8 c9 c10 f8 f9 f10 d8 d9 d10
      refine ⟨by simp, .inl ⟨_, _, rfl, run_takeDeferred hK', ?_⟩⟩
      have g8 := cell_kept q8.cell (grownBy_putObj' _ D (.deferred none)) (fun r e => by cases e; exact ⟨_, hK', rfl⟩)
      have g9 := cell_kept q9.cell (grownBy_putObj' _ D (.deferred none)) (fun r e => by cases e; exact ⟨_, hK', rfl⟩)
      have g10 := cell_kept q10.cell (grownBy_putObj' _ D (.deferred none)) (fun r e => by cases e; exact ⟨_, hK', rfl⟩)
      refine ⟨.tuple #[.int .i64 0, .bool false, .int .i64 0], ?_, Hend.out _ _ (by rw [Hr9.out]) (fr_grown3 qb (grownBy_putObj' _ D (.deferred none)) (fun r e => by cases e; omega))⟩
      simp [results, Tryz.f295, go_sem, g8, g9, g10]
    case stop =>
      rintro D cd pre W hD ⟨d, hd, hpre⟩ ⟨⟨rfl, q, x, v, rfl, hq, hx, k8, k9, k10⟩, hbH⟩ hK
      have hat := last_at hpre hq hx
      gi_wp2
      have Hr9 : Hid (res = (v, true, 0)) := by show _ = _; rw [Hres'.out, hat]; rfl
      refine ⟨by simp, .inl ⟨_, _, rfl, run_takeDeferred hK, ?_⟩⟩
      have g8 := cell_kept k8.cell (grownBy_putObj' _ D (.deferred none)) (fun r e => by cases e; exact ⟨_, hK, rfl⟩)
      have g9 := cell_kept k9.cell (grownBy_putObj' _ D (.deferred none)) (fun r e => by cases e; exact ⟨_, hK, rfl⟩)
      have g10 := cell_kept k10.cell (grownBy_putObj' _ D (.deferred none)) (fun r e => by cases e; exact ⟨_, hK, rfl⟩)
      refine ⟨.tuple #[.int .i64 v, .bool true, .int .i64 0], ?_, Hend.out _ _ (by rw [Hr9.out]) (fr_grown3 hbH (grownBy_putObj' _ D (.deferred none)) (fun r e => by cases e; omega))⟩
      simp [results, Tryz.f295, go_sem, g8, g9, g10]
end Go.Proofs.YtcchekmejnhlmaaGreat
namespace Go.Proofs.YtcchekmejnhlmaaGreat
namespace Ev
open Go.RowKit
noncomputable section
set_option linter.unusedVariables false
def oB {α β : Type} (x : Option α) (f : α → Option β) : Option β := Option.rec none f x
theorem oB_some {α β : Type} {x : Option α} {f : α → Option β} {y : β} (h : oB x f = some y) : ∃ a, x = some a ∧ f a = some y := by
  cases x with
  | none => cases h
  | some a => exact ⟨a, rfl, h⟩
abbrev RnT := T8 Nat
def predO (n : Nat) : Option Nat := Nat.rec none (fun j _ => some j) n
def rnI (τ : RnT) (id : Nat) : Option Nat := cnd (Nat.blt id HB) (predO (tget 5 0 τ id)) none
def rnCaps (τ : RnT) : List (Nat × Nat) → Option (List (Nat × Nat))
  | [] => some []
  | p :: r => oB (rnI τ p.1) fun j => oB (rnCaps τ r) fun l => some ((j, p.2) :: l)
def rnS (τ : RnT) (x : Sc) : Option Sc := Sc.rec (some .u) (fun b => some (.b b)) (fun k n => some (.i k n)) (fun l n => some (.s l n)) (some .pn) (fun id off => oB (rnI τ id) fun j => some (.p j off)) (some .sn)
  (fun id off len cap es => oB (rnI τ id) fun j => some (.sk j off len cap es)) (fun id off len lb es => oB (rnI τ id) fun j => some (.su j off len lb es)) (some .se) (some .mn) (fun id => oB (rnI τ id) fun j => some (.m j)) (some .fn) (fun fid caps => oB (rnCaps τ caps) fun l => some (.f fid l)) (some .ni) x
def rnL (τ : RnT) : List Sc → Option (List Sc)
  | [] => some []
  | x :: r => oB (rnS τ x) fun y => oB (rnL τ r) fun l => some (y :: l)
def rnE (τ : RnT) (e : E) : Option E := E.rec (fun x => oB (rnS τ x) fun y => some (.c y)) (fun xs => oB (rnL τ xs) fun ys => some (.a ys)) e
def rnEs (τ : RnT) : List E → Option (List E)
  | [] => some []
  | x :: r => oB (rnE τ x) fun y => oB (rnEs τ r) fun l => some (y :: l)
def rnV (τ : RnT) (v : V) : Option V := V.rec (fun x => oB (rnS τ x) fun y => some (.c y)) (fun xs => oB (rnL τ xs) fun ys => some (.a ys)) (fun es => oB (rnEs τ es) fun ys => some (.t ys)) v
/-- a tree, leaf by leaf -/
def mapT {α : Type} (f : α → Option α) (t : T8 α) : Option (T8 α) :=
  T8.rec (some .z) (fun x => oB (f x) fun y => some (.l y)) (fun _ _ _ _ _ _ _ _ a b c d e g h i => oB a fun a => oB b fun b => oB c fun c => oB d fun d => oB e fun e => oB g fun g => oB h fun h => oB i fun i => some (.n a b c d e g h i)) t
def rnMp (τ : RnT) : List (Sc × E) → Option (List (Sc × E))
  | [] => some []
  | p :: r => oB (rnS τ p.1) fun x => oB (rnE τ p.2) fun y => oB (rnMp τ r) fun l => some ((x, y) :: l)
def rnO (τ : RnT) (o : Ob) : Option Ob := Ob.rec (some .no) (fun n x dep d t => oB (rnS τ d) fun d => oB (mapT (rnS τ) t) fun t => some (.row n x dep d t)) (fun es => oB (rnMp τ es) fun es => some (.mp es))
  (fun el a buf => oB (rnS τ a) fun a => oB (rnS τ buf) fun buf => some (.bd el a buf)) (fun el len n => some (.by' el len n)) o
/-- the old numbers in their new row: l; where each one stands -/
def mkRn (l : List Nat) : Nat → RnT → RnT := List.rec (motive := fun _ => Nat → RnT → RnT) (fun _ τ => τ) (fun id _ ih j τ => T8.fc (tset 5 τ id (Nat.add j 1)) fun τ => ih (Nat.add j 1) τ) l
def gcH (τ : RnT) (H : HT) (l : List Nat) : Nat → HT → Option HT := List.rec (motive := fun _ => Nat → HT → Option HT) (fun _ K => some K) (fun id _ ih j K => cnd (and (Nat.blt id HB) (and (Nat.blt j HB) (Nat.beq (tget 5 0 τ id) (Nat.add j 1)))) (oB (rnO τ (hget H id)) fun o => T8.fc (hset K j o) fun K => ih (Nat.add j 1) K) none) l
def gcS (l : List Nat) (t : T8 V) (H : HT) (τ : RnT) : Option (T8 V × HT) := oB (mapT (rnV τ) t) fun t => oB (gcH τ H l 0 .z) fun K => some (t, K)
def gc (l : List Nat) (t : T8 V) (H : HT) : Option (T8 V × HT) := T8.fc (mkRn l 0 .z) fun τ => gcS l t H τ
/-- τ tells where in l a number stands -/
def RnOk (l : List Nat) (τ : RnT) : Prop := ∀ id j, id < HB → tget 5 0 τ id = j + 1 → l[j]? = some id
theorem mkRn_ok : ∀ (l p : List Nat) (τ : RnT), (∀ id ∈ l, id < HB) → RnOk (p ++ l) τ → RnOk (p ++ l) (mkRn l p.length τ)
  | [], p, τ, _, h => h
  | id :: l, p, τ, hl, h => by
    show RnOk (p ++ id :: l) (T8.fc (tset 5 τ id (p.length + 1)) fun τ => mkRn l (p.length + 1) τ)
    rw [T8.fc_eq]
    have hid := hl id (List.mem_cons_self ..)
    have e : p ++ id :: l = (p ++ [id]) ++ l := by simp
    have hp : p.length + 1 = (p ++ [id]).length := by simp
    rw [e, hp]
    refine mkRn_ok l (p ++ [id]) _ (fun i q => hl i (List.mem_cons_of_mem _ q)) fun i j hi hq => ?_
    rw [tget_set (by simpa [HB] using hid) (by simpa [HB] using hi)] at hq
    by_cases c : i = id
    · rw [if_pos c] at hq
      have : j = p.length := by simp at hq; omega
      rw [this, c, ← e]
      simp
    · rw [if_neg c] at hq
      rw [← e]
      exact h i j hi hq
section
variable {l : List Nat} {τ : RnT} {G : Gh}
/-- the ghosts by the new numbers -/
def gcG (l : List Nat) (G : Gh) : Gh := fun j => match l[j]? with | some id => G id | none => none
theorem rnI_ok (h : RnOk l τ) {id j : Nat} (hr : rnI τ id = some j) : gcG l G j = G id := by
  unfold rnI at hr
  obtain ⟨h1, h2⟩ := cond_some hr
  have h3 : tget 5 0 τ id = j + 1 := by
    unfold predO at h2
    cases hq : tget 5 0 τ id with
    | zero => rw [hq] at h2; cases h2
    | succ i =>
      rw [hq] at h2
      have h2 : some i = some j := h2
      cases h2; rfl
  unfold gcG
  rw [h id j (blt_true h1) h3]
theorem rnCaps_ok (h : RnOk l τ) : ∀ {caps r : List (Nat × Nat)} {cs : List Value}, rnCaps τ caps = some r → All2 (fun (p : Nat × Nat) c => ∃ b sz, G p.1 = some (b, sz) ∧ c = Value.pointer (some ⟨b, p.2, none⟩)) caps cs → All2 (fun (p : Nat × Nat) c => ∃ b sz, gcG l G p.1 = some (b, sz) ∧ c = Value.pointer (some ⟨b, p.2, none⟩)) r cs
  | [], _, _, hr, ha => by cases hr; cases ha; exact .nil
  | p :: caps, _, _, hr, ha => by
    obtain ⟨j, h1, hr⟩ := oB_some hr
    obtain ⟨r', h2, hr⟩ := oB_some hr
    cases hr
    cases ha with
    | cons a b =>
      obtain ⟨bb, sz, g1, g2⟩ := a
      exact .cons ⟨bb, sz, by rw [rnI_ok h h1]; exact g1, g2⟩ (rnCaps_ok h h2 b)
theorem rnS_ok (h : RnOk l τ) {x y : Sc} {v : Value} (hr : rnS τ x = some y) (hx : Sc.ok G x v) : Sc.ok (gcG l G) y v := by
  cases x with
  | p id off =>
    obtain ⟨j, h1, hr⟩ := oB_some hr
    cases hr
    obtain ⟨b, sz, g, e⟩ := hx
    exact ⟨b, sz, by rw [rnI_ok h h1]; exact g, e⟩
  | sk id off len cap es =>
    obtain ⟨j, h1, hr⟩ := oB_some hr
    cases hr
    obtain ⟨b, sz, g, e⟩ := hx
    exact ⟨b, sz, by rw [rnI_ok h h1]; exact g, e⟩
  | su id off len lb es =>
    obtain ⟨j, h1, hr⟩ := oB_some hr
    cases hr
    obtain ⟨b, sz, c, g, e⟩ := hx
    exact ⟨b, sz, c, by rw [rnI_ok h h1]; exact g, e⟩
  | m id =>
    obtain ⟨j, h1, hr⟩ := oB_some hr
    cases hr
    obtain ⟨b, sz, g, e⟩ := hx
    exact ⟨b, sz, by rw [rnI_ok h h1]; exact g, e⟩
  | f fid caps =>
    obtain ⟨r, h1, hr⟩ := oB_some hr
    cases hr
    obtain ⟨cs, e, ha⟩ := hx
    exact ⟨cs, e, rnCaps_ok h h1 ha⟩
  | _ => cases hr; exact hx
theorem rnL_ok (h : RnOk l τ) : ∀ {xs ys : List Sc} {vs : List Value}, rnL τ xs = some ys → All2 (Sc.ok G) xs vs → All2 (Sc.ok (gcG l G)) ys vs
  | [], _, _, hr, ha => by cases hr; cases ha; exact .nil
  | x :: xs, _, _, hr, ha => by
    obtain ⟨y, h1, hr⟩ := oB_some hr
    obtain ⟨ys, h2, hr⟩ := oB_some hr
    cases hr
    cases ha with
    | cons a b => exact .cons (rnS_ok h h1 a) (rnL_ok h h2 b)
theorem rnE_ok (h : RnOk l τ) {e f : E} {v : Value} (hr : rnE τ e = some f) (he : E.ok G e v) : E.ok (gcG l G) f v := by
  cases e with
  | c x =>
    obtain ⟨y, h1, hr⟩ := oB_some hr
    cases hr
    exact rnS_ok h h1 he
  | a xs =>
    obtain ⟨ys, h1, hr⟩ := oB_some hr
    cases hr
    obtain ⟨arr, e, ha⟩ := he
    exact ⟨arr, e, rnL_ok h h1 ha⟩
theorem rnEs_ok (h : RnOk l τ) : ∀ {xs ys : List E} {vs : List Value}, rnEs τ xs = some ys → All2 (E.ok G) xs vs → All2 (E.ok (gcG l G)) ys vs
  | [], _, _, hr, ha => by cases hr; cases ha; exact .nil
  | x :: xs, _, _, hr, ha => by
    obtain ⟨y, h1, hr⟩ := oB_some hr
    obtain ⟨ys, h2, hr⟩ := oB_some hr
    cases hr
    cases ha with
    | cons a b => exact .cons (rnE_ok h h1 a) (rnEs_ok h h2 b)
theorem rnV_ok (h : RnOk l τ) {u v : V} {c : Value} (hr : rnV τ u = some v) (hu : V.ok G u c) : V.ok (gcG l G) v c := by
  cases u with
  | c x =>
    obtain ⟨y, h1, hr⟩ := oB_some hr
    cases hr
    exact rnS_ok h h1 hu
  | a xs =>
    obtain ⟨ys, h1, hr⟩ := oB_some hr
    cases hr
    obtain ⟨arr, e, ha⟩ := hu
    exact ⟨arr, e, rnL_ok h h1 ha⟩
  | t es =>
    obtain ⟨ys, h1, hr⟩ := oB_some hr
    cases hr
    obtain ⟨arr, e, ha⟩ := hu
    exact ⟨arr, e, rnEs_ok h h1 ha⟩
end
theorem mapT_get {α : Type} {f : α → Option α} {z z' : α} (hz : f z = some z') : ∀ (p : List D8) {t t' : T8 α}, mapT f t = some t' → f (T8.get z p t) = some (T8.get z' p t')
  | [], .z, t', h => by cases h; exact hz
  | [], .l x, t', h => by
    obtain ⟨y, h1, h⟩ := oB_some h
    cases h; exact h1
  | [], .n a b c d e g i j, t', h => by
    obtain ⟨_, _, h⟩ := oB_some h
    obtain ⟨_, _, h⟩ := oB_some h
    obtain ⟨_, _, h⟩ := oB_some h
    obtain ⟨_, _, h⟩ := oB_some h
    obtain ⟨_, _, h⟩ := oB_some h
    obtain ⟨_, _, h⟩ := oB_some h
    obtain ⟨_, _, h⟩ := oB_some h
    obtain ⟨_, _, h⟩ := oB_some h
    cases h; exact hz
  | dd :: p, .z, t', h => by
    cases h
    show f (T8.get z p (T8.ch dd .z)) = some (T8.get z' p (T8.ch dd .z))
    have e : T8.ch dd (.z : T8 α) = .z := by cases dd <;> rfl
    rw [e]; exact mapT_get hz p rfl
  | dd :: p, .l x, t', h => by
    obtain ⟨y, h1, h⟩ := oB_some h
    cases h
    show f (T8.get z p (T8.ch dd (.l x))) = some (T8.get z' p (T8.ch dd (.l y)))
    have e : ∀ x : α, T8.ch dd (.l x) = .z := fun x => by cases dd <;> rfl
    rw [e, e]; exact mapT_get hz p rfl
  | dd :: p, .n a b c d e g i j, t', h => by
    obtain ⟨a', ha, h⟩ := oB_some h
    obtain ⟨b', hb, h⟩ := oB_some h
    obtain ⟨c', hc, h⟩ := oB_some h
    obtain ⟨d', hd, h⟩ := oB_some h
    obtain ⟨e', he, h⟩ := oB_some h
    obtain ⟨g', hg, h⟩ := oB_some h
    obtain ⟨i', hi, h⟩ := oB_some h
    obtain ⟨j', hj, h⟩ := oB_some h
    cases h
    show f (T8.get z p (T8.ch dd (.n a b c d e g i j))) = some (T8.get z' p (T8.ch dd (.n a' b' c' d' e' g' i' j')))
    cases dd
    · exact mapT_get hz p ha
    · exact mapT_get hz p hb
    · exact mapT_get hz p hc
    · exact mapT_get hz p hd
    · exact mapT_get hz p he
    · exact mapT_get hz p hg
    · exact mapT_get hz p hi
    · exact mapT_get hz p hj
theorem mapT_tget {α : Type} {f : α → Option α} {z z' : α} (hz : f z = some z') (k i : Nat) {t t' : T8 α} (h : mapT f t = some t') : f (tget k z t i) = some (tget k z' t' i) := by
  rw [tget_eq, tget_eq]
  exact mapT_get hz _ h
section
variable {l : List Nat} {τ : RnT} {G : Gh}
theorem rnMp_ok (h : RnOk l τ) : ∀ {es fs : List (Sc × E)} {ents : List MapEntry}, rnMp τ es = some fs → All2 (fun (p : Sc × E) (e : MapEntry) => Sc.ok G p.1 e.key ∧ E.ok G p.2 e.val) es ents → All2 (fun (p : Sc × E) (e : MapEntry) => Sc.ok (gcG l G) p.1 e.key ∧ E.ok (gcG l G) p.2 e.val) fs ents
  | [], _, _, hr, ha => by cases hr; cases ha; exact .nil
  | p :: es, _, _, hr, ha => by
    obtain ⟨x, h1, hr⟩ := oB_some hr
    obtain ⟨y, h2, hr⟩ := oB_some hr
    obtain ⟨r, h3, hr⟩ := oB_some hr
    cases hr
    cases ha with
    | cons a b => exact .cons ⟨rnS_ok h h1 a.1, rnE_ok h h2 a.2⟩ (rnMp_ok h h3 b)
theorem rnO_ok (h : RnOk l τ) {o o' : Ob} {ob : Obj} {sz : Nat} (hr : rnO τ o = some o') (ho : ObOk G sz o ob) : ObOk (gcG l G) sz o' ob := by
  cases o with
  | no => cases hr; exact ho
  | row n x dep d t =>
    obtain ⟨d', h1, hr⟩ := oB_some hr
    obtain ⟨t', h2, hr⟩ := oB_some hr
    cases hr
    obtain ⟨arr, el, fz, e, k1, k2, k3, k4, k5, k6⟩ := ho
    exact ⟨arr, el, fz, e, k1, k2, k3, k4, k5, fun i hi => rnS_ok h (mapT_tget h1 dep i h2) (k6 i hi)⟩
  | mp es =>
    obtain ⟨fs, h1, hr⟩ := oB_some hr
    cases hr
    obtain ⟨ents, clock, e, k1, k2⟩ := ho
    exact ⟨ents, clock, e, k1, rnMp_ok h h1 k2⟩
  | bd el a buf =>
    obtain ⟨a', h1, hr⟩ := oB_some hr
    obtain ⟨b', h2, hr⟩ := oB_some hr
    cases hr
    obtain ⟨k0, p, v, e, k1, k2⟩ := ho
    exact ⟨k0, p, v, e, rnS_ok h h1 k1, rnS_ok h h2 k2⟩
  | by' el len n => cases hr; exact ho
theorem rnO_no {o : Ob} (h : rnO τ .no = some o) : o = .no := by cases h; rfl
/-- the new heap: each object is an old one by its new name, each new number once -/
theorem gcH_ok {H : HT} : ∀ (l p : List Nat) (K K' : HT), gcH τ H l p.length K = some K' → (∀ j, hp K j ≠ .no → ∃ id, p[j]? = some id ∧ id < HB ∧ tget 5 0 τ id = j + 1 ∧ rnO τ (hget H id) = some (hp K j)) → ∀ j, hp K' j ≠ .no → ∃ id, (p ++ l)[j]? = some id ∧ id < HB ∧ tget 5 0 τ id = j + 1 ∧ rnO τ (hget H id) = some (hp K' j)
  | [], p, K, K', h, hK, j, hj => by
    have h : some K = some K' := h
    cases h
    rw [List.append_nil]; exact hK j hj
  | id :: l, p, K, K', h, hK, j, hj => by
    obtain ⟨h0, h⟩ := cond_some (show cnd (and (Nat.blt id HB) (and (Nat.blt p.length HB) (Nat.beq (tget 5 0 τ id) (Nat.add p.length 1)))) (oB (rnO τ (hget H id)) fun o => T8.fc (hset K p.length o) fun K => gcH τ H l (Nat.add p.length 1) K) none = some K' from h)
    rw [Bool.and_eq_true, Bool.and_eq_true] at h0
    obtain ⟨o, h1, h⟩ := oB_some h
    rw [T8.fc_eq] at h
    have hp' : Nat.add p.length 1 = (p ++ [id]).length := by simp
    rw [hp'] at h
    have e : p ++ id :: l = (p ++ [id]) ++ l := by simp
    rw [e]
    refine gcH_ok l (p ++ [id]) _ _ h (fun i hi => ?_) j hj
    rw [hp_set _ (blt_true h0.2.1)] at hi ⊢
    unfold upd at hi ⊢
    by_cases c : i = p.length
    · rw [if_pos c]
      refine ⟨id, by rw [c]; simp, blt_true h0.1, by rw [c]; exact nbeq_eq h0.2.2, h1⟩
    · rw [if_neg c] at hi ⊢
      obtain ⟨i', g1, g2, g3, g4⟩ := hK i hi
      refine ⟨i', ?_, g2, g3, g4⟩
      have : i < p.length := (List.getElem?_eq_some_iff.1 g1).1
      rw [List.getElem?_append_left this]; exact g1
end
theorem gcH_lt {τ : RnT} {H : HT} : ∀ (l : List Nat) (j : Nat) (K K' : HT), gcH τ H l j K = some K' → ∀ id ∈ l, id < HB
  | [], _, _, _, _, _, q => by cases q
  | id :: l, j, K, K', h, i, q => by
    obtain ⟨h0, h⟩ := cond_some (show cnd (and (Nat.blt id HB) (and (Nat.blt j HB) (Nat.beq (tget 5 0 τ id) (Nat.add j 1)))) (oB (rnO τ (hget H id)) fun o => T8.fc (hset K j o) fun K => gcH τ H l (Nat.add j 1) K) none = some K' from h)
    rw [Bool.and_eq_true] at h0
    obtain ⟨o, h1, h⟩ := oB_some h
    rw [T8.fc_eq] at h
    rcases List.mem_cons.1 q with rfl | q
    · exact blt_true h0.1
    · exact gcH_lt l _ _ _ h i q
/-- what lies there, by the new numbers -/
theorem gc_ok {l : List Nat} {t t' : T8 V} {H H' : HT} (h : gc l t H = some (t', H')) {nt : Nat} {W : List Nat} {G : Gh} {w : World} {a : Act} (hR : R G (hp H) w) (hr : RegOk ⟨nt, W, []⟩ G ⟨t, []⟩ a) :
    R (gcG l G) (hp H') w ∧ RegOk ⟨nt, W, []⟩ (gcG l G) ⟨t', []⟩ a ∧ (∀ j, l.length ≤ j → gcG l G j = none) ∧ ∀ b, Foot (gcG l G) (hp H') b → Foot G (hp H) b := by
  unfold gc at h
  rw [T8.fc_eq] at h
  obtain ⟨t2, h1, h⟩ := oB_some h
  obtain ⟨K, h2, h⟩ := oB_some h
  cases h
  have hl := gcH_lt l 0 .z _ h2
  have hτ : RnOk l (mkRn l 0 .z) := mkRn_ok l [] .z hl fun id j _ q => by rw [tget_z] at q; cases q
  generalize mkRn l 0 .z = τ at *
  have hobj := gcH_ok l [] .z _ h2 (fun j hj => absurd (by rw [hp_z]) hj)
  rw [List.nil_append] at hobj
  have hg : ∀ j id, l[j]? = some id → gcG l G j = G id := fun j id q => by unfold gcG; rw [q]
  have hno : ∀ {j id}, id < HB → rnO τ (hget H id) = some (hp H' j) → hp H' j ≠ .no → hp H id ≠ .no := fun {j id} a b c q => by
    rw [hp_get a] at q
    rw [q] at b
    exact c (rnO_no b)
  refine ⟨⟨fun j hj => ?_, fun i j b si sj hi hj gi gj => ?_⟩, ⟨fun j h1' h2' => ?_, fun t p q => by cases q⟩, fun j hj => ?_, fun b hb => ?_⟩
  · obtain ⟨id, g1, g2, g3, g4⟩ := hobj j hj
    obtain ⟨b, sz, o, k1, k2, k3⟩ := hR.1 id (hno g2 g4 hj)
    rw [hp_get g2] at k3
    exact ⟨b, sz, o, by rw [hg j id g1]; exact k1, k2, rnO_ok hτ g4 k3⟩
  · obtain ⟨id, g1, g2, g3, g4⟩ := hobj i hi
    obtain ⟨id', g1', g2', g3', g4'⟩ := hobj j hj
    rw [hg i id g1] at gi
    rw [hg j id' g1'] at gj
    have := hR.2 id id' b si sj (hno g2 g4 hi) (hno g2' g4' hj) gi gj
    subst this
    omega
  · have := hr.w j h1' h2'
    refine rnV_ok hτ ?_ this
    exact mapT_tget (f := rnV τ) (z := V.t []) (z' := V.t []) rfl 2 j h1
  · unfold gcG; rw [List.getElem?_eq_none hj]
  · obtain ⟨j, sz, k1, k2⟩ := hb
    obtain ⟨id, g1, g2, g3, g4⟩ := hobj j k1
    rw [hg j id g1] at k2
    exact ⟨id, sz, hno g2 g4 k1, k2⟩
end
end Ev
end Go.Proofs.YtcchekmejnhlmaaGreat
namespace Go.Proofs.YtcchekmejnhlmaaGreat
namespace Ev
open Go.RowKit
noncomputable section
set_option linter.unusedVariables false
/-- code that runs from a heap of numbers below n to one of numbers below n' -/
def Rq (P : Program) (nt : Nat) (W : List Nat) (c : Code) (t : T8 V) (H : HT) (n : Nat) (ex : Ex) (t' : T8 V) (H' : HT) (n' : Nat) : Prop :=
  ∀ G a w, R G (hp H) w → RegOk ⟨nt, W, []⟩ G ⟨t, []⟩ a → a.tmps.size = nt → (∀ j, n ≤ j → G j = none) → ∀ Q : Exit → Act → World → Prop,
    (∀ G' a' w', R G' (hp H') w' → Fr (Foot G (hp H)) w w' → (∀ b, Foot G' (hp H') b → Foot G (hp H) b ∨ w.heap.size ≤ b) → RegOk ⟨nt, W, []⟩ G' ⟨t', []⟩ a' → a'.tmps.size = nt → a'.defers = a.defers → (∀ j, n' ≤ j → G' j = none) → Q (exOf ex) a' w') → c.wp P Q a w
/-- the same of code that was made -/
def RqK (P : Program) (nt : Nat) (W : List Nat) (k : K) (t : T8 V) (H : HT) (n : Nat) (ex : Ex) (t' : T8 V) (H' : HT) (n' : Nat) : Prop :=
  ∀ c, comp P nt W c = k → Rq P nt W c t H n ex t' H' n'
section
variable {P : Program} {nt : Nat} {W : List Nat} {call : CallT} {H H1 H' : HT} {n n1 n' : Nat} {t t1 t' : T8 V} {ex : Ex}
theorem rq_runs {c : Code} (h : Runs P nt W c t H n ex t' H' n') : Rq P nt W c t H n ex t' H' n' := by
  intro G a w hR hr hn hg Q hQ
  refine h.2 G a w hR hr hn (fun j h1 _ => hg j h1) Q fun G' a' w' s r m d => hQ G' a' w' s.r s.fr s.ft r m d fun j hj => ?_
  rw [s.ext.2 j (.inr hj)]
  exact hg j (Nat.le_trans h.1 hj)
theorem rq_gc {c : Code} {l : List Nat} (h : Rq P nt W c t H n ex t1 H1 n1) (hg : gc l t1 H1 = some (t', H')) : Rq P nt W c t H n ex t' H' l.length := by
  intro G a w hR hr hn hg0 Q hQ
  refine h G a w hR hr hn hg0 Q fun G' a' w' r f ft rg m d g => ?_
  obtain ⟨k1, k2, k3, k4⟩ := gc_ok hg r rg
  exact hQ _ a' w' k1 f (fun b hb => ft b (k4 b hb)) k2 m d k3
theorem rqK_run (hm : P.follows .mixedOrders = true) (hcall : CallOk P call) (hlen : W.length ≤ 64) (hnd : W.Nodup) {k : K} (h : runK call k t H n = .ok ex t' H' n') : RqK P nt W k t H n ex t' H' n' := by
  intro c hc
  subst hc
  rw [runK_comp] at h
  exact rq_runs (run_ok hm hcall (drawn_ok hcall) hlen hnd c _ _ _ _ _ _ _ h)
theorem rqK_gc {k : K} {l : List Nat} (h : RqK P nt W k t H n ex t1 H1 n1) (hg : gc l t1 H1 = some (t', H')) : RqK P nt W k t H n ex t' H' l.length :=
  fun c hc => rq_gc (h c hc) hg
theorem kReg_shape (x : Option CR) : (∃ l, kReg x = .s l) ∨ (∃ l, kReg x = .d l) ∨ kReg x = .no := by
  cases x with
  | none => exact .inr (.inr rfl)
  | some y => cases y with
    | s l => exact .inl ⟨l, rfl⟩
    | d l => exact .inr (.inl ⟨l, rfl⟩)
theorem kCond_shape (x : Option Od) (a b : K) : (∃ o, kCond x a b = .cond o a b) ∨ kCond x a b = .no := by
  cases x with
  | none => exact .inr rfl
  | some o => exact .inl ⟨o, rfl⟩
theorem rq_scope {x : Code} (h : Rq P nt W x t H n ex t' H' n') : Rq P nt W (.scope x) t H n ex t' H' n' := by
  intro G a w hR hr hn hg Q hQ
  refine wp_scope_straight (h G a w hR hr hn hg _ fun G' a' w' r f ft rg m d g => ?_)
  have := hQ G' a' w' r f ft rg m d g
  cases ex <;> exact this
theorem rq_seq {x y : Code} (h : Rq P nt W x t H n .nx t1 H1 n1) (k : Rq P nt W y t1 H1 n1 ex t' H' n') : Rq P nt W (.seq x y) t H n ex t' H' n' := by
  intro G a w hR hr hn hg Q hQ
  refine wp_seq (h G a w hR hr hn hg _ fun G1 a1 w1 r1 f1 ft1 rg1 m1 d1 g1 => ?_)
  refine k G1 a1 w1 r1 rg1 m1 g1 Q fun G2 a2 w2 r2 f2 ft2 rg2 m2 d2 g2 => hQ G2 a2 w2 r2 ?_ (fun b hb => ?_) rg2 m2 (d2.trans d1) g2
  · exact f1.trans f2 fun j hj hs => (ft1 j hs).resolve_right (by omega)
  · rcases ft2 b hb with q | q
    · exact ft1 b q
    · exact .inr (Nat.le_trans f1.size q)
theorem rqK_seq {a b : K} (h : RqK P nt W a t H n .nx t1 H1 n1) (k : RqK P nt W b t1 H1 n1 ex t' H' n') : RqK P nt W (.seq a b) t H n ex t' H' n' := by
  intro c
  induction c with
  | seq x y _ _ =>
    intro hc
    have hc : K.seq (comp P nt W x) (comp P nt W y) = .seq a b := hc
    cases hc
    exact rq_seq (h x rfl) (k y rfl)
  | scope x ih => intro hc; exact rq_scope (ih hc)
  | region id ops draw =>
    intro hc
    have hc : kReg (cReg P nt W ops draw) = .seq a b := hc
    rcases kReg_shape (cReg P nt W ops draw) with ⟨_, q⟩ | ⟨_, q⟩ | q <;> rw [q] at hc <;> cases hc
  | cond c x y _ _ =>
    intro hc
    have hc : kCond (cOd ⟨nt, W, []⟩ c) (comp P nt W x) (comp P nt W y) = .seq a b := hc
    rcases kCond_shape (cOd ⟨nt, W, []⟩ c) (comp P nt W x) (comp P nt W y) with ⟨_, q⟩ | q <;> rw [q] at hc <;> cases hc
  | _ => intro hc; cases hc
/-- a loop, round by round -/
def Rounds (P : Program) (nt : Nat) (W : List Nat) (k : K) (ex : Ex) (t' : T8 V) (H' : HT) (n' : Nat) : Nat → T8 V → HT → Nat → Prop
  | 0, _, _, _ => False
  | j + 1, t, H, n => (∃ t1 H1 n1, RqK P nt W k t H n .nx t1 H1 n1 ∧ Rounds P nt W k ex t' H' n' j t1 H1 n1) ∨ (ex ≠ .nx ∧ RqK P nt W k t H n ex t' H' n')
theorem rq_loop {x : Code} {k : K} (hk : comp P nt W x = k) {m : Nat} (h : Rounds P nt W k ex t' H' n' m t H n) : Rq P nt W (.loop x) t H n ex t' H' n' := by
  intro G a w hR hr hn hg Q hQ
  refine wp_loop_n (fun j a1 w1 => ∃ t1 H1 n1 G1, Rounds P nt W k ex t' H' n' j t1 H1 n1 ∧ R G1 (hp H1) w1 ∧ Fr (Foot G (hp H)) w w1 ∧ (∀ b, Foot G1 (hp H1) b → Foot G (hp H) b ∨ w.heap.size ≤ b) ∧ RegOk ⟨nt, W, []⟩ G1 ⟨t1, []⟩ a1 ∧ a1.tmps.size = nt ∧ a1.defers = a.defers ∧ (∀ j, n1 ≤ j → G1 j = none)) ?_ ?_ (j := m) ⟨t, H, n, G, h, hR, Fr.refl _ _, fun _ => .inl, hr, hn, rfl, hg⟩
  · rintro a1 w1 ⟨t1, H1, n1, G1, h1, _⟩
    exact h1
  · rintro j a1 w1 ⟨t1, H1, n1, G1, h1, r1, f1, ft1, rg1, m1, d1, g1⟩
    have tr : ∀ {G2 : Gh} {H2 : HT} {w2 : World}, Fr (Foot G1 (hp H1)) w1 w2 → (∀ b, Foot G2 (hp H2) b → Foot G1 (hp H1) b ∨ w1.heap.size ≤ b) → Fr (Foot G (hp H)) w w2 ∧ ∀ b, Foot G2 (hp H2) b → Foot G (hp H) b ∨ w.heap.size ≤ b := fun f2 ft2 =>
      ⟨f1.trans f2 fun j hj hs => (ft1 j hs).resolve_right (by omega), fun b hb => by
        rcases ft2 b hb with q | q
        · exact ft1 b q
        · exact .inr (Nat.le_trans f1.size q)⟩
    rcases h1 with ⟨t2, H2, n2, h2, h3⟩ | ⟨h2, h3⟩
    · refine h2 x hk G1 a1 w1 r1 rg1 m1 g1 _ fun G2 a2 w2 r2 f2 ft2 rg2 m2 d2 g2 => ?_
      obtain ⟨q1, q2⟩ := tr f2 ft2
      exact ⟨t2, H2, n2, G2, h3, r2, q1, q2, rg2, m2, d2.trans d1, g2⟩
    · refine h3 x hk G1 a1 w1 r1 rg1 m1 g1 _ fun G2 a2 w2 r2 f2 ft2 rg2 m2 d2 g2 => ?_
      obtain ⟨q1, q2⟩ := tr f2 ft2
      have := hQ G2 a2 w2 r2 q1 q2 rg2 m2 (d2.trans d1) g2
      cases ex with
      | nx => exact absurd rfl h2
      | ex id => exact this
      | rt => exact this
theorem rqK_loop {k : K} {m : Nat} (h : Rounds P nt W k ex t' H' n' m t H n) : RqK P nt W (.loop k) t H n ex t' H' n' := by
  intro c
  induction c with
  | loop x _ =>
    intro hc
    have hc : K.loop (comp P nt W x) = .loop k := hc
    cases hc
    exact rq_loop rfl h
  | scope x ih => intro hc; exact rq_scope (ih hc)
  | region id ops draw =>
    intro hc
    have hc : kReg (cReg P nt W ops draw) = .loop k := hc
    rcases kReg_shape (cReg P nt W ops draw) with ⟨_, q⟩ | ⟨_, q⟩ | q <;> rw [q] at hc <;> cases hc
  | cond c x y _ _ =>
    intro hc
    have hc : kCond (cOd ⟨nt, W, []⟩ c) (comp P nt W x) (comp P nt W y) = .loop k := hc
    rcases kCond_shape (cOd ⟨nt, W, []⟩ c) (comp P nt W x) (comp P nt W y) with ⟨_, q⟩ | q <;> rw [q] at hc <;> cases hc
  | _ => intro hc; cases hc
/-- a block: who leaves by its number goes on behind it -/
def exB (id : Nat) : Ex → Ex
  | .ex i => cnd (Nat.beq i id) .nx (.ex i)
  | e => e
theorem rqK_blk {id : Nat} {k : K} (h : RqK P nt W k t H n ex t' H' n') : RqK P nt W (.blk id k) t H n (exB id ex) t' H' n' := by
  intro c
  induction c with
  | block i x _ =>
    intro hc
    have hc : K.blk i (comp P nt W x) = .blk id k := hc
    cases hc
    intro G a w hR hr hn hg Q hQ
    refine wp_block (h x rfl G a w hR hr hn hg _ fun G' a' w' r f ft rg m d g => ?_)
    have hq := hQ G' a' w' r f ft rg m d g
    cases ex with
    | nx => exact hq
    | rt => exact hq
    | ex id' =>
      show (if id' = id then Q .normal a' w' else Q (.exit id') a' w')
      have hq : Q (exOf (cnd (Nat.beq id' id) .nx (.ex id'))) a' w' := hq
      cases hb : Nat.beq id' id with
      | true => rw [hb] at hq; rw [if_pos (nbeq_eq hb)]; exact hq
      | false => rw [hb] at hq; rw [if_neg (Nat.ne_of_beq_eq_false hb)]; exact hq
  | scope x ih => intro hc; exact rq_scope (ih hc)
  | region id' ops draw =>
    intro hc
    have hc : kReg (cReg P nt W ops draw) = .blk id k := hc
    rcases kReg_shape (cReg P nt W ops draw) with ⟨_, q⟩ | ⟨_, q⟩ | q <;> rw [q] at hc <;> cases hc
  | cond c x y _ _ =>
    intro hc
    have hc : kCond (cOd ⟨nt, W, []⟩ c) (comp P nt W x) (comp P nt W y) = .blk id k := hc
    rcases kCond_shape (cOd ⟨nt, W, []⟩ c) (comp P nt W x) (comp P nt W y) with ⟨_, q⟩ | q <;> rw [q] at hc <;> cases hc
  | _ => intro hc; cases hc
/-- a row of parts, and what follows -/
def seqs (l : List K) (k : K) : K := List.rec k (fun a _ ih => .seq a ih) l
def runL (call : CallT) (l : List K) : RunT := List.rec (motive := fun _ => RunT) (fun t H n => .ok .nx t H n) (fun a _ ih t H n => seqO ih (runK call a t H n)) l
theorem rqK_list (hm : P.follows .mixedOrders = true) (hcall : CallOk P call) (hlen : W.length ≤ 64) (hnd : W.Nodup) : ∀ {l : List K} {k : K} {t : T8 V} {H : HT} {n : Nat}, runL call l t H n = .ok .nx t1 H1 n1 → ∀ {g : List Nat} {t2 : T8 V} {H2 : HT}, gc g t1 H1 = some (t2, H2) → l ≠ [] → RqK P nt W k t2 H2 g.length ex t' H' n' → RqK P nt W (seqs l k) t H n ex t' H' n'
  | [], k, t, H, n, h, g, t2, H2, hg, hl, hk => absurd rfl hl
  | a :: l, k, t, H, n, h, g, t2, H2, hg, hl, hk => by
    have h : seqO (runL call l) (runK call a t H n) = .ok .nx t1 H1 n1 := h
    rcases seqO_ok h with ⟨ta, Ha, na, h1, h2⟩ | ⟨q, _⟩
    · cases l with
      | nil =>
        have h2 : Ot.ok .nx ta Ha na = .ok .nx t1 H1 n1 := h2
        cases h2
        exact rqK_seq (rqK_gc (rqK_run hm hcall hlen hnd h1) hg) hk
      | cons b l => exact rqK_seq (rqK_run hm hcall hlen hnd h1) (rqK_list hm hcall hlen hnd h2 hg (by simp) hk)
    · exact absurd rfl q
end
/-- a run's end, its heap named anew -/
def gcO (g : List Nat) (r : Ot) : Option (T8 V × HT) := Ot.rec none (fun e t H _ => Ex.rec (gc g t H) (fun _ => none) none e) r
theorem gcO_ok {g : List Nat} {r : Ot} {t' : T8 V} {H' : HT} (h : gcO g r = some (t', H')) : ∃ t H n, r = .ok .nx t H n ∧ gc g t H = some (t', H') := by
  cases r with
  | no => cases h
  | ok e t H n =>
    cases e with
    | nx => exact ⟨t, H, n, rfl, h⟩
    | _ => cases h
/-- what comes back and is true -/
def okR (rs : List RV) (r : Ot) : Bool := okB' (Ot.rec Rs.no (retE rs) r)
 where okB' (r : Rs) : Bool := Rs.rec false (fun v _ _ => V.rec (fun x => Sc.rec false (fun b => b) (fun _ _ => false) (fun _ _ => false) false (fun _ _ => false) false (fun _ _ _ _ _ => false) (fun _ _ _ _ _ => false) false false (fun _ => false) false (fun _ _ => false) false x) (fun _ => false) (fun _ => false) v) r
theorem okR_ok {rs : List RV} {r : Ot} (h : okR rs r = true) : ∃ ex t H n, r = .ok ex t H n ∧ retE rs ex t H n = .ok (.c (.b true)) H n := by
  cases r with
  | no => cases h
  | ok ex t H n =>
    refine ⟨ex, t, H, n, rfl, ?_⟩
    have h : okR.okB' (retE rs ex t H n) = true := h
    have key : ∀ v H' n', retE rs ex t H n = .ok v H' n' → H' = H ∧ n' = n := by
      intro v H' n' q
      have q : (match ex with | .ex _ => Rs.no | _ => retV rs ⟨t, []⟩ H n) = .ok v H' n' := q
      have q : retV rs ⟨t, []⟩ H n = .ok v H' n' := by
        cases ex with
        | ex id => cases q
        | nx => exact q
        | rt => exact q
      unfold retV at q
      split at q
      · split at q
        · cases q; exact ⟨rfl, rfl⟩
        · cases q
      · cases q
    cases hr : retE rs ex t H n with
    | no => rw [hr] at h; cases h
    | ok v H1 n1 =>
      rw [hr] at h
      obtain ⟨rfl, rfl⟩ := key _ _ _ hr
      cases v with
      | c x =>
        cases x with
        | b b =>
          have h : b = true := h
          rw [h]
        | _ => cases h
      | _ => cases h
/-- a function whose body runs so, entered from nothing -/
theorem calls_rq {P : Program} {wt : WT} {fid : Nat} {f : KF} (hf : compF P wt fid = some f) {args : List V} {t0 t' : T8 V} {H' : HT} {ex : Ex} {n' : Nat} {v : V} (ha : Nat.ble args.length f.nt = true) (ht : args0 f.ar args .z = some t0)
    (hq : ∀ nt W, nt = f.nt → W.length ≤ 64 → W.Nodup → RqK P nt W f.body t0 .z 0 ex t' H' n') (hv : retE f.rs ex t' H' n' = .ok v H' n') (w : World) (cargs : Array Value) (hc : All2 (V.ok fun _ => none) args cargs.toList) :
    Calls P fid cargs w fun e w' => ∃ cv G', e = .returned cv ∧ Below w.heap.size w w' ∧ V.ok G' v cv := by
  unfold compF at hf
  split at hf
  · rename_i g hg
    cases hf
    unfold cF at hg
    split at hg
    · rename_i fn hfn
      split at hg
      · rename_i c hc'
        generalize hW : tget 3 [] wt fid = W at hg
        unfold cFb at hg
        split at hg
        · rename_i rs hrs
          cases hw : and (Nat.ble W.length 64) (noDup W) with
          | false => rw [hw] at hg; cases hg
          | true =>
            rw [hw] at hg
            have hg : some _ = some g := hg
            cases hg
            rw [Bool.and_eq_true] at hw
            have hlen : W.length ≤ 64 := Nat.le_of_ble_eq_true hw.1
            have hnd := noDup_ok hw.2
            have ha : args.length ≤ fn.ntmps := Nat.le_of_ble_eq_true ha
            have ht0 : args0 ((List.range (fn.params.size + fn.nfree)).map fun i => ixW i W 0) args .z = some t0 := ht
            rw [List.range_eq_range'] at ht0
            obtain ⟨hal, hrg⟩ := args0_ok hlen hnd _ _ _ _ _ ht0
            have hrun := hq fn.ntmps W rfl hlen hnd c rfl
            have hre : (∀ id, ex ≠ .ex id) ∧ retV rs ⟨t', []⟩ H' n' = .ok v H' n' := by
              have h : retE rs ex t' H' n' = .ok v H' n' := hv
              cases ex with
              | ex id => cases h
              | nx => exact ⟨fun _ q => (by cases q), h⟩
              | rt => exact ⟨fun _ q => (by cases q), h⟩
            refine calls_of_wp hfn hc' ?_
            have hcs : cargs.size = args.length := by rw [← Array.length_toList]; exact hc.length.symm
            have hsz : (cargs ++ Array.replicate (fn.ntmps - cargs.size) undef).size = fn.ntmps := by simp; omega
            refine hrun (fun _ => none) _ w (R_z _ _) ⟨fun j h1 h2 => ?_, fun t o q => by cases q⟩ hsz (fun _ _ => rfl) _ fun G' a' w' r f ft rg m d _ => ?_
            · have h1 : j < W.length := h1
              show V.ok _ (rget ⟨t0, []⟩ j) ((cargs ++ Array.replicate (fn.ntmps - cargs.size) undef).getD W[j] undef)
              rw [getD_app, hrg j h1, ← Array.toArray_toList (xs := cargs), Array.getD_eq_getD_getElem?, List.getElem?_toArray, ← List.getD_eq_getElem?_getD]
              by_cases q : W[j] < args.length
              · rw [if_pos (by omega)]
                exact args_getD hc W[j]
              · rw [if_neg (by omega), List.getD_eq_getElem?_getD, List.getElem?_eq_none, Option.getD_none]
                · rw [show rget ⟨T8.z, []⟩ j = (V.t []) from tget_z _ _ _]; exact V.undef_ok _
                · rw [Array.length_toList]; omega
            · obtain ⟨_, _, cv, q1, q2⟩ := retV_ok (n := n') hrs hre.2 r rg m
              have hb : a'.defers = [] ∧ ∃ v, (results fn a'.tmps).run P w' = .ok v w' ∧ ∃ cv G', Ending.returned v = .returned cv ∧ Below w.heap.size w w' ∧ V.ok G' _ cv := ⟨d, cv, q1, cv, G', rfl, f.below fun _ _ => foot_z, q2⟩
              cases ex with
              | nx => exact hb
              | rt => exact hb
              | ex id => exact absurd rfl (hre.1 id)
        · cases hg
      · cases hg
    · cases hg
  · cases hf
end
end Ev
end Go.Proofs.YtcchekmejnhlmaaGreat
namespace Go.Proofs.YtcchekmejnhlmaaGreat
namespace Ev
open Go.RowKit
noncomputable section
def yI (n : Nat) : Sc := .i .i64 (.ofNat n)
def yJ (n : Nat) : Sc := .i .u64 (.ofNat n)
def yK (n : Nat) : Od := .k (.c (.i .i64 (.ofNat n)))
def yV (x : Sc) : Od := .k (.c x)
def yu : Ins := .u (.l (.ld false 1 (.s 0))) none true
def yP (x : PO) : Ins := .u (.p x) none true
def yW (x : PO) (j : Nat) : Ins := .u (.p x) (some j) true
def yL' (x : LO) : Ins := .u (.l x) none true
def yA (x : AO) : Ins := .u (.a x) none true
def yE (x : EO) : Ins := .u (.e x) none true
def yF (x : EO) : Ins := .u (.e x) none false
def yS (f : Nat) (l : List Od) : Ins := .u (.cs f l) none true
def yR (f : Nat) (l : List Od) (j : Nat) : Ins := .u (.cs f l) (some j) true
def yM (j i : Nat) : Ins := .u (.p (.mv (.s j))) (some i) true
def yf (o j : Nat) : Ins := .u (.p (.fad o (.s j))) none true
def yg (o j : Nat) : Ins := .u (.p (.fad o (.r j))) none true
def yx (i j : Nat) : Ins := .u (.p (.ext (.s i) j)) none true
def yG (i : Nat) (b : Bool) (x : PO) : Ins := .g (.s i) b (.p x) none true
def yH (i : Nat) (b : Bool) (x : LO) : Ins := .g (.s i) b (.l x) none true
def yD (x : Ins) : DIns := ⟨x, 0⟩
def yT (x : Ins) : K := .s [x]
def yz (n : Nat) : List Sc := Nat.rec [] (fun _ l => .i .i64 (.ofNat 0) :: l) n
def ll (n : Nat) : T8 Sc := .l (.i .i64 (.ofNat n))
def n1 {α : Type} (a : T8 α) : T8 α := .n a .z .z .z .z .z .z .z
def n2 {α : Type} (a b : T8 α) : T8 α := .n a b .z .z .z .z .z .z
def n3 {α : Type} (a b c : T8 α) : T8 α := .n a b c .z .z .z .z .z
def n4 {α : Type} (a b c d : T8 α) : T8 α := .n a b c d .z .z .z .z
def n5 {α : Type} (a b c d e : T8 α) : T8 α := .n a b c d e .z .z .z
def n6 {α : Type} (a b c d e f : T8 α) : T8 α := .n a b c d e f .z .z
def yr (n : Nat) (x : Bool) (d : Nat) (t : T8 Sc) : Ob := .row n x d .u t
end
end Ev
end Go.Proofs.YtcchekmejnhlmaaGreat
namespace Go.Proofs.YtcchekmejnhlmaaGreat
end Go.Proofs.YtcchekmejnhlmaaGreat
