/- The walk through query.Last (chapter 15). -/
import Derived.Test.YthdbmgjlegpbaaaQrLast
import Derived.Scope
import Derived.ControlIn
namespace Go.Proofs.Ythdbmgjlegpbaaa
open Go.RowKit Go.Shelf
set_option linter.unusedVariables false
attribute [local go_sem] Oper.semAt_some

theorem find_at {s : ByteArray} {t : Int} {zs : List Pt.Point} {q : List (Int × Pt.Point)} {x : Int × Pt.Point} {d : Nat} (h : (q ++ [x]).map (·.2) = zs.reverse.take d) (hq : ∀ y ∈ q, Qr.hit s t y.2 = false) (hx : Qr.hit s t x.2 = true) : Qr.newest s t zs = some x.2.2.2 := by
  have e : zs.reverse = q.map (·.2) ++ (x.2 :: zs.reverse.drop d) := by
    have := List.take_append_drop d zs.reverse
    rw [← h] at this
    refine this.symm.trans ?_
    simp
  have hn : (q.map (·.2)).find? (Qr.hit s t) = none := by
    rw [List.find?_eq_none]
    intro y hy
    obtain ⟨z, hz, rfl⟩ := List.mem_map.1 hy
    simp [hq z hz]
  unfold Qr.newest
  rw [e, List.find?_append, hn, List.find?_cons, hx]
  rfl
theorem find_no {s : ByteArray} {t : Int} {zs : List Pt.Point} {q : List (Int × Pt.Point)} (h : q.map (·.2) = zs.reverse) (hq : ∀ y ∈ q, Qr.hit s t y.2 = false) : Qr.newest s t zs = none := by
  have hn : (q.map (·.2)).find? (Qr.hit s t) = none := by
    rw [List.find?_eq_none]
    intro y hy
    obtain ⟨z, hz, rfl⟩ := List.mem_map.1 hy
    simp [hq z hz]
  unfold Qr.newest
  rw [← h, hn]; rfl
theorem last_at {G : Lay → Prop} {s : ByteArray} {t v : Int} {Z : List { y : Lay // G y }} {q : List (Int × { y : Lay // G y })} {x : Int × { y : Lay // G y }} {d : Nat} (h : (q ++ [x]).map (·.2) = Z.reverse.take d) (hq : ∀ y ∈ q, Qr.newest s t y.2.1.2.2 = none) (hx : Qr.newest s t x.2.1.2.2 = some v) : Qr.lastIn s t (Z.map fun y => y.1.2.2) = some v := by
  have e : Z.reverse = q.map (·.2) ++ (x.2 :: Z.reverse.drop d) := by
    have := List.take_append_drop d Z.reverse
    rw [← h] at this
    refine this.symm.trans ?_
    simp
  have hn : (q.map (·.2)).findSome? (fun y => Qr.newest s t y.1.2.2) = none := by
    rw [List.findSome?_eq_none_iff]
    intro y hy
    obtain ⟨z, hz, rfl⟩ := List.mem_map.1 hy
    exact hq z hz
  unfold Qr.lastIn
  rw [← List.map_reverse, List.findSome?_map, e]
  show List.findSome? (fun y : { y : Lay // G y } => Qr.newest s t y.1.2.2) _ = _
  rw [List.findSome?_append, hn, List.findSome?_cons, hx]
  rfl
theorem last_no {G : Lay → Prop} {s : ByteArray} {t : Int} {Z : List { y : Lay // G y }} {q : List (Int × { y : Lay // G y })} (h : q.map (·.2) = Z.reverse) (hq : ∀ y ∈ q, Qr.newest s t y.2.1.2.2 = none) : Qr.lastIn s t (Z.map fun y => y.1.2.2) = none := by
  have hn : (q.map (·.2)).findSome? (fun y => Qr.newest s t y.1.2.2) = none := by
    rw [List.findSome?_eq_none_iff]
    intro y hy
    obtain ⟨z, hz, rfl⟩ := List.mem_map.1 hy
    exact hq z hz
  unfold Qr.lastIn
  rw [← List.map_reverse, List.findSome?_map, ← h]
  exact hn
theorem boxed_below {W W' : World} {B : Nat} {t : TypeId} {v : Value} (h : Boxed W B t v) (hb : Below W.heap.size W W') : Boxed W' B t v := (hb.block B h.lt).trans h
theorem blk_own {g : Nat} {t : TypeId} {cs : Array Value} {X Y : World} {row : Option Nat} (hs : Blk X g t cs) (hg : X.grownBy Y row) (hr : ∀ r, row = some r → ∃ o : Obj, X.heap[r]? = some o ∧ o.isCells = false) : Blk Y g t cs :=
  hs.grown hg (fun e => by obtain ⟨o, ho, hc⟩ := hr g e.symm; rw [show X.heap[g]? = _ from hs] at ho; cases ho; cases hc)
theorem hit_yes {nm s : ByteArray} {t0 t v : Int} (h1 : nm = s) (h2 : t0 = t) : Qr.hit s t (nm, t0, v) = true := by unfold Qr.hit; simp [h1, h2]
theorem hit_no1 {nm s : ByteArray} {t0 t v : Int} (h1 : nm ≠ s) : Qr.hit s t (nm, t0, v) = false := by unfold Qr.hit; simp [h1]
theorem hit_no2 {nm s : ByteArray} {t0 t v : Int} (h2 : t0 ≠ t) : Qr.hit s t (nm, t0, v) = false := by unfold Qr.hit; simp [h2]
def LayOk (w : World) (y : Lay) : Prop := Reads w w.heap.size 3 y.1 y.2.2.length (y.2.2.flatMap pointCells) ∧ y.2.2.length ≤ 9223372036854775807
theorem lay_reads {w : World} {base : Nat} {y : Lay} (h : w.ownsRow base 52 3 (layV y) y.2.2.length (y.2.2.flatMap pointCells)) : Reads w w.heap.size 3 y.1 y.2.2.length (y.2.2.flatMap pointCells) := by unfold layV at h; exact Reads.of_own h
theorem own_len {w : World} {base : Nat} {y : Lay} (h : w.ownsRow base 52 3 (layV y) y.2.2.length (y.2.2.flatMap pointCells)) : y.2.2.length ≤ 9223372036854775807 := by
  obtain ⟨a, c, l⟩ := y
  unfold layV at h
  rcases a with _ | ad
  · rcases h.2 with ⟨hv, h0⟩ | ⟨g, cap, cur, hv, _⟩
    · simp only at h0 ⊢; omega
    · cases hv
  · have := own_cap h
    unfold maxLen at this
    simp only at this ⊢
    omega
theorem lift_sub {α : Type} {G : α → Prop} (l : List α) (h : ∀ y ∈ l, G y) : ∃ Z : List { y // G y }, Z.map (·.1) = l := by
  induction l with
  | nil => exact ⟨[], rfl⟩
  | cons a l ih =>
    obtain ⟨Z, hZ⟩ := ih (fun y hy => h y (List.mem_cons_of_mem _ hy))
    exact ⟨⟨a, h a List.mem_cons_self⟩ :: Z, by rw [List.map_cons, hZ]⟩
def NoHit (s : ByteArray) (t : Int) (pre : List (Int × Pt.Point)) : Prop := ∀ y ∈ pre, Qr.hit s t y.2 = false
def Hits (s : ByteArray) (t : Int) (pre : List (Int × Pt.Point)) (v : Int) : Prop := ∃ q y, pre = q ++ [y] ∧ NoHit s t q ∧ Qr.hit s t y.2 = true ∧ y.2.2.2 = v
theorem noHit_nil (s : ByteArray) (t : Int) : NoHit s t [] := fun y hy => by cases hy
theorem noHit_snoc {s : ByteArray} {t : Int} {pre : List (Int × Pt.Point)} {y : Int × Pt.Point} (h : NoHit s t pre) (hy : Qr.hit s t y.2 = false) : NoHit s t (pre ++ [y]) := fun z hz =>
  (List.mem_append.1 hz).elim (h z) (fun e => by rw [List.mem_singleton] at e; subst e; exact hy)
theorem hits_snoc {s : ByteArray} {t : Int} {pre : List (Int × Pt.Point)} {y : Int × Pt.Point} (h : NoHit s t pre) (hy : Qr.hit s t y.2 = true) : Hits s t (pre ++ [y]) y.2.2.2 := ⟨pre, y, rfl, h, hy, rfl⟩
theorem hits_at {s : ByteArray} {t v : Int} {zs : List Pt.Point} {pre : List (Int × Pt.Point)} {d : Nat} (h : pre.map (·.2) = zs.reverse.take d) (hh : Hits s t pre v) : Qr.newest s t zs = some v := by
  obtain ⟨q, y, rfl, hq, hy, rfl⟩ := hh
  exact find_at h hq hy
theorem list_ne {a b : ByteArray} (h : a ≠ b) : (a.toList == b.toList) = false := by
  rw [beq_eq_false_iff_ne, Lib.toList_data, Lib.toList_data]
  intro e
  exact h (Wr.ext_list e)
def LastPost (w : World) (q : Int × Bool × Int) (e : Ending) (w' : World) : Prop := e = .returned (.tuple #[.int .i64 q.1, .bool q.2.1, .int .i64 q.2.2]) ∧ Below w.heap.size w w'
set_option maxRecDepth 100000 in
set_option maxHeartbeats 4000000 in
theorem last_any (A : Option Addr) (c : Nat) (segs : List ByteArray) (o : Lay) (s : ByteArray) (t : Int) (w : World) (B : Nat) (hr : Reads w B 1 A segs.length (segs.map Value.string)) (hro : Reads w B 3 o.1 o.2.2.length (o.2.2.flatMap pointCells)) (hB : B ≤ w.heap.size) (hn : (segs.length + 1) * 24 ≤ 140737488355328) (hss : ∀ s ∈ segs, s.size ≤ 140737488355328) (hon : o.2.2.length ≤ 140737488355328) :
    Calls Try.prog 24 #[.slice A segs.length c, layV o, .string s, .int .i64 t] w (LastPost w (Qr.lastR segs o.2.2 s t)) := by
  have HL := fun W (hb : Below w.heap.size w W) => Lib.hid (layers_any A c segs o W B (hr.below (hb.mono hB)) (by have := hb.size; omega) hn hss)
  have Hro := Lib.hid hro
  have HR1 : Hid (Qr.okS segs = true → Qr.lastR segs o.2.2 s t = ((Qr.lastIn s t (segs.map Qr.ptsOf ++ [o.2.2])).getD 0, (Qr.lastIn s t (segs.map Qr.ptsOf ++ [o.2.2])).isSome, 0)) := fun h => by unfold Qr.lastR; rw [if_pos h]
  have HR2 : Hid (Qr.okS segs = false → Qr.lastR segs o.2.2 s t = (0, false, 1500)) := fun h => by unfold Qr.lastR; rw [if_neg (by rw [h]; simp)]
  generalize Qr.lastR segs o.2.2 s t = res at *
  clear hr hro hss
  refine (callsIn_wide (n := 8)).1 ?_
  refine callsIn_of_wp_marks Try.func24 rfl trivial ?_ rfl
  simp only [Try.ntmps24, List.size_toArray, List.length_cons, List.length_nil, Nat.reduceAdd, Nat.reduceSub, Array.replicate_succ, Array.replicate_zero, List.push_toArray, List.append_toArray, List.nil_append, List.cons_append]
  obtain ⟨oa, oc, ops⟩ := o
  simp only [layV] at *
  gi_wp2
  refine wpIn_wide.2 ?_
  refine wp_scope_straight ?_
  refine (wpIn_wide (n := 8)).1 ?_
  have b6 := ((((Boxed.new w 9 (.string s)).alloc (.cells #[.int .i64 t] 3)).alloc (.cells #[.int .i64 0] 3)).alloc (.cells #[.bool false] 4)).alloc (.cells #[.int .i64 0] 28)
  have b7 := (((Boxed.new (w.alloc (.cells #[.string s] 9)) 3 (.int .i64 t)).alloc (.cells #[.int .i64 0] 3)).alloc (.cells #[.bool false] 4)).alloc (.cells #[.int .i64 0] 28)
  have b8 := ((Boxed.new ((w.alloc (.cells #[.string s] 9)).alloc (.cells #[.int .i64 t] 3)) 3 (.int .i64 0)).alloc (.cells #[.bool false] 4)).alloc (.cells #[.int .i64 0] 28)
  have b9 := (Boxed.new (((w.alloc (.cells #[.string s] 9)).alloc (.cells #[.int .i64 t] 3)).alloc (.cells #[.int .i64 0] 3)) 4 (.bool false)).alloc (.cells #[.int .i64 0] 28)
  have b10 := Boxed.new ((((w.alloc (.cells #[.string s] 9)).alloc (.cells #[.int .i64 t] 3)).alloc (.cells #[.int .i64 0] 3)).alloc (.cells #[.bool false] 4)) 28 (.int .i64 0)
  simp only [World.size_alloc] at b7 b8 b9 b10
  have hb5 : Below w.heap.size w (((((w.alloc (.cells #[.string s] 9)).alloc (.cells #[.int .i64 t] 3)).alloc (.cells #[.int .i64 0] 3)).alloc (.cells #[.bool false] 4)).alloc (.cells #[.int .i64 0] 28)) :=
    (((((Below.refl _ w).alloc (Nat.le_refl _) _).alloc (by simp) _).alloc (by simp; omega) _).alloc (by simp; omega) _).alloc (by simp; omega) _
  have hs5 : w.heap.size + 5 ≤ (((((w.alloc (.cells #[.string s] 9)).alloc (.cells #[.int .i64 t] 3)).alloc (.cells #[.int .i64 0] 3)).alloc (.cells #[.bool false] 4)).alloc (.cells #[.int .i64 0] 28)).heap.size := by simp
  generalize ((((w.alloc (.cells #[.string s] 9)).alloc (.cells #[.int .i64 t] 3)).alloc (.cells #[.int .i64 0] 3)).alloc (.cells #[.bool false] 4)).alloc (.cells #[.int .i64 0] 28) = w5 at *
  have HB5 := Lib.hid hb5
  clear hb5
  gi_wp2_with fail
  refine ⟨trivial, ?_⟩
  refine (callsIn_wide.2 (HL w5 HB5.out).out).mono ?_
  rintro e w2 ⟨hb2, ⟨hok, rfl⟩ | ⟨hok, v, L, rfl, hown, hlays, hLm, hLl⟩⟩
  · have d8 := boxed_below b8 hb2
    have d9 := boxed_below b9 hb2
    have d10 := boxed_below b10 hb2
    have Hb2 : Hid (Below w.heap.size w w2) := HB5.out.trans (hb2.mono (by omega))
    have Hres := Lib.hid (HR2.out hok)
    have c8 := d8.cell
    have f8 := d8.frozen
    have c9 := d9.cell
    have f9 := d9.frozen
    have c10 := d10.cell
    have f10 := d10.frozen
    clear hb2 HL HR1 HR2 b6 b7 b8 b9 b10
    gi_wp2
    have q8 : Boxed (((w2.setCell ⟨w.heap.size + 1 + 1, 0, none⟩ (.int .i64 0)).setCell ⟨w.heap.size + 1 + 1 + 1, 0, none⟩ (.bool false)).setCell ⟨w.heap.size + 1 + 1 + 1 + 1, 0, none⟩ (.int .i64 1500)) (w.heap.size + 1 + 1) 3 (.int .i64 0) := ((d8.set _).other (by omega) _).other (by omega) _
    have q9 : Boxed (((w2.setCell ⟨w.heap.size + 1 + 1, 0, none⟩ (.int .i64 0)).setCell ⟨w.heap.size + 1 + 1 + 1, 0, none⟩ (.bool false)).setCell ⟨w.heap.size + 1 + 1 + 1 + 1, 0, none⟩ (.int .i64 1500)) (w.heap.size + 1 + 1 + 1) 4 (.bool false) := ((d9.other (by omega) _).set _).other (by omega) _
    have q10 : Boxed (((w2.setCell ⟨w.heap.size + 1 + 1, 0, none⟩ (.int .i64 0)).setCell ⟨w.heap.size + 1 + 1 + 1, 0, none⟩ (.bool false)).setCell ⟨w.heap.size + 1 + 1 + 1 + 1, 0, none⟩ (.int .i64 1500)) (w.heap.size + 1 + 1 + 1 + 1) 28 (.int .i64 1500) := ((d10.other (by omega) _).other (by omega) _).set _
    have qb : Below w.heap.size w (((w2.setCell ⟨w.heap.size + 1 + 1, 0, none⟩ (.int .i64 0)).setCell ⟨w.heap.size + 1 + 1 + 1, 0, none⟩ (.bool false)).setCell ⟨w.heap.size + 1 + 1 + 1 + 1, 0, none⟩ (.int .i64 1500)) := ((Hb2.out.setCell (p := ⟨w.heap.size + 1 + 1, 0, none⟩) (by simp; omega) _).setCell (p := ⟨w.heap.size + 1 + 1 + 1, 0, none⟩) (by simp; omega) _).setCell (p := ⟨w.heap.size + 1 + 1 + 1 + 1, 0, none⟩) (by simp; omega) _
    have g8 := q8.cell
    have g9 := q9.cell
    have g10 := q10.cell
    generalize ((w2.setCell ⟨w.heap.size + 1 + 1, 0, none⟩ (.int .i64 0)).setCell ⟨w.heap.size + 1 + 1 + 1, 0, none⟩ (.bool false)).setCell ⟨w.heap.size + 1 + 1 + 1 + 1, 0, none⟩ (.int .i64 1500) = WZ at *
    clear c8 c9 c10 f8 f9 f10 d8 d9 d10
    refine ⟨.tuple #[.int .i64 0, .bool false, .int .i64 1500], ?_, by rw [Hres.out], qb⟩
    simp [results, Try.f24, go_sem, g8, g9, g10]
  · obtain ⟨Av, cv, rfl, hncv, hrv⟩ := own_slice hown
    have Hres := Lib.hid (HR1.out hok)
    have Hrv := Lib.hid hrv
    have hs2 := hb2.size
    gi_wp2_with fail
    refine wpIn_label ?_
    gi_wp2_with fail
    refine ⟨trivial, ?_⟩
    refine (backL_make Fence.wide _ trivial rfl Av (segs.length + 1) cv w2).mono ?_
    rintro e w' ⟨rfl, rfl⟩
    have hb0 : Below w2.heap.size w2 (w2.alloc (.cells #[.slice Av (segs.length + 1) cv] 37)) := (Below.refl _ _).alloc (Nat.le_refl _) _
    have b26 := Boxed.new w2 37 (.slice Av (segs.length + 1) cv)
    have hsz0 : w2.heap.size + 1 ≤ (w2.alloc (.cells #[.slice Av (segs.length + 1) cv] 37)).heap.size := by simp
    obtain ⟨W0, hW0⟩ : ∃ W0, w2.alloc (.cells #[.slice Av (segs.length + 1) cv] 37) = W0 := ⟨_, rfl⟩
    rw [hW0] at hb0 b26 hsz0 ⊢
    clear hW0
    have a6 := boxed_below (boxed_below b6 hb2) hb0
    have a7 := boxed_below (boxed_below b7 hb2) hb0
    have a8 := boxed_below (boxed_below b8 hb2) hb0
    have a9 := boxed_below (boxed_below b9 hb2) hb0
    have a10 := boxed_below (boxed_below b10 hb2) hb0
    have hbW0 : Below w.heap.size w W0 := HB5.out.trans ((hb2.trans (hb0.mono hs2)).mono (by omega))
    have hG : ∀ y ∈ L ++ [(oa, oc, ops)], LayOk W0 y := by
      intro y hy
      rcases List.mem_append.1 hy with hy | hy
      · exact ⟨((lay_reads (hlays y hy)).below hb0).more (by omega), own_len (hlays y hy)⟩
      · rw [List.mem_singleton] at hy
        subst hy
        exact ⟨(Hro.out.below (hbW0.mono hB)).more (by have := hbW0.size; omega), by show ops.length ≤ _; omega⟩
    obtain ⟨Z, hZ⟩ := lift_sub (L ++ [(oa, oc, ops)]) hG
    have hZl : Z.length = segs.length + 1 := by
      have := congrArg List.length hZ
      rw [List.length_map, List.length_append, hLl] at this
      exact this
    have hZr : Reads W0 W0.heap.size 1 Av Z.length (Z.map fun y => layV y.1) := by
      rw [hZl, show (Z.map fun y => layV y.1) = (Z.map (·.1)).map layV from by rw [List.map_map]; rfl, hZ]
      exact (Hrv.out.below hb0).more (by omega)
    have hZp : (Z.map fun y => y.1.2.2) = segs.map Qr.ptsOf ++ [ops] := by
      rw [show (Z.map fun y => y.1.2.2) = (Z.map (·.1)).map (·.2.2) from by rw [List.map_map]; rfl, hZ, List.map_append, hLm]; rfl
    have c26 : W0.cell? ⟨w2.heap.size, 0, none⟩ = some (.slice Av Z.length cv) := by rw [hZl]; exact b26.cell
    have HbW0 := Lib.hid hbW0
    have Hres' : Hid (res = ((Qr.lastIn s t (Z.map fun y => y.1.2.2)).getD 0, (Qr.lastIn s t (Z.map fun y => y.1.2.2)).isSome, 0)) := by show _ = _; rw [hZp]; exact Hres.out
    have hhs : w.heap.size + 5 ≤ W0.heap.size := by omega
    clear hZp Hres hown hlays hLm hLl hrv Hrv HL HR1 HR2 hG hZ b6 b7 b8 b9 b10 hb2 hb0 hbW0 hok b26
    have hz2 : w2.heap.size < W0.heap.size := by omega
    gi_wp2_with fail
    refine wpIn_rangeFunc_ownH rfl (by omega) (gf := 77) (lb := #[.pointer (some ⟨w2.heap.size, 0, none⟩)]) rfl trivial (enters_of Try.func77 (by kernel_rfl) rfl)
      (backL_stops (G := LayOk W0) Fence.wide _ trivial rfl (by omega) w2.heap.size W0.heap.size cv Av Z (by omega) W0 hz2 (Nat.le_refl _) c26 hZr) belowK_t (belowK_b (Nat.le_refl _)) (Below.refl _ _) (fun _ => rfl)
      (fun pre W => (∀ x ∈ pre, Qr.newest s t x.2.1.2.2 = none) ∧ Below W0.heap.size W0 W)
      (fun cd pre W => (cd = .ret ∧ ∃ q x v, pre = q ++ [x] ∧ (∀ y ∈ q, Qr.newest s t y.2.1.2.2 = none) ∧ Qr.newest s t x.2.1.2.2 = some v ∧ Boxed W (w.heap.size + 1 + 1) 3 (.int .i64 v) ∧ Boxed W (w.heap.size + 1 + 1 + 1) 4 (.bool true) ∧ Boxed W (w.heap.size + 1 + 1 + 1 + 1) 28 (.int .i64 0)) ∧ Below w.heap.size w W)
      (OwnFrom.and (ownFrom_pure _ _) (ownFrom_below (Nat.le_refl _) (Nat.le_refl _)))
      (fun cd sx X Y row hs hg hr => by
        obtain ⟨⟨h0, q, x, v, h1, h2, h3, k8, k9, k10⟩, hb⟩ := hs
        exact ⟨⟨h0, q, x, v, h1, h2, h3, blk_own k8 hg (fun r e => (hr r e).2), blk_own k9 hg (fun r e => (hr r e).2), blk_own k10 hg (fun r e => (hr r e).2)⟩, ownFrom_below (β := Unit) (Nat.le_refl _) (by omega) () X Y row hb hg hr⟩)
      ⟨by simp, Below.refl _ _⟩
      (fun x a' _ => a' = { tmps := #[.slice A segs.length c, .slice oa ops.length oc, .string s, .int .i64 t, undef, undef, .pointer (some ⟨w.heap.size, 0, none⟩), .pointer (some ⟨w.heap.size + 1, 0, none⟩), .pointer (some ⟨w.heap.size + 1 + 1, 0, none⟩), .pointer (some ⟨w.heap.size + 1 + 1 + 1, 0, none⟩), .pointer (some ⟨w.heap.size + 1 + 1 + 1 + 1, 0, none⟩), .slice Av (segs.length + 1) cv, .bool true, undef, layV x.2.1, undef, undef, .tuple #[.slice Av (segs.length + 1) cv, .bool true], .slice A segs.length c, .slice oa ops.length oc, .tuple #[.slice Av (segs.length + 1) cv, .bool true], .slice Av (segs.length + 1) cv, .bool true, .bool true, .bool false, .slice Av (segs.length + 1) cv, .func (.func 77) #[] #[.pointer (some ⟨w2.heap.size, 0, none⟩)], .int .i64 x.1, layV x.2.1, undef, undef, undef, undef, undef, undef, undef, undef, undef, undef, undef, undef, undef, undef, undef, undef, undef], defers := [] })
      (fun _ _ _ _ _ _ hs _ _ => hs)
      ?assign ?body ?done ?stop
    case assign =>
      rintro l pre x W K hi hK
      gi_wp2
      exact hK _ _ (KeepsFrom.refl _ _) (Below.refl _ _) hi rfl
    case body =>
      rintro l pre x a' W hl ⟨r, hr⟩ ⟨hp, hB1⟩ rfl hlt
      obtain ⟨xi, ⟨⟨xa, xc, xl⟩, hGx⟩⟩ := x
      simp only [layV]
      have HGx := Lib.hid hGx
      gi_wp2_with fail
      refine ⟨trivial, ?_⟩
      refine (CallsIn.inRound l (backP_make Fence.wide _ trivial rfl xa xl.length xc W)).mono ?_
      rintro e w' ⟨rfl, rfl⟩
      have hsW := hB1.size
      have hr' : (W.alloc (.cells #[.slice xa xl.length xc] 38)).heap[l]? = some (.loop r) := (Below.heap_alloc W _ l (Array.getElem?_eq_some_iff.1 hr).1).trans hr
      have bN := Boxed.new W 38 (.slice xa xl.length xc)
      have hbN : Below W.heap.size W (W.alloc (.cells #[.slice xa xl.length xc] 38)) := (Below.refl _ _).alloc (Nat.le_refl _) _
      have hszN : W.heap.size + 1 ≤ (W.alloc (.cells #[.slice xa xl.length xc] 38)).heap.size := by simp
      have hkN : KeepsFrom W0.heap.size W (W.alloc (.cells #[.slice xa xl.length xc] 38)) := (KeepsOthers.alloc _ _).from _
      obtain ⟨W1, hW1⟩ : ∃ W1, W.alloc (.cells #[.slice xa xl.length xc] 38) = W1 := ⟨_, rfl⟩
      rw [hW1] at hr' bN hbN hszN hkN ⊢
      clear hW1
      have hb01 : Below W0.heap.size W0 W1 := hB1.trans (hbN.mono hsW)
      have hrx : Reads W1 W1.heap.size 3 xa xl.length (xl.flatMap pointCells) := (HGx.out.1.below hb01).more (by omega)
      have hlx : xl.length ≤ 9223372036854775807 := HGx.out.2
      gi_wp2_with fail
      refine wpIn_rangeFunc_ownN (l₀ := l) (r₀ := r) rfl hr' (by omega) (gf := 78) (lb := #[.pointer (some ⟨W.heap.size, 0, none⟩)]) rfl trivial (enters_of Try.func78 (by kernel_rfl) rfl)
        ((backP_stops Fence.wide _ trivial rfl (by omega) W.heap.size W1.heap.size xc xa xl hlx W1 (by omega) (Nat.le_refl _) bN.cell hrx).inRound l) belowK_t (belowK_b (Nat.le_refl _)) (Below.refl _ _) (fun _ => rfl)
        (fun pre' W' => (NoHit s t pre' ∧ Below W1.heap.size W1 W') ∧ KeepsFrom W0.heap.size W W')
        (fun cd pre' W' => ((cd = .ret ∧ ∃ v, Hits s t pre' v ∧ Boxed W' (w.heap.size + 1 + 1) 3 (.int .i64 v) ∧ Boxed W' (w.heap.size + 1 + 1 + 1) 4 (.bool true) ∧ Boxed W' (w.heap.size + 1 + 1 + 1 + 1) 28 (.int .i64 0)) ∧ Below w.heap.size w W') ∧ KeepsFrom W0.heap.size W W')
        (OwnFrom.and (OwnFrom.and (ownFrom_pure _ _) (ownFrom_below (Nat.le_refl _) (Nat.le_refl _))) (ownFrom_keepsFrom (by omega)))
        (fun cd sx X Y row hs hg hr => by
          obtain ⟨⟨⟨h0, v, h1, k8, k9, k10⟩, hb⟩, hk⟩ := hs
          exact ⟨⟨⟨h0, v, h1, blk_own k8 hg (fun r e => (hr r e).2), blk_own k9 hg (fun r e => (hr r e).2), blk_own k10 hg (fun r e => (hr r e).2)⟩, ownFrom_below (β := Unit) (Nat.le_refl _) (by omega) () X Y row hb hg hr⟩, ownFrom_keepsFrom (β := Unit) (by omega) () X Y row hk hg hr⟩)
        ⟨⟨noHit_nil s t, Below.refl _ _⟩, hkN⟩
        (fun y a'' W'' => ∃ Bx, Blk W'' Bx 52 #[.string y.2.1, .int .i64 y.2.2.1, .int .i64 y.2.2.2] ∧ a'' = { tmps := #[.slice A segs.length c, .slice oa ops.length oc, .string s, .int .i64 t, undef, undef, .pointer (some ⟨w.heap.size, 0, none⟩), .pointer (some ⟨w.heap.size + 1, 0, none⟩), .pointer (some ⟨w.heap.size + 1 + 1, 0, none⟩), .pointer (some ⟨w.heap.size + 1 + 1 + 1, 0, none⟩), .pointer (some ⟨w.heap.size + 1 + 1 + 1 + 1, 0, none⟩), .slice Av (segs.length + 1) cv, .bool true, undef, .slice xa xl.length xc, undef, .pointer (some ⟨Bx, 0, none⟩), .tuple #[.slice Av (segs.length + 1) cv, .bool true], .slice A segs.length c, .slice oa ops.length oc, .tuple #[.slice Av (segs.length + 1) cv, .bool true], .slice Av (segs.length + 1) cv, .bool true, .bool true, .bool false, .slice Av (segs.length + 1) cv, .func (.func 77) #[] #[.pointer (some ⟨w2.heap.size, 0, none⟩)], .int .i64 xi, .slice xa xl.length xc, .slice xa xl.length xc, .func (.func 78) #[] #[.pointer (some ⟨W.heap.size, 0, none⟩)], .int .i64 y.1, .agg #[.string y.2.1, .int .i64 y.2.2.1, .int .i64 y.2.2.2], undef, undef, undef, undef, undef, undef, undef, undef, undef, undef, undef, undef, undef], defers := [] })
        (fun y a'' _ X Y row hs hg hr => by obtain ⟨Bx, e1, e2⟩ := hs; exact ⟨Bx, blk_own e1 hg (fun r e => (hr r e).2), e2⟩)
        ?assign2 ?body2 ?done2 ?stop2
      case assign2 =>
        rintro l2 pre' y W' K ⟨⟨hq, hBW⟩, hKF⟩ hK
        gi_wp2
        exact hK _ _ ((KeepsOthers.alloc _ _).from _) ((Below.refl _ W').alloc hBW.size _) ⟨⟨hq, hBW.alloc hBW.size _⟩, hKF.trans ((KeepsOthers.alloc _ _).from _)⟩ ⟨W'.heap.size, Blk.new W' _ _, rfl⟩
      case body2 =>
        rintro l2 pre' y a'' W' _ _ ⟨⟨hq, hBW⟩, hKF⟩ ⟨Bx, bX, rfl⟩ _
        obtain ⟨yi, nm, t0, v0⟩ := y
        obtain ⟨x0, x1, x2⟩ := pt3_of bX
        have hb0W : Below W0.heap.size W0 W' := hb01.trans (hBW.mono hb01.size)
        have e6 := (boxed_below a6 hb0W).cell
        have e7 := (boxed_below a7 hb0W).cell
        have d8 := boxed_below a8 hb0W
        have d9 := boxed_below a9 hb0W
        have d10 := boxed_below a10 hb0W
        have c8 := d8.cell
        have f8 := d8.frozen
        have c9 := d9.cell
        have f9 := d9.frozen
        have c10 := d10.cell
        have f10 := d10.frozen
        have hbwW : Below w.heap.size w W' := HbW0.out.trans (hb0W.mono (by omega))
        by_cases h1 : nm = s
        · have hz1 : (nm.toList == s.toList) = true := by simp [h1]
          by_cases h2 : t0 = t
          · have hz2 : (t0 != t) = false := by simp [h2]
            have hh := hit_yes (v := v0) h1 h2
            clear h1 h2
            gi_wp2
            exact ⟨((KeepsOthers.setCell _ _ _).trans ((KeepsOthers.setCell _ _ _).trans (KeepsOthers.setCell _ _ _))).from _, ⟨⟨rfl, v0, hits_snoc hq hh, ((d8.set _).other (by omega) _).other (by omega) _, ((d9.other (by omega) _).set _).other (by omega) _, ((d10.other (by omega) _).other (by omega) _).set _⟩, ((hbwW.setCell (p := ⟨_, 0, none⟩) (by simp; omega) _).setCell (p := ⟨_, 0, none⟩) (by simp; omega) _).setCell (p := ⟨_, 0, none⟩) (by simp; omega) _⟩, hKF.trans (((KeepsOthers.setCell _ _ _).trans ((KeepsOthers.setCell _ _ _).trans (KeepsOthers.setCell _ _ _))).from _)⟩
          · have hz2 : (t0 != t) = true := by simp [h2]
            have hh := hit_no2 (nm := nm) (s := s) (v := v0) h2
            clear h1 h2
            gi_wp2
            exact ⟨KeepsFrom.refl _ _, Below.refl _ _, ⟨⟨noHit_snoc hq hh, hBW⟩, hKF⟩⟩
        · have hz1 : (nm.toList == s.toList) = false := list_ne h1
          have hh := hit_no1 (t0 := t0) (t := t) (v := v0) h1
          clear h1
          gi_wp2
          exact ⟨KeepsFrom.refl _ _, Below.refl _ _, ⟨⟨noHit_snoc hq hh, hBW⟩, hKF⟩⟩
      case done2 =>
        rintro ys' W' hys ⟨⟨hq, hBW⟩, hKF⟩
        gi_wp2
        have hb0W : Below W0.heap.size W0 W' := hb01.trans (hBW.mono hb01.size)
        exact ⟨hKF, (hbN.mono hsW).trans (hBW.mono hb01.size), ⟨fun z hz => (List.mem_append.1 hz).elim (hp z) (fun e => by rw [List.mem_singleton] at e; subst e; exact find_no hys hq), hb0W⟩⟩
      case stop2 =>
        rintro cd pre' W' ⟨d, hd, hpre⟩ ⟨⟨⟨rfl, v, hh, k8, k9, k10⟩, hbH⟩, hKF⟩
        gi_wp2
        exact ⟨hKF, ⟨rfl, pre, _, _, rfl, hp, hits_at hpre hh, k8, k9, k10⟩, hbH⟩
    case done =>
      rintro D zs W hD hzs ⟨hp, hB1⟩ hK
      have d8 := boxed_below a8 hB1
      have d9 := boxed_below a9 hB1
      have d10 := boxed_below a10 hB1
      have c8 := d8.cell
      have f8 := d8.frozen
      have c9 := d9.cell
      have f9 := d9.frozen
      have c10 := d10.cell
      have f10 := d10.frozen
      have hno := last_no hzs hp
      gi_wp2
      have hK' : (((W.setCell ⟨w.heap.size + 1 + 1, 0, none⟩ (.int .i64 0)).setCell ⟨w.heap.size + 1 + 1 + 1, 0, none⟩ (.bool false)).setCell ⟨w.heap.size + 1 + 1 + 1 + 1, 0, none⟩ (.int .i64 0)).heap[D]? = some (.deferred (some [])) := ((KeepsOthers.setCell _ _ _).trans ((KeepsOthers.setCell _ _ _).trans (KeepsOthers.setCell _ _ _))).same D _ hK rfl
      have q8 : Boxed (((W.setCell ⟨w.heap.size + 1 + 1, 0, none⟩ (.int .i64 0)).setCell ⟨w.heap.size + 1 + 1 + 1, 0, none⟩ (.bool false)).setCell ⟨w.heap.size + 1 + 1 + 1 + 1, 0, none⟩ (.int .i64 0)) (w.heap.size + 1 + 1) 3 (.int .i64 0) := ((d8.set _).other (by omega) _).other (by omega) _
      have q9 : Boxed (((W.setCell ⟨w.heap.size + 1 + 1, 0, none⟩ (.int .i64 0)).setCell ⟨w.heap.size + 1 + 1 + 1, 0, none⟩ (.bool false)).setCell ⟨w.heap.size + 1 + 1 + 1 + 1, 0, none⟩ (.int .i64 0)) (w.heap.size + 1 + 1 + 1) 4 (.bool false) := ((d9.other (by omega) _).set _).other (by omega) _
      have q10 : Boxed (((W.setCell ⟨w.heap.size + 1 + 1, 0, none⟩ (.int .i64 0)).setCell ⟨w.heap.size + 1 + 1 + 1, 0, none⟩ (.bool false)).setCell ⟨w.heap.size + 1 + 1 + 1 + 1, 0, none⟩ (.int .i64 0)) (w.heap.size + 1 + 1 + 1 + 1) 28 (.int .i64 0) := ((d10.other (by omega) _).other (by omega) _).set _
      have qb : Below w.heap.size w (((W.setCell ⟨w.heap.size + 1 + 1, 0, none⟩ (.int .i64 0)).setCell ⟨w.heap.size + 1 + 1 + 1, 0, none⟩ (.bool false)).setCell ⟨w.heap.size + 1 + 1 + 1 + 1, 0, none⟩ (.int .i64 0)) := (((HbW0.out.trans (hB1.mono (by omega))).setCell (p := ⟨w.heap.size + 1 + 1, 0, none⟩) (by simp; omega) _).setCell (p := ⟨w.heap.size + 1 + 1 + 1, 0, none⟩) (by simp; omega) _).setCell (p := ⟨w.heap.size + 1 + 1 + 1 + 1, 0, none⟩) (by simp; omega) _
      have Hr9 : Hid (res = (0, false, 0)) := by show _ = _; rw [Hres'.out, hno]; rfl
      generalize ((W.setCell ⟨w.heap.size + 1 + 1, 0, none⟩ (.int .i64 0)).setCell ⟨w.heap.size + 1 + 1 + 1, 0, none⟩ (.bool false)).setCell ⟨w.heap.size + 1 + 1 + 1 + 1, 0, none⟩ (.int .i64 0) = WZ at *
      clear c8 c9 c10 f8 f9 f10 d8 d9 d10
      refine ⟨by simp, .inl ⟨_, _, rfl, run_takeDeferred hK', ?_⟩⟩
      have g8 := cell_kept q8.cell (grownBy_putObj' _ D (.deferred none)) (fun r e => by cases e; exact ⟨_, hK', rfl⟩)
      have g9 := cell_kept q9.cell (grownBy_putObj' _ D (.deferred none)) (fun r e => by cases e; exact ⟨_, hK', rfl⟩)
      have g10 := cell_kept q10.cell (grownBy_putObj' _ D (.deferred none)) (fun r e => by cases e; exact ⟨_, hK', rfl⟩)
      refine ⟨.tuple #[.int .i64 0, .bool false, .int .i64 0], ?_, by rw [Hr9.out], qb.trans (belowK_b (w := w) (Nat.le_refl _) _ D _ _ (by omega) hK' rfl rfl)⟩
      simp [results, Try.f24, go_sem, g8, g9, g10]
    case stop =>
      rintro D cd pre W hD ⟨d, hd, hpre⟩ ⟨⟨rfl, q, x, v, rfl, hq, hx, k8, k9, k10⟩, hbH⟩ hK
      have hat := last_at hpre hq hx
      gi_wp2
      have Hr9 : Hid (res = (v, true, 0)) := by show _ = _; rw [Hres'.out, hat]; rfl
      refine ⟨by simp, .inl ⟨_, _, rfl, run_takeDeferred hK, ?_⟩⟩
      have g8 := cell_kept k8.cell (grownBy_putObj' _ D (.deferred none)) (fun r e => by cases e; exact ⟨_, hK, rfl⟩)
      have g9 := cell_kept k9.cell (grownBy_putObj' _ D (.deferred none)) (fun r e => by cases e; exact ⟨_, hK, rfl⟩)
      have g10 := cell_kept k10.cell (grownBy_putObj' _ D (.deferred none)) (fun r e => by cases e; exact ⟨_, hK, rfl⟩)
      refine ⟨.tuple #[.int .i64 v, .bool true, .int .i64 0], ?_, by rw [Hr9.out], hbH.trans (belowK_b (w := w) (Nat.le_refl _) _ D _ _ (by omega) hK rfl rfl)⟩
      simp [results, Try.f24, go_sem, g8, g9, g10]
end Go.Proofs.Ythdbmgjlegpbaaa
