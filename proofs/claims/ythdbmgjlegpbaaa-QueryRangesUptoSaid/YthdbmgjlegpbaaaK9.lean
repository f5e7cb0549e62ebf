/- Joined texts: OwnRow, QmGrow, StCmp, StP, StSwap. -/
import Derived.Test.YthdbmgjlegpbaaaK2
import Derived.Test.YthdbmgjlegpbaaaK7
import Derived.Test.YthdbmgjlegpbaaaK8
import Derived.Laws.IdiomCopy
import Derived.Lib.AppendZerosOnto
import Derived.Lib.Overlaps
import Derived.Lib.SliceRun
import Derived.Lib.AppendZeros
import Derived.BigRegion
/- Rows of the call's own: cut, drawn out into their room, written over cell by cell; copy, append in place and clear on elements of several cells. Of no program. (The runs of copy and clear are worked out after the kit's laws at one cell.) -/
namespace Go.Proofs.Ythdbmgjlegpbaaa
open Go.RowKit
set_option linter.unusedVariables false

section
variable {w : World} {base g : Nat} {e : TypeId} {size n cap : Nat} {xs : List Value}
theorem own_parts (h : w.ownsRow base e size (.slice (some ⟨g, 0, none⟩) n cap) n xs) : ∃ cur, base ≤ g ∧ Blk w g e cur ∧ n ≤ cap ∧ cap ≤ maxLen ∧ cur.size = cap * size ∧ cur.toList.take (n * size) = xs := by
  rcases h.2 with ⟨hv, _⟩ | ⟨g', cap', cur, hv, hg, hh, hnc, hcm, hcs, hx⟩
  · cases hv
  · injection hv with e1 e2 e3
    injection e1 with e1
    injection e1 with e1
    subst e1; subst e3
    exact ⟨cur, hg, hh, hnc, hcm, hcs, hx⟩
theorem own_of_parts {cur : Array Value} (hg : base ≤ g) (hh : Blk w g e cur) (hnc : n ≤ cap) (hcm : cap ≤ maxLen) (hcs : cur.size = cap * size) (hx : cur.toList.take (n * size) = xs) : w.ownsRow base e size (.slice (some ⟨g, 0, none⟩) n cap) n xs := by
  refine ⟨?_, .inr ⟨g, cap, cur, rfl, hg, hh, hnc, hcm, hcs, hx⟩⟩
  rw [← hx, List.length_take, Array.length_toList, hcs]
  exact Nat.min_eq_left (Nat.mul_le_mul_right _ hnc)
theorem own_cut (h : w.ownsRow base e size (.slice (some ⟨g, 0, none⟩) n cap) n xs) (i : Nat) (hi : i ≤ n) : w.ownsRow base e size (.slice (some ⟨g, 0, none⟩) i cap) i (xs.take (i * size)) := by
  obtain ⟨cur, hg, hh, hnc, hcm, hcs, hx⟩ := own_parts h
  refine own_of_parts hg hh (by omega) hcm hcs ?_
  rw [← hx, List.take_take, Nat.min_eq_left (Nat.mul_le_mul_right _ hi)]
theorem own_extend (h : w.ownsRow base e size (.slice (some ⟨g, 0, none⟩) n cap) n xs) (m : Nat) (hm : n + m ≤ cap) : ∃ ys : List Value, ys.length = m * size ∧ w.ownsRow base e size (.slice (some ⟨g, 0, none⟩) (n + m) cap) (n + m) (xs ++ ys) := by
  obtain ⟨cur, hg, hh, hnc, hcm, hcs, hx⟩ := own_parts h
  have hle : (n + m) * size ≤ cap * size := Nat.mul_le_mul_right _ hm
  have hadd : (n + m) * size = n * size + m * size := Nat.add_mul _ _ _
  refine ⟨(cur.toList.take ((n + m) * size)).drop (n * size), ?_, ?_⟩
  · rw [List.length_drop, List.length_take, Array.length_toList, hcs]; omega
  · refine own_of_parts hg hh hm hcm hcs ?_
    have := List.take_append_drop (n * size) (cur.toList.take ((n + m) * size))
    rw [List.take_take, Nat.min_eq_left (by omega), hx] at this
    exact this.symm
theorem own_some_cell (h : w.ownsRow base e size (.slice (some ⟨g, 0, none⟩) n cap) n xs) (j : Nat) (hj : j < cap * size) : (w.cell? ⟨g, j, none⟩).isSome = true := by
  obtain ⟨cur, hg, hh, hnc, hcm, hcs, hx⟩ := own_parts h
  rw [hh.cell, Array.getElem?_eq_getElem (by omega)]; rfl
def setL : List Value → Nat → List Value → List Value
  | xs, _, [] => xs
  | xs, o, v :: r => setL (xs.set o v) (o + 1) r
theorem setL_len (vs : List Value) (xs : List Value) (o : Nat) : (setL xs o vs).length = xs.length := by
  induction vs generalizing xs o with
  | nil => rfl
  | cons v r ih => rw [setL, ih, List.length_set]
theorem setL_eq (vs : List Value) (xs : List Value) (o : Nat) (h : o + vs.length ≤ xs.length) : setL xs o vs = xs.take o ++ vs ++ xs.drop (o + vs.length) := by
  induction vs generalizing xs o with
  | nil => simp [setL]
  | cons v r ih =>
    rw [List.length_cons] at h
    rw [setL, ih _ _ (by rw [List.length_set]; omega), List.length_cons, show o + (r.length + 1) = o + 1 + r.length from by omega,
      List.drop_set_of_lt (by omega), List.take_succ_eq_append_getElem (by rw [List.length_set]; omega), List.getElem_set_self, List.take_set_of_le (by omega)]
    simp
theorem setL_past (vs : List Value) (xs : List Value) (o : Nat) (h : xs.length ≤ o) : setL xs o vs = xs := by
  induction vs generalizing xs o with
  | nil => rfl
  | cons v r ih => rw [setL, List.set_eq_of_length_le h, ih _ _ (by omega)]
theorem ins_cells (xs ys zs : List Value) (a K : Nat) (hy : ys.length = K) (hz : zs.length = K) (ha : a ≤ xs.length) : setL (setL (xs ++ zs) (a + K) (xs.drop a)) a ys = xs.take a ++ (ys ++ xs.drop a) := by
  have h1 : setL (xs ++ zs) (a + K) (xs.drop a) = (xs ++ zs).take (a + K) ++ xs.drop a := by
    have hd : (xs ++ zs).drop (a + K + (xs.drop a).length) = [] := List.drop_eq_nil_of_le (by rw [List.length_append, List.length_drop, hz]; omega)
    rw [setL_eq _ _ _ (by rw [List.length_append, List.length_drop, hz]; omega), hd, List.append_nil]
  have hl : ((xs ++ zs).take (a + K)).length = a + K := by rw [List.length_take, List.length_append, hz]; omega
  rw [h1, setL_eq _ _ _ (by rw [List.length_append, hl, hy]; omega), List.take_append_of_le_length (by omega), List.take_take, Nat.min_eq_left (by omega), List.take_append_of_le_length ha, hy, List.drop_left' hl, List.append_assoc]
theorem del_cells (xs : List Value) (a K : Nat) (ha : a + K ≤ xs.length) : (setL xs a (xs.drop (a + K))).take (xs.length - K) = xs.take a ++ xs.drop (a + K) := by
  have hl : (xs.take a).length = a := by rw [List.length_take]; omega
  rw [setL_eq _ _ _ (by rw [List.length_drop]; omega)]
  refine List.take_left' ?_
  rw [List.length_append, hl, List.length_drop]; omega
theorem ins_cells2 (xs ys zz : List Value) (a K : Nat) (hy : ys.length = K) (ha : a ≤ xs.length) (hz : zz.length = xs.length - a + K) : setL (setL (xs.take a ++ zz) a ys) (a + K) (xs.drop a) = xs.take a ++ (ys ++ xs.drop a) := by
  have hl : (xs.take a).length = a := by rw [List.length_take]; omega
  have h1 : setL (xs.take a ++ zz) a ys = xs.take a ++ (ys ++ zz.drop K) := by
    rw [setL_eq _ _ _ (by rw [List.length_append, hl, hy, hz]; omega), List.take_left' hl, hy, List.drop_append, List.drop_eq_nil_of_le (by omega), List.nil_append, hl, show a + K - a = K from by omega, List.append_assoc]
  have h2 : (xs.take a ++ ys).length = a + K := by rw [List.length_append, hl, hy]
  have h3 : (xs.take a ++ (ys ++ zz.drop K)).length = a + K + (xs.drop a).length := by rw [← List.append_assoc, List.length_append, h2, List.length_drop, List.length_drop, hz]; omega
  rw [h1, setL_eq _ _ _ (by rw [h3]; exact Nat.le_refl _)]
  have h4 : (xs.take a ++ (ys ++ zz.drop K)).drop (a + K + (xs.drop a).length) = [] := List.drop_eq_nil_of_le (by rw [h3]; exact Nat.le_refl _)
  rw [h4, List.append_nil, ← List.append_assoc, List.take_left' h2, List.append_assoc]
theorem own_setCells (vs : List Value) (o : Nat) (h : w.ownsRow base e size (.slice (some ⟨g, 0, none⟩) n cap) n xs) : (w.setCells g o vs).ownsRow base e size (.slice (some ⟨g, 0, none⟩) n cap) n (setL xs o vs) := by
  induction vs generalizing w xs o with
  | nil => exact h
  | cons v r ih => exact ih (o + 1) (own_set h o v)
theorem size_setCells (vs : List Value) (w : World) (o : Nat) : (w.setCells g o vs).heap.size = w.heap.size := by
  induction vs generalizing w o with
  | nil => rfl
  | cons v r ih => rw [World.setCells, ih]; simp
theorem only_setCells (vs : List Value) (w : World) (o : Nat) : Only (fun k => k = g) w (w.setCells g o vs) := by
  induction vs generalizing w o with
  | nil => exact Only.refl _ _
  | cons v r ih => exact ((Only.refl (fun k => k = g) w).setCell (fun _ => rfl) _).trans (ih _ _) (fun _ _ h => h)
theorem Blk.shape {cur : Array Value} (h : Blk w g e cur) : w.shape? g = some (e, cur.size) := by unfold Blk at h; unfold World.shape?; rw [h]
end

section
variable {P : Program}
/-- copy on elements of several cells: all is read before anything is written -/
theorem run_copy_k (w : World) (dT sT ty elem : TypeId) (size : Nat) (b o dLen dCap : Nat) (a : Addr) (sLen sCap : Nat) (cs : List Value)
    (hu : P.underlying dT = some (.slice elem)) (hs : (P.info? elem).map (·.size) = some size) (hn : cs.length = Nat.min sLen dLen * size)
    (hsrc : ∀ j v, cs[j]? = some v → w.cell? (a.add j) = some v) (hc : ∀ j, j < cs.length → (w.cell? ⟨b, o + j, none⟩).isSome = true) (hf : ∀ j, j < cs.length → w.frozen? ⟨b, o + j, none⟩ = false) (h1 : ∀ v ∈ cs, v.oneCell' = true) :
    (Builtin.copy_ #[dT, sT] ty #[.slice (some ⟨b, o, none⟩) dLen dCap, .slice (some a) sLen sCap]).run P w = .ok (goInt (Nat.min sLen dLen)) (w.setCells b o cs) := by
  have hl := run_loadCells_list (P := P) w a cs hsrc
  have hst := run_storeCells_cells (P := P) b o cs 0 w (by simpa using hc) (by simpa using hf) h1
  cases hq : P.info? elem with
  | none => simp [hq] at hs
  | some i =>
    have hi : i.size = size := by simpa [hq] using hs
    simp [Builtin.copy_, run_underlying hu, Builtin.lenOf, Builtin.firstCells, sizeOf, typeInfo, hq, hi, ← hn, hl, hst]
theorem wp_copy_at (w : World) {o : Oper} {a : Act} {K : Act → World → Prop} {Q : Exit → Act → World → Prop} (d s : Operand) (t t' : TypeId)
    (ho : o.op = .call { callee := .builtin .copy, args := #[d, s], argTypes := #[t, t'] }) (v u : Value) (hd : a.eval d = v) (hs : a.eval s = u) {v' : Value} {w' : World}
    (hr : (Builtin.copy_ #[t, t'] o.type #[v, u]).run P w = .ok v' w') (h : K (a.put o.dst v') w') : o.wp P a w K Q := by
  unfold Oper.wp execOp
  simp only [ho, resolve, invoke, builtin, Sem.run_bind, Sem.run_pure, Result.andThen_ok, List.map_toArray, List.map_cons, List.map_nil, hd, hs, hr]
  exact h
theorem wpList_copy_at (w : World) {ops : Array Oper} {rest : List Oper} {o : Oper} {a : Act} {Q : Exit → Act → World → Prop} (hgd : o.guard = none) (d s : Operand) (t t' : TypeId)
    (ho : o.op = .call { callee := .builtin .copy, args := #[d, s], argTypes := #[t, t'] }) (v u : Value) (hd : a.eval d = v) (hs : a.eval s = u) {v' : Value} {w' : World}
    (hr : (Builtin.copy_ #[t, t'] o.type #[v, u]).run P w = .ok v' w') (h : wpList P ops Q rest (a.put o.dst v') w') : wpList P ops Q (o :: rest) a w :=
  wpList_plain hgd fun _ hK => wp_copy_at w d s t t' ho v u hd hs hr (hK _ _ h)
theorem step_copy_at {ops : Array Oper} {o : Oper} {a : Act} {w : World} {K : Act → World → Prop} {Q : Exit → Act → World → Prop} {E : Prop}
    (hg : o.guard = none) (d x : Operand) (dT sT : TypeId) (hop : o.op = Op.call { callee := Callee.builtin Builtin.copy, args := #[d, x], argTypes := #[dT, sT] })
    (v u : Value) (hd : a.eval d = v) (hx : a.eval x = u) {v' : Value} {w' : World} (hr : (Builtin.copy_ #[dT, sT] o.type #[v, u]).run P w = .ok v' w') (hK : K (a.put o.dst v') w') :
    if Region.wanted o (yielded ops a.tmps) = true then Oper.wp P o a w K Q else E := by
  have hw : Region.wanted o (yielded ops a.tmps) = true := by simp [Region.wanted, hg]
  rw [if_pos hw]
  unfold Oper.wp
  simp [execOp, hop, resolve, invoke, builtin, hd, hx, hr, Result.andThen]
  exact hK
theorem step_append_at {ops : Array Oper} {o : Oper} {a : Act} {w : World} {K : Act → World → Prop} {Q : Exit → Act → World → Prop} {E : Prop}
    (hg : o.guard = none) (d x : Operand) (dT sT : TypeId) (hop : o.op = Op.call { callee := Callee.builtin Builtin.append, args := #[d, x], argTypes := #[dT, sT] })
    (v u : Value) (hd : a.eval d = v) (hx : a.eval x = u) {v' : Value} {w' : World} (hr : (Builtin.append_ #[dT, sT] o.type #[v, u]).run P w = .ok v' w') (hK : K (a.put o.dst v') w') :
    if Region.wanted o (yielded ops a.tmps) = true then Oper.wp P o a w K Q else E := by
  have hw : Region.wanted o (yielded ops a.tmps) = true := by simp [Region.wanted, hg]
  rw [if_pos hw]
  unfold Oper.wp
  simp [execOp, hop, resolve, invoke, builtin, hd, hx, hr, Result.andThen]
  exact hK
/-- append in place -/
theorem run_append_room (w : World) (t t' ty e : TypeId) (i : TypeInfo) (ht : P.underlying t = some (.slice e)) (ht' : P.underlying t' = some (.slice e)) (hi : P.info? e = some i) (b n c : Nat) (a : Addr) (m mc : Nat) (cs : List Value)
    (hroom : n + m ≤ c) (hl : cs.length = m * i.size) (hsrc : ∀ j v, cs[j]? = some v → w.cell? (a.add j) = some v) (hc : ∀ j, j < cs.length → (w.cell? ⟨b, n * i.size + j, none⟩).isSome = true) (hf : ∀ j, j < cs.length → w.frozen? ⟨b, n * i.size + j, none⟩ = false) (h1 : ∀ v ∈ cs, v.oneCell' = true) :
    (Builtin.append_ #[t, t'] ty #[.slice (some ⟨b, 0, none⟩) n c, .slice (some a) m mc]).run P w = .ok (.slice (some ⟨b, 0, none⟩) (n + m) c) (w.setCells b (n * i.size) cs) := by
  have hld := run_loadCells_list (P := P) w a cs hsrc
  have hst := run_storeCells_cells (P := P) b (n * i.size) cs 0 w (by simpa using hc) (by simpa using hf) h1
  have hz : (⟨b, 0, none⟩ : Addr).add (n * i.size) = ⟨b, n * i.size, none⟩ := by rw [add_mk, Nat.zero_add]
  rw [hl] at hld
  simp [Builtin.append_, run_underlying ht, run_underlying ht', sizeOf, typeInfo, hi, Builtin.lenOf, Builtin.firstCells, hroom, hld, hz, hst]
theorem run_clear_k (w : World) (t e ty : TypeId) (z : Value) (size : Nat) (ht : P.underlying t = some (.slice e)) (hv : ∀ w, (zeroValue e).run P w = .ok z w) (hzs : z.cells.size = size) (h1 : ∀ v ∈ z.cells, v.oneCell' = true) (b o n c : Nat) (hn : 0 < n) (hsz : 0 < size)
    (hc : ∀ j, j < n * size → (w.cell? ⟨b, o + j, none⟩).isSome = true) (hf : ∀ j, j < n * size → w.frozen? ⟨b, o + j, none⟩ = false) :
    (Builtin.clear_ #[t] ty #[.slice (some ⟨b, o, none⟩) n c]).run P w = .ok (.tuple #[]) (w.setCells b o (Builtin.zeroCells z.cells n).toList) := by
  have hlen : (Builtin.zeroCells z.cells n).toList.length = n * size := by simp [Builtin.zeroCells, hzs]
  have hst := run_storeCells_cells (P := P) b o (Builtin.zeroCells z.cells n).toList 0 w (by rw [hlen]; simpa using hc) (by rw [hlen]; simpa using hf) (by
    intro v hv'
    unfold Builtin.zeroCells at hv'
    simp only [Array.toList_map, List.mem_map] at hv'
    obtain ⟨j, _, rfl⟩ := hv'
    have hlt : j % z.cells.size < z.cells.size := Nat.mod_lt _ (by omega)
    rw [getElem!_pos z.cells _ hlt]
    exact h1 _ (Array.getElem_mem hlt))
  simp only [Nat.add_zero] at hst
  obtain ⟨m, rfl⟩ : ∃ m, n = m + 1 := ⟨n - 1, by omega⟩
  simp [Builtin.clear_, run_underlying ht, hv, hst]
end
end Go.Proofs.Ythdbmgjlegpbaaa
/- slices.Grow of nil and slices.Concat at points (query.Merge). -/
namespace Go.Proofs.Ythdbmgjlegpbaaa
open Go.RowKit
set_option linter.unusedVariables false

def NilPost (w : World) (e : Ending) (w' : World) : Prop := ∃ v, e = .returned v ∧ w'.ownsRow w.heap.size 52 3 v 0 [] ∧ Below w.heap.size w w'
set_option maxRecDepth 100000 in
set_option maxHeartbeats 1000000 in
theorem growP_any (n : Nat) (w : World) (hn : n ≤ 8796093022208) :
    Calls Try.prog 79 #[.slice none 0 0, .int .i64 (n : Int)] w (NilPost w) := by
  obtain ⟨i0, hi, hz0, hz1, hz2⟩ := info_parts info_point
  by_cases h0 : n = 0
  · subst h0
    go_enter Try.func79, Try.ntmps79
    go_wp2_with fail
    go_ret
    exact ⟨_, rfl, own_nil _ _ _ _, Below.refl _ _⟩
  · have hrz : ∀ ty, (Builtin.append_ #[38, 3] ty #[.slice none 0 0, .int .i64 (n : Int)]).run Try.prog w = .ok (.slice (some ⟨w.heap.size, 0, none⟩) n (grownCap w n 0 52)) (w.drew.alloc (.cells (Builtin.zeroCells (Value.cells (.agg #[.string ⟨#[]⟩, .int .i64 0, .int .i64 0])) n ++ Builtin.zeroCells (Value.cells (.agg #[.string ⟨#[]⟩, .int .i64 0, .int .i64 0])) (grownCap w n 0 52 - n)) 52)) := fun ty =>
      Lib.run_append_nil_zeros w 38 3 ty 52 i0 _ .i64 .i64 Try.underlying38 Try.underlying3 hi hz0 n (by omega) (by omega) (by omega) (by rw [hz2]; omega)
    have hGn : n ≤ grownCap w n 0 52 := grownCap_ge w _ _ _
    have hG63 : grownCap w n 0 52 ≤ maxLen := grownCap_le_maxLen w n 0 52 (by unfold maxLen; omega)
    generalize grownCap w n 0 52 = G at *
    have hzl : ∀ m, (Builtin.zeroCells (Value.cells (.agg #[.string ⟨#[]⟩, .int .i64 0, .int .i64 0])) m).size = m * 3 := fun m => by simp [Builtin.zeroCells, Value.cells]
    obtain ⟨W1, hW1⟩ : ∃ W1, W1 = w.drew.alloc (.cells (Builtin.zeroCells (Value.cells (.agg #[.string ⟨#[]⟩, .int .i64 0, .int .i64 0])) n ++ Builtin.zeroCells (Value.cells (.agg #[.string ⟨#[]⟩, .int .i64 0, .int .i64 0])) (G - n)) 52) := ⟨_, rfl⟩
    rw [← hW1] at hrz
    have hO : Hid (W1.ownsRow w.heap.size 52 3 (.slice (some ⟨w.heap.size, 0, none⟩) 0 G) 0 []) := by
      show World.ownsRow _ _ _ _ _ _ _
      rw [hW1]
      refine own_of_parts (Nat.le_refl _) (Blk.new w.drew _ _) (Nat.zero_le _) hG63 ?_ (by simp)
      rw [Array.size_append, hzl, hzl]; omega
    have hb : Hid (Below w.heap.size w W1) := by show Below _ _ _; rw [hW1]; exact (Below.refl _ _).drew.alloc (Nat.le_refl _) _
    have hn0 : (0 : Int) < (n : Int) := by omega
    clear hW1 hzl hz0 hz1 hz2 hi
    go_enter Try.func79, Try.ntmps79
    go_wp2_with (at_builtin; refine Lib.wpList_append_run _ rfl _ _ _ _ rfl _ _ (by rfl) (by rfl) _ _ (hrz _) ?_)
    go_ret
    exact ⟨_, rfl, hO.out, hb.out⟩
end Go.Proofs.Ythdbmgjlegpbaaa
/- The order of points, sorted buffers: plain (the same lemmas as IgSearch, IgPlain, IgWrite have, for a seat without ingest). -/
namespace Go.Proofs.Ythdbmgjlegpbaaa
open Go.RowKit
set_option linter.unusedVariables false

theorem cmp_iff (a b : Pt.Point) : Pt.cmpP a b < 0 ↔ Lib.compareBytes a.1.data.toList b.1.data.toList < 0 ∨ (a.1 = b.1 ∧ a.2.1 < b.2.1) := by
  have h := less_ref a b
  unfold Pt.lessB at h
  by_cases e : a.1 = b.1
  · rw [if_neg (by simp [e])] at h
    have h' := decide_eq_decide.1 h
    rw [h', e, cb_self]; simp
  · rw [if_pos e] at h
    have h' := decide_eq_decide.1 h
    rw [h']; simp [e]
theorem cmp_trans {a b c : Pt.Point} (h : Pt.cmpP a b < 0) (k : Pt.cmpP b c < 0) : Pt.cmpP a c < 0 := by
  rw [cmp_iff] at h k ⊢
  have one : ∀ x y : List UInt8, Lib.compareBytes x y < 0 → Lib.compareBytes x y = -1 := fun x y q => by rcases cb_cases x y with e | e | e <;> omega
  rcases h with h | ⟨h1, h2⟩ <;> rcases k with k | ⟨k1, k2⟩
  · left; rw [cb_trans (one _ _ h) (one _ _ k)]; omega
  · left; rw [← k1]; exact h
  · left; rw [h1]; exact k
  · right; exact ⟨h1.trans k1, by omega⟩
def Ig.lo (ps : List Pt.Point) (p : Pt.Point) : Nat := ps.findIdx fun q => decide (¬ Pt.cmpP q p < 0)
def Ig.z0 : Pt.Point := (⟨#[]⟩, 0, 0)
def Ig.has (ps : List Pt.Point) (p : Pt.Point) : Bool := decide (Ig.lo ps p < ps.length) && decide (Pt.cmpP (ps.getD (Ig.lo ps p) Ig.z0) p = 0)
def Ig.Sorted (ps : List Pt.Point) : Prop := ∀ i j (hij : i < j) (hj : j < ps.length), Pt.cmpP (ps[i]'(by omega)) ps[j] < 0
theorem Ig.lo_of {ps : List Pt.Point} {p : Pt.Point} {k : Nat} (hk : k ≤ ps.length) (ha : ∀ j (hj : j < k), Pt.cmpP (ps[j]'(by omega)) p < 0) (hb : ∀ h : k < ps.length, ¬ Pt.cmpP ps[k] p < 0) : Ig.lo ps p = k := by
  unfold Ig.lo
  by_cases h : k < ps.length
  · rw [List.findIdx_eq h]
    exact ⟨by simpa using hb h, fun j hj => by simpa using ha j hj⟩
  · obtain rfl : k = ps.length := by omega
    rw [List.findIdx_eq_length]
    intro w hw
    obtain ⟨j, hj, rfl⟩ := List.getElem_of_mem hw
    simpa using ha j hj
theorem Ig.has_at {ps : List Pt.Point} {p : Pt.Point} {k : Nat} (h : Ig.lo ps p = k) (hk : k < ps.length) : Ig.has ps p = decide (Pt.cmpP ps[k] p = 0) := by
  unfold Ig.has
  rw [h, decide_eq_true hk, List.getD_eq_getElem?_getD, List.getElem?_eq_getElem hk]; rfl
theorem Ig.has_end {ps : List Pt.Point} {p : Pt.Point} {k : Nat} (h : Ig.lo ps p = k) (hk : ¬ k < ps.length) : Ig.has ps p = false := by
  unfold Ig.has
  rw [h, decide_eq_false hk]; rfl
theorem compareInt_neg (x y : Int) : Lib.compareInt y x = -Lib.compareInt x y := by
  unfold Lib.compareInt
  by_cases h1 : x < y
  · rw [if_pos h1, if_neg (by omega), if_pos h1]; rfl
  · by_cases h2 : y < x
    · rw [if_pos h2, if_neg h1, if_pos h2]
    · rw [if_neg h2, if_neg h1, if_neg h1, if_neg h2]; rfl
theorem cmp_neg (a b : Pt.Point) : Pt.cmpP b a = -Pt.cmpP a b := by
  unfold Pt.cmpP orV
  rw [cb_neg a.1.data.toList b.1.data.toList, compareInt_neg a.2.1 b.2.1]
  by_cases h : Lib.compareBytes a.1.data.toList b.1.data.toList = 0
  · simp [h]
  · have h' : -Lib.compareBytes a.1.data.toList b.1.data.toList ≠ 0 := by omega
    simp [h]
theorem cmp_same {a b : Pt.Point} (h : Pt.cmpP a b = 0) : a.1 = b.1 ∧ a.2.1 = b.2.1 := by
  have h1 : ¬ Pt.cmpP a b < 0 := by omega
  have h2 : ¬ Pt.cmpP b a < 0 := by rw [cmp_neg]; omega
  rw [cmp_iff] at h1 h2
  have hz : Lib.compareBytes a.1.data.toList b.1.data.toList = 0 := by
    have n := cb_neg a.1.data.toList b.1.data.toList
    rcases cb_cases a.1.data.toList b.1.data.toList with e | e | e
    · exact absurd (.inl (by omega)) h1
    · exact e
    · exact absurd (.inl (by omega)) h2
  have he := list_inj (cb_zero hz)
  refine ⟨he, ?_⟩
  have g1 : ¬ a.2.1 < b.2.1 := fun q => h1 (.inr ⟨he, q⟩)
  have g2 : ¬ b.2.1 < a.2.1 := fun q => h2 (.inr ⟨he.symm, q⟩)
  omega
theorem cmp_left {a b c : Pt.Point} (h : Pt.cmpP a b = 0) : Pt.cmpP a c = Pt.cmpP b c := by
  obtain ⟨h1, h2⟩ := cmp_same h
  unfold Pt.cmpP; rw [h1, h2]
theorem cmp_right {a b c : Pt.Point} (h : Pt.cmpP a b = 0) : Pt.cmpP c a = Pt.cmpP c b := by
  rw [cmp_neg a c, cmp_neg b c, cmp_left h]
namespace Ig
/-- a point into a sorted buffer, in the place of one that is like it -/
def setP (ps : List Pt.Point) (p : Pt.Point) : List Pt.Point := if has ps p = true then ps.set (lo ps p) p else ps.take (lo ps p) ++ p :: ps.drop (lo ps p)
def setAll (ps qs : List Pt.Point) : List Pt.Point := qs.foldl setP ps
theorem lo_le (ps : List Pt.Point) (p : Pt.Point) : lo ps p ≤ ps.length := List.findIdx_le_length
theorem lo_ahead {ps : List Pt.Point} {p : Pt.Point} (j : Nat) (hj : j < lo ps p) : Pt.cmpP (ps[j]'(by have := lo_le ps p; omega)) p < 0 := by
  have := List.not_of_lt_findIdx hj
  simpa using this
theorem lo_behind {ps : List Pt.Point} {p : Pt.Point} (h : lo ps p < ps.length) : ¬ Pt.cmpP ps[lo ps p] p < 0 := by
  have := List.findIdx_getElem (w := h)
  exact of_decide_eq_true this
theorem has_lt {ps : List Pt.Point} {p : Pt.Point} (h : has ps p = true) : ∃ hl : lo ps p < ps.length, Pt.cmpP ps[lo ps p] p = 0 := by
  by_cases hl : lo ps p < ps.length
  · rw [has_at rfl hl] at h
    exact ⟨hl, of_decide_eq_true h⟩
  · rw [has_end rfl hl] at h; cases h
theorem sorted_pair {ps : List Pt.Point} : Sorted ps ↔ ps.Pairwise fun a b => Pt.cmpP a b < 0 := by
  rw [List.pairwise_iff_getElem]
  exact ⟨fun h i j hi hj hij => h i j hij hj, fun h i j hij hj => h i j (by omega) hj hij⟩
theorem sorted_nil : Sorted [] := fun i j hij hj => absurd hj (by simp)
theorem setP_sorted {ps : List Pt.Point} {p : Pt.Point} (h : Sorted ps) : Sorted (setP ps p) := by
  unfold setP
  split
  · rename_i hh
    obtain ⟨hl, h0⟩ := has_lt hh
    intro i j hij hj
    rw [List.length_set] at hj
    rw [List.getElem_set, List.getElem_set]
    by_cases e1 : lo ps p = i
    · subst e1
      rw [if_pos rfl, if_neg (by omega), ← cmp_left h0]
      exact h _ j hij hj
    · rw [if_neg e1]
      by_cases e2 : lo ps p = j
      · subst e2
        rw [if_pos rfl, ← cmp_right h0]
        exact h i _ hij hj
      · rw [if_neg e2]; exact h i j hij hj
  · rename_i hh
    have hno : ∀ hl : lo ps p < ps.length, Pt.cmpP p ps[lo ps p] < 0 := fun hl => by
      have h1 := lo_behind hl
      have h2 : Pt.cmpP ps[lo ps p] p ≠ 0 := fun e => hh (by rw [has_at rfl hl]; exact decide_eq_true e)
      rw [cmp_neg]; omega
    rw [sorted_pair] at h ⊢
    rw [List.pairwise_append, List.pairwise_cons]
    refine ⟨h.sublist (List.take_sublist _ _), ⟨?_, h.sublist (List.drop_sublist _ _)⟩, ?_⟩
    · intro r hr
      obtain ⟨j, hj, rfl⟩ := List.getElem_of_mem hr
      rw [List.length_drop] at hj
      rw [List.getElem_drop]
      have hb := hno (by omega)
      by_cases e : j = 0
      · subst e; simpa using hb
      · exact cmp_trans hb (sorted_pair.2 h _ (lo ps p + j) (by omega) (by omega))
    · intro a ha b hb
      obtain ⟨i, hi, rfl⟩ := List.getElem_of_mem ha
      rw [List.length_take] at hi
      rw [List.getElem_take]
      have h1 := lo_ahead (ps := ps) (p := p) i (by omega)
      rcases List.mem_cons.1 hb with rfl | hb
      · exact h1
      · obtain ⟨j, hj, rfl⟩ := List.getElem_of_mem hb
        rw [List.length_drop] at hj
        rw [List.getElem_drop]
        exact sorted_pair.2 h i (lo ps p + j) (by omega) (by omega)
theorem setP_len (ps : List Pt.Point) (p : Pt.Point) : (setP ps p).length ≤ ps.length + 1 := by
  unfold setP
  have := lo_le ps p
  split
  · rw [List.length_set]; omega
  · simp; omega
theorem setAll_snoc (ps qs : List Pt.Point) (k : Nat) (hk : k < qs.length) : setAll ps (qs.take (k + 1)) = setP (setAll ps (qs.take k)) qs[k] := by
  unfold setAll
  rw [List.take_succ_eq_append_getElem hk, List.foldl_append]; rfl
theorem setAll_sorted {ps : List Pt.Point} (h : Sorted ps) (qs : List Pt.Point) : Sorted (setAll ps qs) := by
  unfold setAll
  induction qs generalizing ps with
  | nil => exact h
  | cons q qs ih => exact ih (setP_sorted h)
theorem setAll_len (ps qs : List Pt.Point) : (setAll ps qs).length ≤ ps.length + qs.length := by
  unfold setAll
  induction qs generalizing ps with
  | nil => simp
  | cons q qs ih =>
    have h1 := ih (setP ps q)
    have h2 := setP_len ps q
    simp only [List.foldl_cons, List.length_cons]; omega
end Ig
namespace Ig
/-! sorted buffers by their members -/
theorem cmp_self (p : Pt.Point) : Pt.cmpP p p = 0 := by
  have := cmp_neg p p
  omega
theorem mem_setP_iff {ps : List Pt.Point} (h : Sorted ps) (p q : Pt.Point) : q ∈ setP ps p ↔ q = p ∨ (q ∈ ps ∧ Pt.cmpP q p ≠ 0) := by
  rw [sorted_pair] at h
  unfold setP
  split
  · rename_i hh
    obtain ⟨hl, h0⟩ := has_lt hh
    rw [List.mem_iff_getElem]
    constructor
    · rintro ⟨i, hi, rfl⟩
      rw [List.length_set] at hi
      rw [List.getElem_set]
      by_cases e : lo ps p = i
      · rw [if_pos e]; exact .inl rfl
      · rw [if_neg e]
        right
        refine ⟨List.getElem_mem hi, ?_⟩
        rw [← cmp_right h0]
        rcases Nat.lt_or_ge i (lo ps p) with z | z
        · have := sorted_pair.2 h i (lo ps p) z hl; omega
        · have := sorted_pair.2 h (lo ps p) i (by omega) hi
          have := cmp_neg ps[lo ps p] ps[i]; omega
    · rintro (rfl | ⟨hq, hne⟩)
      · exact ⟨lo ps q, by rw [List.length_set]; exact hl, by rw [List.getElem_set_self]⟩
      · obtain ⟨i, hi, rfl⟩ := List.mem_iff_getElem.1 hq
        refine ⟨i, by rw [List.length_set]; exact hi, ?_⟩
        rw [List.getElem_set_ne]
        intro e
        subst e
        exact hne h0
  · rename_i hh
    have hno : ∀ hl : lo ps p < ps.length, Pt.cmpP ps[lo ps p] p ≠ 0 := fun hl e => hh (by rw [has_at rfl hl]; exact decide_eq_true e)
    have hall : ∀ x ∈ ps, Pt.cmpP x p ≠ 0 := fun x hx => by
      obtain ⟨i, hi, rfl⟩ := List.mem_iff_getElem.1 hx
      rcases Nat.lt_or_ge i (lo ps p) with z | z
      · have := lo_ahead (ps := ps) (p := p) i z; omega
      · by_cases e : i = lo ps p
        · subst e; exact hno hi
        · intro e0
          have h1 := sorted_pair.2 h (lo ps p) i (by omega) hi
          rw [cmp_right e0] at h1
          exact lo_behind (by omega) h1
    constructor
    · intro hq
      rcases List.mem_append.1 hq with hq | hq
      · have := List.mem_of_mem_take hq; exact .inr ⟨this, hall q this⟩
      · rcases List.mem_cons.1 hq with hq | hq
        · exact .inl hq
        · have := List.mem_of_mem_drop hq; exact .inr ⟨this, hall q this⟩
    · rintro (rfl | ⟨hq, _⟩)
      · exact List.mem_append_right _ (List.mem_cons_self ..)
      · rw [← List.take_append_drop (lo ps p) ps] at hq
        rcases List.mem_append.1 hq with hq | hq
        · exact List.mem_append_left _ hq
        · exact List.mem_append_right _ (List.mem_cons_of_mem _ hq)
theorem sorted_ext {a b : List Pt.Point} (ha : Sorted a) (hb : Sorted b) (h : ∀ x, x ∈ a ↔ x ∈ b) : a = b := by
  rw [sorted_pair] at ha hb
  induction a generalizing b with
  | nil =>
    cases b with
    | nil => rfl
    | cons y b => exact absurd ((h y).2 (List.mem_cons_self ..)) (by simp)
  | cons x a ih =>
    cases b with
    | nil => exact absurd ((h x).1 (List.mem_cons_self ..)) (by simp)
    | cons y b =>
      rw [List.pairwise_cons] at ha hb
      have hxy : x = y := by
        rcases List.mem_cons.1 ((h x).1 (List.mem_cons_self ..)) with e | e
        · exact e
        · rcases List.mem_cons.1 ((h y).2 (List.mem_cons_self ..)) with f | f
          · exact f.symm
          · have h1 := ha.1 y f
            have h2 := hb.1 x e
            have := cmp_neg x y
            omega
      subst hxy
      have hne : ∀ z, z ∈ a → z ≠ x := fun z hz e => by subst e; have := ha.1 z hz; rw [cmp_self] at this; omega
      have hne' : ∀ z, z ∈ b → z ≠ x := fun z hz e => by subst e; have := hb.1 z hz; rw [cmp_self] at this; omega
      congr 1
      refine ih ha.2 hb.2 fun z => ⟨fun hz => ?_, fun hz => ?_⟩
      · rcases List.mem_cons.1 ((h z).1 (List.mem_cons_of_mem _ hz)) with e | e
        · exact absurd e (hne z hz)
        · exact e
      · rcases List.mem_cons.1 ((h z).2 (List.mem_cons_of_mem _ hz)) with e | e
        · exact absurd e (hne' z hz)
        · exact e
end Ig
end Go.Proofs.Ythdbmgjlegpbaaa
/- Plain facts of a stable order of points: what a merge and a rotation leave. No walk in sight. -/
namespace Go.Proofs.Ythdbmgjlegpbaaa
open Go.RowKit
set_option linter.unusedVariables false
namespace St

/-- ascending: no later one is less than an earlier one -/
def Asc (l : List Pt.Point) : Prop := l.Pairwise fun a b => ¬ Pt.cmpP b a < 0
/-- those that are like p -/
def fl (p : Pt.Point) (l : List Pt.Point) : List Pt.Point := l.filter fun q => decide (Pt.cmpP q p = 0)
/-- the same points, those that are alike in their row -/
def Stab (l l' : List Pt.Point) : Prop := ∀ p, fl p l' = fl p l
theorem fl_append (p : Pt.Point) (a b : List Pt.Point) : fl p (a ++ b) = fl p a ++ fl p b := List.filter_append ..
theorem mem_fl {p x : Pt.Point} {l : List Pt.Point} : x ∈ fl p l ↔ x ∈ l ∧ Pt.cmpP x p = 0 := by unfold fl; rw [List.mem_filter, decide_eq_true_eq]
theorem Stab.refl (l : List Pt.Point) : Stab l l := fun _ => rfl
theorem Stab.trans {a b c : List Pt.Point} (h : Stab a b) (k : Stab b c) : Stab a c := fun p => (k p).trans (h p)
theorem Stab.mem {l l' : List Pt.Point} (h : Stab l l') (x : Pt.Point) : x ∈ l' ↔ x ∈ l := by
  have := h x
  constructor
  · intro hx
    have h1 : x ∈ fl x l' := mem_fl.2 ⟨hx, Ig.cmp_self x⟩
    rw [this] at h1
    exact (mem_fl.1 h1).1
  · intro hx
    have h1 : x ∈ fl x l := mem_fl.2 ⟨hx, Ig.cmp_self x⟩
    rw [← this] at h1
    exact (mem_fl.1 h1).1
theorem Stab.append {a a' b b' : List Pt.Point} (h : Stab a a') (k : Stab b b') : Stab (a ++ b) (a' ++ b') := fun p => by rw [fl_append, fl_append, h p, k p]
theorem swap_stab {u v : List Pt.Point} (h : ∀ x ∈ u, ∀ y ∈ v, Pt.cmpP y x < 0) : Stab (u ++ v) (v ++ u) := fun p => by
  rw [fl_append, fl_append]
  cases hu : fl p u with
  | nil => rw [List.append_nil, List.nil_append]
  | cons x us =>
    cases hv : fl p v with
    | nil => rw [List.append_nil, List.nil_append]
    | cons y vs =>
      have hx : x ∈ fl p u := by rw [hu]; exact List.mem_cons_self
      have hy : y ∈ fl p v := by rw [hv]; exact List.mem_cons_self
      have h1 := mem_fl.1 hx
      have h2 := mem_fl.1 hy
      have h3 := h x h1.1 y h2.1
      rw [cmp_left h2.2, cmp_neg, h1.2] at h3
      omega
theorem asc_append {a b : List Pt.Point} : Asc (a ++ b) ↔ Asc a ∧ Asc b ∧ ∀ x ∈ a, ∀ y ∈ b, ¬ Pt.cmpP y x < 0 := List.pairwise_append
theorem asc_nil : Asc [] := List.Pairwise.nil
theorem asc_one (x : Pt.Point) : Asc [x] := List.pairwise_singleton _ _
/-- what a merge of two ascending rows leaves -/
structure Mg (a b c : List Pt.Point) : Prop where
  len : c.length = a.length + b.length
  asc : Asc a → Asc b → Asc c
  stab : Asc a → Asc b → Stab (a ++ b) c
theorem mg_nil_left (b : List Pt.Point) : Mg [] b b := ⟨by simp, fun _ h => h, fun _ _ => Stab.refl _⟩
theorem mg_nil_right (a : List Pt.Point) : Mg a [] a := ⟨by simp, fun h _ => h, fun _ _ => by rw [List.append_nil]; exact Stab.refl _⟩
/-- the two halves behind the rotation -/
theorem mg_join {a1 a2 b1 b2 c1 c2 : List Pt.Point} (h12 : Asc (a1 ++ a2) → Asc (b1 ++ b2) → ∀ x ∈ a1, ∀ y ∈ b2, ¬ Pt.cmpP y x < 0) (h21 : Asc (a1 ++ a2) → Asc (b1 ++ b2) → ∀ x ∈ a2, ∀ y ∈ b1, Pt.cmpP y x < 0) (m1 : Mg a1 b1 c1) (m2 : Mg a2 b2 c2) : Mg (a1 ++ a2) (b1 ++ b2) (c1 ++ c2) := by
  refine ⟨by simp only [List.length_append, m1.len, m2.len]; omega, fun ha hb => ?_, fun ha hb => ?_⟩
  · obtain ⟨a1s, a2s, aa⟩ := asc_append.1 ha
    obtain ⟨b1s, b2s, bb⟩ := asc_append.1 hb
    refine asc_append.2 ⟨m1.asc a1s b1s, m2.asc a2s b2s, fun x hx y hy => ?_⟩
    rw [(m1.stab a1s b1s).mem, List.mem_append] at hx
    rw [(m2.stab a2s b2s).mem, List.mem_append] at hy
    rcases hx with hx | hx
    · rcases hy with hy | hy
      · exact aa x hx y hy
      · exact h12 ha hb x hx y hy
    · rcases hy with hy | hy
      · have := h21 ha hb y hy x hx
        rw [cmp_neg] at this
        omega
      · exact bb x hx y hy
  · obtain ⟨a1s, a2s, _⟩ := asc_append.1 ha
    obtain ⟨b1s, b2s, _⟩ := asc_append.1 hb
    have h1 : Stab ((a1 ++ a2) ++ (b1 ++ b2)) (a1 ++ b1 ++ (a2 ++ b2)) := by
      rw [show (a1 ++ a2) ++ (b1 ++ b2) = a1 ++ ((a2 ++ b1) ++ b2) from by simp only [List.append_assoc], show a1 ++ b1 ++ (a2 ++ b2) = a1 ++ ((b1 ++ a2) ++ b2) from by simp only [List.append_assoc]]
      exact (Stab.refl a1).append ((swap_stab (h21 ha hb)).append (Stab.refl b2))
    exact h1.trans ((m1.stab a1s b1s).append (m2.stab a2s b2s))
theorem le_trans' {a b c : Pt.Point} (h : ¬ Pt.cmpP b a < 0) (k : ¬ Pt.cmpP c b < 0) : ¬ Pt.cmpP c a < 0 := by
  intro q
  -- c < a, a ≤ b, b ≤ c
  rcases Int.lt_trichotomy (Pt.cmpP a b) 0 with e | e | e
  · have := cmp_trans q e
    exact k this
  · rw [← cmp_right e] at k
    exact k q
  · rw [cmp_neg] at e; omega
theorem lt_of_lt_le {a b c : Pt.Point} (h : Pt.cmpP a b < 0) (k : ¬ Pt.cmpP c b < 0) : Pt.cmpP a c < 0 := by
  rcases Int.lt_trichotomy (Pt.cmpP b c) 0 with e | e | e
  · exact cmp_trans h e
  · rw [← cmp_right e]; exact h
  · rw [cmp_neg] at e; omega
theorem lt_of_le_lt {a b c : Pt.Point} (h : ¬ Pt.cmpP b a < 0) (k : Pt.cmpP b c < 0) : Pt.cmpP a c < 0 := by
  rcases Int.lt_trichotomy (Pt.cmpP a b) 0 with e | e | e
  · exact cmp_trans e k
  · rw [cmp_left e]; exact k
  · rw [cmp_neg] at e; omega
theorem asc_at {l : List Pt.Point} (h : Asc l) (i j : Nat) (hij : i < j) (hj : j < l.length) : ¬ Pt.cmpP l[j] l[i] < 0 := (List.pairwise_iff_getElem.1 h) i j (by omega) hj hij
theorem asc_le {l : List Pt.Point} (h : Asc l) (i j : Nat) (hij : i ≤ j) (hj : j < l.length) : ¬ Pt.cmpP l[j] (l[i]'(by omega)) < 0 := by
  rcases Nat.lt_or_ge i j with q | q
  · exact asc_at h i j q hj
  · obtain rfl : i = j := by omega
    rw [Ig.cmp_self]; omega
theorem asc_lt_all {b : List Pt.Point} {x : Pt.Point} {i : Nat} (hi : i ≤ b.length) (hb : Asc b) (h1 : ∀ h : 0 < i, Pt.cmpP (b[i - 1]'(by omega)) x < 0) : ∀ y ∈ b.take i, Pt.cmpP y x < 0 := fun y hy => by
  obtain ⟨j, hj, rfl⟩ := List.mem_iff_getElem.1 hy
  rw [List.length_take] at hj
  rw [List.getElem_take]
  exact lt_of_le_lt (asc_le hb j (i - 1) (by omega) (by omega)) (h1 (by omega))
theorem asc_le_all {b : List Pt.Point} {x : Pt.Point} (hb : Asc b) (h2 : ∀ h : 0 < b.length, ¬ Pt.cmpP b[0] x < 0) : ∀ y ∈ b, ¬ Pt.cmpP y x < 0 := fun y hy => by
  obtain ⟨j, hj, rfl⟩ := List.mem_iff_getElem.1 hy
  exact le_trans' (h2 (by omega)) (asc_le hb 0 j (Nat.zero_le _) hj)
/-- one point before an ascending row -/
theorem mg_one_left {x : Pt.Point} {b : List Pt.Point} {i : Nat} (hi : i ≤ b.length) (h1 : ∀ h : 0 < i, Pt.cmpP (b[i - 1]'(by omega)) x < 0) (h2 : ∀ h : i < b.length, ¬ Pt.cmpP b[i] x < 0) : Mg [x] b (b.take i ++ x :: b.drop i) := by
  have e : Mg ([] ++ [x]) (b.take i ++ b.drop i) (b.take i ++ (x :: b.drop i)) := by
    refine mg_join (fun _ _ x hx => by cases hx) (fun ha hb u hu y hy => ?_) (mg_nil_left _) ⟨by simp; omega, fun ha hb => ?_, fun ha hb => Stab.refl _⟩
    · rw [List.take_append_drop] at hb
      rw [List.mem_singleton] at hu
      subst hu
      exact asc_lt_all hi hb h1 y hy
    · refine List.pairwise_cons.2 ⟨asc_le_all hb fun h => ?_, hb⟩
      rw [List.length_drop] at h
      rw [List.getElem_drop]
      exact h2 (by omega)
  rw [List.nil_append, List.take_append_drop] at e
  exact e
/-- one point behind an ascending row -/
theorem mg_one_right {y : Pt.Point} {a : List Pt.Point} {i : Nat} (hi : i ≤ a.length) (h1 : ∀ h : 0 < i, ¬ Pt.cmpP y (a[i - 1]'(by omega)) < 0) (h2 : ∀ h : i < a.length, Pt.cmpP y a[i] < 0) : Mg a [y] (a.take i ++ y :: a.drop i) := by
  have e : Mg (a.take i ++ a.drop i) ([y] ++ []) ((a.take i ++ [y]) ++ a.drop i) := by
    refine mg_join (fun _ _ x hx y hy => by cases hy) (fun ha hb u hu z hz => ?_) ⟨by simp, fun ha hb => ?_, fun ha hb => Stab.refl _⟩ (mg_nil_right _)
    · rw [List.mem_singleton] at hz
      subst hz
      obtain ⟨_, had, _⟩ := asc_append.1 ha
      have h0 : 0 < (a.drop i).length := List.length_pos_iff.2 (List.ne_nil_of_mem hu)
      rw [List.length_drop] at h0
      obtain ⟨j, hj, rfl⟩ := List.mem_iff_getElem.1 hu
      refine lt_of_lt_le (b := (a.drop i)[0]'(by rw [List.length_drop]; omega)) ?_ (asc_le had 0 j (Nat.zero_le _) hj)
      rw [List.getElem_drop]
      exact h2 (by omega)
    · refine asc_append.2 ⟨ha, hb, fun x hx z hz => ?_⟩
      rw [List.mem_singleton] at hz
      subst hz
      obtain ⟨j, hj, rfl⟩ := List.mem_iff_getElem.1 hx
      have hj' := hj
      rw [List.length_take] at hj'
      have hl := asc_le ha j ((a.take i).length - 1) (by omega) (by omega)
      refine le_trans' hl ?_
      have : (a.take i)[(a.take i).length - 1]'(by omega) = a[i - 1]'(by omega) := by
        rw [List.getElem_take]
        congr 1
        rw [List.length_take]; omega
      rw [this]
      exact h1 (by omega)
  rw [List.take_append_drop, List.append_nil, List.append_assoc, List.singleton_append] at e
  exact e
/-- the general cut: start, and where the second row is cut -/
theorem mg_cut {a b c1 c2 : List Pt.Point} {i j : Nat} (hi : i ≤ a.length) (hj : j ≤ b.length) (h1 : ∀ (h : 0 < i) (h' : j < b.length), ¬ Pt.cmpP b[j] (a[i - 1]'(by omega)) < 0) (h2 : ∀ (h : i < a.length) (h' : 0 < j), Pt.cmpP (b[j - 1]'(by omega)) a[i] < 0) (m1 : Mg (a.take i) (b.take j) c1) (m2 : Mg (a.drop i) (b.drop j) c2) : Mg a b (c1 ++ c2) := by
  have e := mg_join (a1 := a.take i) (a2 := a.drop i) (b1 := b.take j) (b2 := b.drop j) (fun ha hb x hx y hy => ?_) (fun ha hb x hx y hy => ?_) m1 m2
  · rw [List.take_append_drop, List.take_append_drop] at e
    exact e
  · obtain ⟨haT, _, _⟩ := asc_append.1 ha
    obtain ⟨_, hbD, _⟩ := asc_append.1 hb
    have h0 : 0 < (a.take i).length := List.length_pos_iff.2 (List.ne_nil_of_mem hx)
    have h0' : 0 < (b.drop j).length := List.length_pos_iff.2 (List.ne_nil_of_mem hy)
    rw [List.length_take] at h0
    rw [List.length_drop] at h0'
    obtain ⟨p, hp, rfl⟩ := List.mem_iff_getElem.1 hx
    obtain ⟨q, hq, rfl⟩ := List.mem_iff_getElem.1 hy
    have g1 := asc_le haT p (i - 1) (by rw [List.length_take] at hp; omega) (by rw [List.length_take]; omega)
    have g2 := asc_le hbD 0 q (Nat.zero_le _) hq
    rw [List.getElem_take (i := i - 1)] at g1
    rw [List.getElem_drop (i := j) (j := 0)] at g2
    exact le_trans' (le_trans' g1 (h1 (by omega) (by omega))) g2
  · obtain ⟨_, haD, _⟩ := asc_append.1 ha
    obtain ⟨hbT, _, _⟩ := asc_append.1 hb
    have h0 : 0 < (a.drop i).length := List.length_pos_iff.2 (List.ne_nil_of_mem hx)
    have h0' : 0 < (b.take j).length := List.length_pos_iff.2 (List.ne_nil_of_mem hy)
    rw [List.length_drop] at h0
    rw [List.length_take] at h0'
    obtain ⟨p, hp, rfl⟩ := List.mem_iff_getElem.1 hx
    obtain ⟨q, hq, rfl⟩ := List.mem_iff_getElem.1 hy
    have g1 := asc_le haD 0 p (Nat.zero_le _) hp
    have g2 := asc_le hbT q (j - 1) (by rw [List.length_take] at hq; omega) (by rw [List.length_take]; omega)
    rw [List.getElem_drop (i := i) (j := 0)] at g1
    rw [List.getElem_take (i := j - 1)] at g2
    exact lt_of_lt_le (lt_of_le_lt g2 (h2 (by omega) (by omega))) g1
/-! ## rows in parts -/
/-- l' is l with the n points from a and the n points from b changed about -/
def Sw (l l' : List Pt.Point) (a b n : Nat) : Prop := l'.length = l.length ∧ ∀ k : Nat, l'[k]? = if a ≤ k ∧ k < a + n then l[k - a + b]? else if b ≤ k ∧ k < b + n then l[k - b + a]? else l[k]?
/-- l' is l with the parts from a to m and from m to b changed about -/
def Rot (l l' : List Pt.Point) (a m b : Nat) : Prop := l'.length = l.length ∧ ∀ k : Nat, l'[k]? = if k < a then l[k]? else if k < a + (b - m) then l[k - a + m]? else if k < b then l[k - (b - m)]? else l[k]?
theorem sw_zero (l : List Pt.Point) (a b : Nat) : Sw l l a b 0 := ⟨rfl, fun k => by rw [if_neg (by omega), if_neg (by omega)]⟩
/-- two points changed about -/
def sw2 (l : List Pt.Point) (i j : Nat) : List Pt.Point := match l[i]?, l[j]? with
  | some x, some y => (l.set i y).set j x
  | _, _ => l
theorem sw2_at {l : List Pt.Point} {i j : Nat} (hi : i < l.length) (hj : j < l.length) : sw2 l i j = (l.set i l[j]).set j l[i] := by
  unfold sw2; rw [List.getElem?_eq_getElem hi, List.getElem?_eq_getElem hj]
theorem sw2_len (l : List Pt.Point) (i j : Nat) : (sw2 l i j).length = l.length := by
  unfold sw2; split <;> simp
theorem sw2_get {l : List Pt.Point} {i j : Nat} (hi : i < l.length) (hj : j < l.length) (k : Nat) : (sw2 l i j)[k]? = if k = j then l[i]? else if k = i then l[j]? else l[k]? := by
  rw [sw2_at hi hj, List.getElem?_set]
  by_cases h1 : j = k
  · rw [if_pos h1, if_pos h1.symm, if_pos (by rw [List.length_set]; omega), List.getElem?_eq_getElem hi]
  · rw [if_neg h1, if_neg (show ¬ k = j from fun h => h1 h.symm), List.getElem?_set]
    by_cases h2 : i = k
    · rw [if_pos h2, if_pos h2.symm, if_pos (by omega), List.getElem?_eq_getElem hj]
    · rw [if_neg h2, if_neg (show ¬ k = i from fun h => h2 h.symm)]
theorem sw_step {l l1 : List Pt.Point} {a b i : Nat} (h : Sw l l1 a b i) (hab : a + i < b) (hb : b + i < l.length) : Sw l (sw2 l1 (a + i) (b + i)) a b (i + 1) := by
  obtain ⟨hl, hk⟩ := h
  refine ⟨by rw [sw2_len, hl], fun k => ?_⟩
  rw [sw2_get (by omega) (by omega)]
  have ha := hk (a + i)
  have hb' := hk (b + i)
  rw [if_neg (by omega), if_neg (by omega)] at ha
  rw [if_neg (by omega), if_neg (by omega)] at hb'
  by_cases h1 : k = b + i
  · rw [if_pos h1, ha, if_neg (by omega), if_pos (by omega)]
    congr 1; omega
  · rw [if_neg h1]
    by_cases h2 : k = a + i
    · rw [if_pos h2, hb', if_pos (by omega)]
      congr 1; omega
    · rw [if_neg h2, hk k]
      by_cases h3 : a ≤ k ∧ k < a + i
      · rw [if_pos h3, if_pos (by omega)]
      · rw [if_neg h3]
        by_cases h4 : b ≤ k ∧ k < b + i
        · rw [if_pos h4, if_neg (by omega), if_pos (by omega)]
        · rw [if_neg h4, if_neg (by omega), if_neg (by omega)]
theorem rot_left {l l1 D : List Pt.Point} {m i j : Nat} (hs : Sw l l1 (m - i) m j) (hr : Rot l D (m - i) m (m + j)) (hij : j < i) (hm : i ≤ m) : Rot l1 D (m - i + j) m (m + j) := by
  obtain ⟨h1, h2⟩ := hs
  obtain ⟨h3, h4⟩ := hr
  refine ⟨by omega, fun k => ?_⟩
  rw [h4 k]
  by_cases c1 : k < m - i
  · rw [if_pos c1, if_pos (by omega), h2, if_neg (by omega), if_neg (by omega)]
  · rw [if_neg c1]
    by_cases c2 : k < m - i + j
    · rw [if_pos (by omega), if_pos c2, h2, if_pos (by omega)]
    · rw [if_neg (by omega), if_neg c2]
      by_cases c3 : k < m - i + j + j
      · rw [if_pos (by omega : k < m + j), if_pos (by omega), h2, if_neg (by omega), if_pos (by omega)]
        congr 1; omega
      · by_cases c4 : k < m + j
        · rw [if_pos c4, if_neg (by omega), if_pos c4, h2, if_neg (by omega), if_neg (by omega)]
          
        · rw [if_neg c4, if_neg (by omega), if_neg c4, h2, if_neg (by omega), if_neg (by omega)]
theorem rot_right {l l1 D : List Pt.Point} {m i j : Nat} (hs : Sw l l1 (m - i) (m + j - i) i) (hr : Rot l D (m - i) m (m + j)) (hij : i < j) (hm : i ≤ m) : Rot l1 D (m - i) m (m + (j - i)) := by
  obtain ⟨h1, h2⟩ := hs
  obtain ⟨h3, h4⟩ := hr
  refine ⟨by omega, fun k => ?_⟩
  rw [h4 k]
  by_cases c1 : k < m - i
  · rw [if_pos c1, if_pos c1, h2, if_neg (by omega), if_neg (by omega)]
  · rw [if_neg c1, if_neg c1]
    by_cases c2 : k < m - i + (j - i)
    · rw [if_pos (by omega), if_pos (by omega), h2]
      by_cases c3 : k - (m - i) + m < m + j - i
      · rw [if_neg (by omega), if_neg (by omega)]
      · omega
    · by_cases c3 : k < m + (j - i)
      · rw [if_neg (by omega : ¬ k < m - i + (m + (j - i) - m)), if_pos c3, h2, if_pos (by omega)]
        by_cases c4 : k < m - i + j
        · rw [if_pos (by omega)]; congr 1; omega
        · omega
      · rw [if_neg (by omega : ¬ k < m - i + (m + (j - i) - m)), if_neg c3, h2]
        by_cases c4 : k < m - i + j
        · omega
        · rw [if_neg (by omega : ¬ k < m - i + (m + j - m))]
          by_cases c5 : k < m + j
          · rw [if_pos c5, if_neg (by omega), if_pos (by omega)]; congr 1; omega
          · rw [if_neg c5, if_neg (by omega), if_neg (by omega)]
theorem rot_end {l l1 D : List Pt.Point} {m i : Nat} (hs : Sw l l1 (m - i) m i) (hr : Rot l D (m - i) m (m + i)) (hm : i ≤ m) : l1 = D := by
  obtain ⟨h1, h2⟩ := hs
  obtain ⟨h3, h4⟩ := hr
  apply List.ext_getElem?
  intro k
  rw [h2, h4]
  by_cases c1 : k < m - i
  · rw [if_pos c1, if_neg (show ¬ (m - i ≤ k ∧ k < m - i + i) by omega), if_neg (show ¬ (m ≤ k ∧ k < m + i) by omega)]
  · rw [if_neg c1]
    by_cases c2 : k < m
    · rw [if_pos (show m - i ≤ k ∧ k < m - i + i by omega), if_pos (show k < m - i + (m + i - m) by omega)]
    · rw [if_neg (show ¬ (m - i ≤ k ∧ k < m - i + i) by omega), if_neg (show ¬ k < m - i + (m + i - m) by omega)]
      by_cases c3 : k < m + i
      · rw [if_pos (show m ≤ k ∧ k < m + i by omega), if_pos c3]; congr 1; omega
      · rw [if_neg (show ¬ (m ≤ k ∧ k < m + i) by omega), if_neg c3]
theorem rot_parts (p u v s : List Pt.Point) : Rot (p ++ (u ++ (v ++ s))) (p ++ (v ++ (u ++ s))) p.length (p.length + u.length) (p.length + u.length + v.length) := by
  refine ⟨by simp only [List.length_append]; omega, fun k => ?_⟩
  by_cases c1 : k < p.length
  · rw [if_pos c1, List.getElem?_append_left c1, List.getElem?_append_left c1]
  · rw [if_neg c1, List.getElem?_append_right (by omega)]
    by_cases c2 : k < p.length + v.length
    · rw [if_pos (by omega), List.getElem?_append_left (by omega), List.getElem?_append_right (by omega), List.getElem?_append_right (by omega), List.getElem?_append_left (by omega)]
      congr 1; omega
    · rw [if_neg (by omega), List.getElem?_append_right (by omega)]
      by_cases c3 : k < p.length + u.length + v.length
      · rw [if_pos c3, List.getElem?_append_left (by omega), List.getElem?_append_right (by omega), List.getElem?_append_left (by omega)]
        congr 1; omega
      · rw [if_neg c3, List.getElem?_append_right (by omega), List.getElem?_append_right (by omega), List.getElem?_append_right (by omega), List.getElem?_append_right (by omega)]
        congr 1; omega
/-! ## one point through a row -/
theorem sw2_mid (p : List Pt.Point) (x y : Pt.Point) (s : List Pt.Point) : sw2 (p ++ (x :: y :: s)) p.length (p.length + 1) = p ++ (y :: x :: s) := by
  rw [sw2_at (by simp) (by simp)]
  have e1 : (p ++ (x :: y :: s))[p.length]'(by simp) = x := by simp
  have e2 : (p ++ (x :: y :: s))[p.length + 1]'(by simp) = y := by rw [List.getElem_append_right (by omega)]; simp
  rw [e1, e2, List.set_append_right _ _ (Nat.le_refl _), Nat.sub_self, List.set_cons_zero, List.set_append_right _ _ (by omega), Nat.add_sub_cancel_left]
  rfl
theorem sw2_comm {l : List Pt.Point} {i j : Nat} (hi : i < l.length) (hj : j < l.length) : sw2 l i j = sw2 l j i := by
  apply List.ext_getElem?
  intro k
  rw [sw2_get hi hj, sw2_get hj hi]
  by_cases h1 : k = j
  · rw [if_pos h1]
    by_cases h2 : k = i
    · rw [if_pos h2, ← h1, ← h2]
    · rw [if_neg h2, if_pos h1]
  · rw [if_neg h1]
    by_cases h2 : k = i
    · rw [if_pos h2, if_pos h2]
    · rw [if_neg h2, if_neg h2, if_neg h1]
/-- a point goes down an ascending row until one that is not greater -/
theorem asc_ins {c1 c2 : List Pt.Point} {y : Pt.Point} (hc : Asc (c1 ++ c2)) (h2 : ∀ x ∈ c2, Pt.cmpP y x < 0) (h1 : ∀ z c, c1 = c ++ [z] → ¬ Pt.cmpP y z < 0) : Asc (c1 ++ y :: c2) ∧ Stab (c1 ++ c2 ++ [y]) (c1 ++ y :: c2) := by
  obtain ⟨a1, a2, a3⟩ := asc_append.1 hc
  constructor
  · refine asc_append.2 ⟨a1, List.pairwise_cons.2 ⟨fun x hx => ?_, a2⟩, fun x hx z hz => ?_⟩
    · have := h2 x hx
      rw [cmp_neg]; omega
    · have hxy : ¬ Pt.cmpP y x < 0 := by
        rcases List.eq_nil_or_concat c1 with e | ⟨c, w, e⟩
        · rw [e] at hx; cases hx
        · rw [List.concat_eq_append] at e
          have hw := h1 w c e
          rw [e] at hx a1
          rcases List.mem_append.1 hx with hx | hx
          · have := (asc_append.1 a1).2.2 x hx w (by simp)
            exact le_trans' this hw
          · rw [List.mem_singleton] at hx; rw [hx]; exact hw
      rcases List.mem_cons.1 hz with rfl | hz
      · exact hxy
      · exact a3 x hx z hz
  · have : Stab (c1 ++ (c2 ++ [y])) (c1 ++ ([y] ++ c2)) := (Stab.refl c1).append (swap_stab fun x hx z hz => by
      rw [List.mem_singleton] at hz; rw [hz]; exact h2 x hx)
    rw [List.append_assoc]
    exact this
end St
end Go.Proofs.Ythdbmgjlegpbaaa
/- The walks through slices.swapRangeCmpFunc and rotateCmpFunc at points. -/
namespace Go.Proofs.Ythdbmgjlegpbaaa
open Go.RowKit
set_option linter.unusedVariables false

theorem pt_own_cellsS {w : World} {base g cap : Nat} {qs : List Pt.Point} {n : Nat} (h : w.ownsRow base 52 3 (.slice (some ⟨g, 0, none⟩) n cap) n (qs.flatMap pointCells)) (k : Nat) (hk : k < qs.length) :
    w.cell? ⟨g, k * 3, none⟩ = some (.string qs[k].1) ∧ w.cell? ⟨g, k * 3 + 1, none⟩ = some (.int .i64 qs[k].2.1) ∧ w.cell? ⟨g, k * 3 + 2, none⟩ = some (.int .i64 qs[k].2.2) :=
  ⟨own_cell h (by have := flat_at pointCells 3 (fun _ => rfl) qs k 0 hk (by omega); rw [Nat.add_zero] at this; rw [this]; rfl), own_cell h (by rw [flat_at pointCells 3 (fun _ => rfl) qs k 1 hk (by omega)]; rfl), own_cell h (by rw [flat_at pointCells 3 (fun _ => rfl) qs k 2 hk (by omega)]; rfl)⟩
theorem flat_setS (l : List Pt.Point) (k : Nat) (y : Pt.Point) (hk : k < l.length) : setL (l.flatMap pointCells) (k * 3) (pointCells y) = (l.set k y).flatMap pointCells := by
  have hl : (l.flatMap pointCells).length = l.length * 3 := flat_length pointCells 3 (fun _ => rfl) l
  have ht : ∀ (xs : List Pt.Point) (i : Nat), (xs.flatMap pointCells).take (i * 3) = (xs.take i).flatMap pointCells := fun xs => by
    induction xs with
    | nil => simp
    | cons x xs ih =>
      intro i
      cases i with
      | zero => simp
      | succ i => rw [List.flatMap_cons, List.take_succ_cons, List.flatMap_cons, List.take_append, List.take_of_length_le (by show 3 ≤ _; omega), show (pointCells x).length = 3 from rfl, show (i + 1) * 3 - 3 = i * 3 from by omega, ih]
  have hd : ∀ (xs : List Pt.Point) (i : Nat), (xs.flatMap pointCells).drop (i * 3) = (xs.drop i).flatMap pointCells := fun xs => by
    induction xs with
    | nil => simp
    | cons x xs ih =>
      intro i
      cases i with
      | zero => simp
      | succ i => rw [List.flatMap_cons, List.drop_succ_cons, List.drop_append, List.drop_eq_nil_of_le (by show 3 ≤ _; omega), show (pointCells x).length = 3 from rfl, show (i + 1) * 3 - 3 = i * 3 from by omega, ih, List.nil_append]
  rw [setL_eq _ _ _ (by rw [hl]; show k * 3 + 3 ≤ _; omega), show k * 3 + (pointCells y).length = (k + 1) * 3 from by show k * 3 + 3 = _; omega, ht, hd, List.set_eq_take_append_cons_drop, if_pos hk, List.flatMap_append, List.flatMap_cons, List.append_assoc]
/-- two points of a row changed about -/
theorem own_sw {w : World} {base g N cap : Nat} {l : List Pt.Point} (h : w.ownsRow base 52 3 (.slice (some ⟨g, 0, none⟩) N cap) N (l.flatMap pointCells)) {i j : Nat} {p q : Pt.Point} (hi : l[i]? = some p) (hj : l[j]? = some q) :
    (((w.setCells g (i * 3) (pointCells q)).setCells g (j * 3) (pointCells p)).drew).ownsRow base 52 3 (.slice (some ⟨g, 0, none⟩) N cap) N ((St.sw2 l i j).flatMap pointCells) ∧ Only (fun k => k = g) w (((w.setCells g (i * 3) (pointCells q)).setCells g (j * 3) (pointCells p)).drew) := by
  obtain ⟨hil, hi'⟩ := List.getElem?_eq_some_iff.1 hi
  obtain ⟨hjl, hj'⟩ := List.getElem?_eq_some_iff.1 hj
  constructor
  · have h1 := own_setCells (pointCells q) (i * 3) h
    rw [flat_setS l i q hil] at h1
    have h2 := own_setCells (pointCells p) (j * 3) h1
    rw [flat_setS (l.set i q) j p (by rw [List.length_set]; exact hjl)] at h2
    rw [St.sw2_at hil hjl, hi', hj']
    exact own_drewN h2 1
  · exact ((only_setCells (pointCells q) w (i * 3)).trans (only_setCells (pointCells p) _ (j * 3)) (fun _ _ h => h)).drew
/-- the row at g holds a list that is R -/
def RowPost (w : World) (base g N cap : Nat) (R : List Pt.Point → Prop) (e : Ending) (w' : World) : Prop :=
  ∃ l', e = .returned (.tuple #[]) ∧ l'.length = N ∧ w'.ownsRow base 52 3 (.slice (some ⟨g, 0, none⟩) N cap) N (l'.flatMap pointCells) ∧ Only (fun k => k = g) w w' ∧ R l'
set_option maxRecDepth 100000 in
set_option maxHeartbeats 2000000 in
theorem swapRange_any (base g N cap : Nat) (l : List Pt.Point) (a b n : Nat) (F : Value) (w : World) (hown : w.ownsRow base 52 3 (.slice (some ⟨g, 0, none⟩) N cap) N (l.flatMap pointCells)) (hl : l.length = N) (hab : a + n ≤ b) (hb : b + n ≤ N) (hN : N ≤ 9223372036854775807) :
    Calls Try.prog 106 #[.slice (some ⟨g, 0, none⟩) N cap, .int .i64 (a : Int), .int .i64 (b : Int), .int .i64 (n : Int), F] w (RowPost w base g N cap (fun l' => St.Sw l l' a b n)) := by
  have H0 := Lib.hid hown
  clear hown
  go_enter Try.func106, Try.ntmps106
  go_wp2_with fail
  go_loopw [10] (fun i wr => ∃ (k : Nat) (l1 : List Pt.Point), k ≤ n ∧ i = .int .i64 (k : Int) ∧ l1.length = N ∧ Hid (wr.ownsRow base 52 3 (.slice (some ⟨g, 0, none⟩) N cap) N (l1.flatMap pointCells)) ∧ Hid (Only (fun k => k = g) w wr) ∧ Hid (St.Sw l l1 a b k)) (fun i _ => n - (intOf i).toNat)
  case atStart => exact ⟨0, l, Nat.zero_le _, rfl, hl, H0, Lib.hid (Only.refl _ _), Lib.hid (St.sw_zero _ _ _)⟩
  case round =>
    obtain ⟨k, l1, hk, rfl, hl1, hown, ho, hsw⟩ := hrel
    by_cases hlt : k < n
    · have hkn : (k : Int) < (n : Int) := by omega
      have hia : a + k < l1.length := by omega
      have hib : b + k < l1.length := by omega
      obtain ⟨ia, hia2⟩ : ∃ ia, a + k = ia := ⟨_, rfl⟩
      obtain ⟨ib, hib2⟩ : ∃ ib, b + k = ib := ⟨_, rfl⟩
      have ea : (a : Int) + (k : Int) = (ia : Int) := by omega
      have eb : (b : Int) + (k : Int) = (ib : Int) := by omega
      have hial : ia < l1.length := by omega
      have hibl : ib < l1.length := by omega
      have hne : ia ≠ ib := by omega
      have ea' : IntKind.i64.wrap ((a : Int) + (k : Int)) = (ia : Int) := by rw [ea]; exact IntWalk.i64_in _ (by omega)
      have eb' : IntKind.i64.wrap ((b : Int) + (k : Int)) = (ib : Int) := by rw [eb]; exact IntWalk.i64_in _ (by omega)
      have q5 : ia < N := by omega
      have q6 : ib < N := by omega
      have q1 : (ia : Int) < (N : Int) := by omega
      have q2 : (ib : Int) < (N : Int) := by omega
      have q3 : (0 : Int) ≤ (ia : Int) := by omega
      have q4 : (0 : Int) ≤ (ib : Int) := by omega
      obtain ⟨x0, x1, x2⟩ := pt_own_cellsS hown.out ia hial
      obtain ⟨y0, y1, y2⟩ := pt_own_cellsS hown.out ib hibl
      have fx0 := own_frozen hown.out (ia * 3)
      have fx1 := own_frozen hown.out (ia * 3 + 1)
      have fx2 := own_frozen hown.out (ia * 3 + 2)
      have fy0 := own_frozen hown.out (ib * 3)
      have fy1 := own_frozen hown.out (ib * 3 + 1)
      have fy2 := own_frozen hown.out (ib * 3 + 2)
      have gx : l1[ia]? = some l1[ia] := List.getElem?_eq_getElem hial
      have gy : l1[ib]? = some l1[ib] := List.getElem?_eq_getElem hibl
      generalize l1[ia] = p at *
      generalize l1[ib] = q at *
      obtain ⟨pn, pt, pv⟩ := p
      obtain ⟨qn, qt, qv⟩ := q
      simp only at x0 x1 x2 y0 y1 y2
      have HW := Lib.hid (own_sw hown.out gx gy)
      have HSw : Hid (St.Sw l (St.sw2 l1 ia ib) a b (k + 1)) := by subst hia2; subst hib2; exact St.sw_step hsw.out (by omega) (by omega)
      have hl2 := St.sw2_len l1 ia ib
      clear gx gy hown hsw hia hib hia2 hib2
      go_wp2_with fail
      go_region
      have HW1 : Hid (World.ownsRow (((((((wr.setCell ⟨g, ia * 3, none⟩ (.string qn)).setCell ⟨g, ia * 3 + 1, none⟩ (.int .i64 qt)).setCell ⟨g, ia * 3 + 2, none⟩ (.int .i64 qv)).setCell ⟨g, ib * 3, none⟩ (.string pn)).setCell ⟨g, ib * 3 + 1, none⟩ (.int .i64 pt)).setCell ⟨g, ib * 3 + 2, none⟩ (.int .i64 pv)).drew) base 52 3 (.slice (some ⟨g, 0, none⟩) N cap) N ((St.sw2 l1 ia ib).flatMap pointCells)) := HW.out.1
      have HW2 : Hid (Only (fun k => k = g) wr (((((((wr.setCell ⟨g, ia * 3, none⟩ (.string qn)).setCell ⟨g, ia * 3 + 1, none⟩ (.int .i64 qt)).setCell ⟨g, ia * 3 + 2, none⟩ (.int .i64 qv)).setCell ⟨g, ib * 3, none⟩ (.string pn)).setCell ⟨g, ib * 3 + 1, none⟩ (.int .i64 pt)).setCell ⟨g, ib * 3 + 2, none⟩ (.int .i64 pv)).drew)) := HW.out.2
      clear HW x0 x1 x2 y0 y1 y2 fx0 fx1 fx2 fy0 fy1 fy2
      generalize ((((((wr.setCell ⟨g, ia * 3, none⟩ (.string qn)).setCell ⟨g, ia * 3 + 1, none⟩ (.int .i64 qt)).setCell ⟨g, ia * 3 + 2, none⟩ (.int .i64 qv)).setCell ⟨g, ib * 3, none⟩ (.string pn)).setCell ⟨g, ib * 3 + 1, none⟩ (.int .i64 pt)).setCell ⟨g, ib * 3 + 2, none⟩ (.int .i64 pv)).drew = w2 at *
      have Ho2 : Hid (Only (fun k => k = g) w w2) := ho.out.trans HW2.out (fun _ _ h => h)
      go_wp2_with fail
      go_roundw
      case rel => exact ⟨k + 1, St.sw2 l1 ia ib, by omega, by go_num, by omega, HW1, Ho2, HSw⟩
      case measure => simp [intOf]; omega
    · obtain rfl : k = n := by omega
      go_wp2_with fail
      go_end0
      exact ⟨l1, rfl, hl1, hown.out, ho.out, hsw.out⟩
set_option maxRecDepth 100000 in
set_option maxHeartbeats 2000000 in
theorem rotate_any (base g N cap : Nat) (p u v s : List Pt.Point) (a m b : Nat) (F : Value) (w : World) (hown : w.ownsRow base 52 3 (.slice (some ⟨g, 0, none⟩) N cap) N ((p ++ (u ++ (v ++ s))).flatMap pointCells)) (hl : (p ++ (u ++ (v ++ s))).length = N) (ha : a = p.length) (hm : m = p.length + u.length) (hb : b = p.length + u.length + v.length) (hu : 0 < u.length) (hv : 0 < v.length) (hN : N ≤ 9223372036854775807) :
    Calls Try.prog 102 #[.slice (some ⟨g, 0, none⟩) N cap, .int .i64 (a : Int), .int .i64 (m : Int), .int .i64 (b : Int), F] w (RowPost w base g N cap (fun l' => l' = p ++ (v ++ (u ++ s)))) := by
  have hR : St.Rot (p ++ (u ++ (v ++ s))) (p ++ (v ++ (u ++ s))) a m b := by rw [hb, hm, ha]; exact St.rot_parts p u v s
  have hbN : b ≤ N := by rw [← hl, hb]; simp only [List.length_append]; omega
  have hab : a < m ∧ m < b := by omega
  generalize p ++ (v ++ (u ++ s)) = D at *
  generalize p ++ (u ++ (v ++ s)) = l at *
  have H0 := Lib.hid hown
  have HR := Lib.hid hR
  have HSR := fun l a b n W h1 h2 h3 h4 => Lib.hid (swapRange_any base g N cap l a b n F W h1 h2 h3 h4 hN)
  obtain ⟨h1, h2⟩ := hab
  clear hown hR ha hm hb hu hv
  have em : (m : Int) - (a : Int) = ((m - a : Nat) : Int) := by omega
  have eb : (b : Int) - (m : Int) = ((b - m : Nat) : Int) := by omega
  go_enter Try.func102, Try.ntmps102
  go_wp2_with fail
  go_loopw [10, 11] (fun x y wr => ∃ (i j : Nat) (l1 : List Pt.Point), 0 < i ∧ 0 < j ∧ i ≤ m ∧ m + j ≤ N ∧ x = .int .i64 (i : Int) ∧ y = .int .i64 (j : Int) ∧ l1.length = N ∧ Hid (wr.ownsRow base 52 3 (.slice (some ⟨g, 0, none⟩) N cap) N (l1.flatMap pointCells)) ∧ Hid (Only (fun k => k = g) w wr) ∧ Hid (St.Rot l1 D (m - i) m (m + j))) (fun x y _ => (intOf x).toNat + (intOf y).toNat)
  case atStart => exact ⟨m - a, b - m, l, by omega, by omega, by omega, by omega, by first | rfl | (congr 1), by first | rfl | (congr 1), hl, H0, Lib.hid (Only.refl _ _), Lib.hid (by rw [show m - (m - a) = a from by omega, show m + (b - m) = b from by omega]; exact HR.out)⟩
  case round =>
    clear em eb
    obtain ⟨i, j, l1, hi0, hj0, him, hjN, rfl, rfl, hl1, hown, ho, hr⟩ := hrel
    have e1 : (m : Int) - (i : Int) = ((m - i : Nat) : Int) := by omega
    have e2 : (m : Int) + (j : Int) - (i : Int) = ((m + j - i : Nat) : Int) := by omega
    rcases Nat.lt_trichotomy i j with hij | hij | hij
    · have c1 : ((i : Int) != (j : Int)) = true := by simp; omega
      have c2 : ¬ (j : Int) < (i : Int) := by omega
      have HS := Lib.hid (HSR l1 (m - i) (m + j - i) i wr hown.out hl1 (by omega) (by omega))
      have HRR := Lib.hid (fun l2 h => @St.rot_right l1 l2 D m i j h hr.out hij him)
      clear HSR hown hr
      go_wp2_with fail
      refine HS.out.out.mono ?_
      rintro e w2 ⟨l2, rfl, hl2, hown2, ho2, hs2⟩
      have Hown2 := Lib.hid hown2
      have Ho2 : Hid (Only (fun k => k = g) w w2) := ho.out.trans ho2 (fun _ _ h => h)
      have Hr2 := Lib.hid (HRR.out l2 hs2)
      have e3 : (j : Int) - (i : Int) = ((j - i : Nat) : Int) := by omega
      clear hown2 ho2 hs2 HRR HS
      go_wp2_with fail
      go_roundw
      case rel => exact ⟨i, j - i, l2, by omega, by omega, by omega, by omega, rfl, by first | rfl | (congr 1), hl2, Hown2, Ho2, Hr2⟩
      case measure => simp [intOf]; omega
    · subst hij
      have c1 : ((i : Int) != (i : Int)) = false := by simp
      have HS := Lib.hid (HSR l1 (m - i) m i wr hown.out hl1 (by omega) (by omega))
      have HRE := Lib.hid (fun l2 h => @St.rot_end l1 l2 D m i h hr.out him)
      clear HSR hown hr
      go_wp2_with fail
      refine HS.out.out.mono ?_
      rintro e w2 ⟨l2, rfl, hl2, hown2, ho2, hs2⟩
      have Hown2 := Lib.hid hown2
      have Ho2 : Hid (Only (fun k => k = g) w w2) := ho.out.trans ho2 (fun _ _ h => h)
      have Hr2 := Lib.hid (HRE.out l2 hs2)
      clear hown2 ho2 hs2 HRE HS
      go_wp2_with fail
      go_end0
      exact ⟨l2, rfl, hl2, Hown2.out, Ho2.out, Hr2.out⟩
    · have c1 : ((i : Int) != (j : Int)) = true := by simp; omega
      have c2 : (j : Int) < (i : Int) := by omega
      have HS := Lib.hid (HSR l1 (m - i) m j wr hown.out hl1 (by omega) (by omega))
      have HRL := Lib.hid (fun l2 h => @St.rot_left l1 l2 D m i j h hr.out hij him)
      clear HSR hown hr
      go_wp2_with fail
      refine HS.out.out.mono ?_
      rintro e w2 ⟨l2, rfl, hl2, hown2, ho2, hs2⟩
      have Hown2 := Lib.hid hown2
      have Ho2 : Hid (Only (fun k => k = g) w w2) := ho.out.trans ho2 (fun _ _ h => h)
      have Hr2 := Lib.hid (HRL.out l2 hs2)
      have e3 : (i : Int) - (j : Int) = ((i - j : Nat) : Int) := by omega
      clear hown2 ho2 hs2 HRL HS
      go_wp2_with fail
      go_roundw
      case rel => exact ⟨i - j, j, l2, by omega, by omega, by omega, by omega, by first | rfl | (congr 1), rfl, hl2, Hown2, Ho2, Lib.hid (by rw [show m - (i - j) = m - i + j from by omega]; exact Hr2.out)⟩
      case measure => simp [intOf]; omega
end Go.Proofs.Ythdbmgjlegpbaaa
