/- Rows of the call's own: cut, drawn out into their room, written over cell by cell; copy, append in place and clear on elements of several cells. Of no program. (The runs of copy and clear are worked out after the kit's laws at one cell.) -/
import Derived.Test.YtllbjegnjjeaeaaOwnSet
import Derived.Laws.IdiomCopy
import Derived.Lib.AppendZerosOnto
import Derived.Lib.Overlaps
import Derived.Lib.SliceRun
namespace Go.Proofs.Ytllbjegnjjeaeaa
open Go.RowKit
set_option linter.unusedVariables false

section
variable {w : World} {base g : Nat} {e : TypeId} {size n cap : Nat} {xs : List Value}
theorem own_parts (h : w.ownsRow base e size (.slice (some ⟨g, 0, none⟩) n cap) n xs) : ∃ cur, base ≤ g ∧ Blk w g e cur ∧ n ≤ cap ∧ cap ≤ maxLen ∧ cur.size = cap * size ∧ cur.toList.take (n * size) = xs := by
  rcases h.2 with ⟨hv, _⟩ | ⟨g', cap', cur, hv, hg, hh, hnc, hcm, hcs, hx⟩
  · cases hv
  · injection hv with e1 e2 e3
    injection e1 with e1
    injection e1 with e1
    subst e1; subst e3
    exact ⟨cur, hg, hh, hnc, hcm, hcs, hx⟩
theorem own_of_parts {cur : Array Value} (hg : base ≤ g) (hh : Blk w g e cur) (hnc : n ≤ cap) (hcm : cap ≤ maxLen) (hcs : cur.size = cap * size) (hx : cur.toList.take (n * size) = xs) : w.ownsRow base e size (.slice (some ⟨g, 0, none⟩) n cap) n xs := by
  refine ⟨?_, .inr ⟨g, cap, cur, rfl, hg, hh, hnc, hcm, hcs, hx⟩⟩
  rw [← hx, List.length_take, Array.length_toList, hcs]
  exact Nat.min_eq_left (Nat.mul_le_mul_right _ hnc)
theorem own_cut (h : w.ownsRow base e size (.slice (some ⟨g, 0, none⟩) n cap) n xs) (i : Nat) (hi : i ≤ n) : w.ownsRow base e size (.slice (some ⟨g, 0, none⟩) i cap) i (xs.take (i * size)) := by
  obtain ⟨cur, hg, hh, hnc, hcm, hcs, hx⟩ := own_parts h
  refine own_of_parts hg hh (by omega) hcm hcs ?_
  rw [← hx, List.take_take, Nat.min_eq_left (Nat.mul_le_mul_right _ hi)]
theorem own_extend (h : w.ownsRow base e size (.slice (some ⟨g, 0, none⟩) n cap) n xs) (m : Nat) (hm : n + m ≤ cap) : ∃ ys : List Value, ys.length = m * size ∧ w.ownsRow base e size (.slice (some ⟨g, 0, none⟩) (n + m) cap) (n + m) (xs ++ ys) := by
  obtain ⟨cur, hg, hh, hnc, hcm, hcs, hx⟩ := own_parts h
  have hle : (n + m) * size ≤ cap * size := Nat.mul_le_mul_right _ hm
  have hadd : (n + m) * size = n * size + m * size := Nat.add_mul _ _ _
  refine ⟨(cur.toList.take ((n + m) * size)).drop (n * size), ?_, ?_⟩
  · rw [List.length_drop, List.length_take, Array.length_toList, hcs]; omega
  · refine own_of_parts hg hh hm hcm hcs ?_
    have := List.take_append_drop (n * size) (cur.toList.take ((n + m) * size))
    rw [List.take_take, Nat.min_eq_left (by omega), hx] at this
    exact this.symm
theorem own_some_cell (h : w.ownsRow base e size (.slice (some ⟨g, 0, none⟩) n cap) n xs) (j : Nat) (hj : j < cap * size) : (w.cell? ⟨g, j, none⟩).isSome = true := by
  obtain ⟨cur, hg, hh, hnc, hcm, hcs, hx⟩ := own_parts h
  rw [hh.cell, Array.getElem?_eq_getElem (by omega)]; rfl
def setL : List Value → Nat → List Value → List Value
  | xs, _, [] => xs
  | xs, o, v :: r => setL (xs.set o v) (o + 1) r
theorem setL_len (vs : List Value) (xs : List Value) (o : Nat) : (setL xs o vs).length = xs.length := by
  induction vs generalizing xs o with
  | nil => rfl
  | cons v r ih => rw [setL, ih, List.length_set]
theorem setL_eq (vs : List Value) (xs : List Value) (o : Nat) (h : o + vs.length ≤ xs.length) : setL xs o vs = xs.take o ++ vs ++ xs.drop (o + vs.length) := by
  induction vs generalizing xs o with
  | nil => simp [setL]
  | cons v r ih =>
    rw [List.length_cons] at h
    rw [setL, ih _ _ (by rw [List.length_set]; omega), List.length_cons, show o + (r.length + 1) = o + 1 + r.length from by omega,
      List.drop_set_of_lt (by omega), List.take_succ_eq_append_getElem (by rw [List.length_set]; omega), List.getElem_set_self, List.take_set_of_le (by omega)]
    simp
theorem setL_past (vs : List Value) (xs : List Value) (o : Nat) (h : xs.length ≤ o) : setL xs o vs = xs := by
  induction vs generalizing xs o with
  | nil => rfl
  | cons v r ih => rw [setL, List.set_eq_of_length_le h, ih _ _ (by omega)]
theorem ins_cells (xs ys zs : List Value) (a K : Nat) (hy : ys.length = K) (hz : zs.length = K) (ha : a ≤ xs.length) : setL (setL (xs ++ zs) (a + K) (xs.drop a)) a ys = xs.take a ++ (ys ++ xs.drop a) := by
  have h1 : setL (xs ++ zs) (a + K) (xs.drop a) = (xs ++ zs).take (a + K) ++ xs.drop a := by
    have hd : (xs ++ zs).drop (a + K + (xs.drop a).length) = [] := List.drop_eq_nil_of_le (by rw [List.length_append, List.length_drop, hz]; omega)
    rw [setL_eq _ _ _ (by rw [List.length_append, List.length_drop, hz]; omega), hd, List.append_nil]
  have hl : ((xs ++ zs).take (a + K)).length = a + K := by rw [List.length_take, List.length_append, hz]; omega
  rw [h1, setL_eq _ _ _ (by rw [List.length_append, hl, hy]; omega), List.take_append_of_le_length (by omega), List.take_take, Nat.min_eq_left (by omega), List.take_append_of_le_length ha, hy, List.drop_left' hl, List.append_assoc]
theorem del_cells (xs : List Value) (a K : Nat) (ha : a + K ≤ xs.length) : (setL xs a (xs.drop (a + K))).take (xs.length - K) = xs.take a ++ xs.drop (a + K) := by
  have hl : (xs.take a).length = a := by rw [List.length_take]; omega
  rw [setL_eq _ _ _ (by rw [List.length_drop]; omega)]
  refine List.take_left' ?_
  rw [List.length_append, hl, List.length_drop]; omega
theorem ins_cells2 (xs ys zz : List Value) (a K : Nat) (hy : ys.length = K) (ha : a ≤ xs.length) (hz : zz.length = xs.length - a + K) : setL (setL (xs.take a ++ zz) a ys) (a + K) (xs.drop a) = xs.take a ++ (ys ++ xs.drop a) := by
  have hl : (xs.take a).length = a := by rw [List.length_take]; omega
  have h1 : setL (xs.take a ++ zz) a ys = xs.take a ++ (ys ++ zz.drop K) := by
    rw [setL_eq _ _ _ (by rw [List.length_append, hl, hy, hz]; omega), List.take_left' hl, hy, List.drop_append, List.drop_eq_nil_of_le (by omega), List.nil_append, hl, show a + K - a = K from by omega, List.append_assoc]
  have h2 : (xs.take a ++ ys).length = a + K := by rw [List.length_append, hl, hy]
  have h3 : (xs.take a ++ (ys ++ zz.drop K)).length = a + K + (xs.drop a).length := by rw [← List.append_assoc, List.length_append, h2, List.length_drop, List.length_drop, hz]; omega
  rw [h1, setL_eq _ _ _ (by rw [h3]; exact Nat.le_refl _)]
  have h4 : (xs.take a ++ (ys ++ zz.drop K)).drop (a + K + (xs.drop a).length) = [] := List.drop_eq_nil_of_le (by rw [h3]; exact Nat.le_refl _)
  rw [h4, List.append_nil, ← List.append_assoc, List.take_left' h2, List.append_assoc]
theorem own_setCells (vs : List Value) (o : Nat) (h : w.ownsRow base e size (.slice (some ⟨g, 0, none⟩) n cap) n xs) : (w.setCells g o vs).ownsRow base e size (.slice (some ⟨g, 0, none⟩) n cap) n (setL xs o vs) := by
  induction vs generalizing w xs o with
  | nil => exact h
  | cons v r ih => exact ih (o + 1) (own_set h o v)
theorem size_setCells (vs : List Value) (w : World) (o : Nat) : (w.setCells g o vs).heap.size = w.heap.size := by
  induction vs generalizing w o with
  | nil => rfl
  | cons v r ih => rw [World.setCells, ih]; simp
theorem only_setCells (vs : List Value) (w : World) (o : Nat) : Only (fun k => k = g) w (w.setCells g o vs) := by
  induction vs generalizing w o with
  | nil => exact Only.refl _ _
  | cons v r ih => exact ((Only.refl (fun k => k = g) w).setCell (fun _ => rfl) _).trans (ih _ _) (fun _ _ h => h)
theorem Blk.shape {cur : Array Value} (h : Blk w g e cur) : w.shape? g = some (e, cur.size) := by unfold Blk at h; unfold World.shape?; rw [h]
end

section
variable {P : Program}
/-- copy on elements of several cells: all is read before anything is written -/
theorem run_copy_k (w : World) (dT sT ty elem : TypeId) (size : Nat) (b o dLen dCap : Nat) (a : Addr) (sLen sCap : Nat) (cs : List Value)
    (hu : P.underlying dT = some (.slice elem)) (hs : (P.info? elem).map (·.size) = some size) (hn : cs.length = Nat.min sLen dLen * size)
    (hsrc : ∀ j v, cs[j]? = some v → w.cell? (a.add j) = some v) (hc : ∀ j, j < cs.length → (w.cell? ⟨b, o + j, none⟩).isSome = true) (hf : ∀ j, j < cs.length → w.frozen? ⟨b, o + j, none⟩ = false) (h1 : ∀ v ∈ cs, v.oneCell' = true) :
    (Builtin.copy_ #[dT, sT] ty #[.slice (some ⟨b, o, none⟩) dLen dCap, .slice (some a) sLen sCap]).run P w = .ok (goInt (Nat.min sLen dLen)) (w.setCells b o cs) := by
  have hl := run_loadCells_list (P := P) w a cs hsrc
  have hst := run_storeCells_cells (P := P) b o cs 0 w (by simpa using hc) (by simpa using hf) h1
  cases hq : P.info? elem with
  | none => simp [hq] at hs
  | some i =>
    have hi : i.size = size := by simpa [hq] using hs
    simp [Builtin.copy_, run_underlying hu, Builtin.lenOf, Builtin.firstCells, sizeOf, typeInfo, hq, hi, ← hn, hl, hst]
theorem wp_copy_at (w : World) {o : Oper} {a : Act} {K : Act → World → Prop} {Q : Exit → Act → World → Prop} (d s : Operand) (t t' : TypeId)
    (ho : o.op = .call { callee := .builtin .copy, args := #[d, s], argTypes := #[t, t'] }) (v u : Value) (hd : a.eval d = v) (hs : a.eval s = u) {v' : Value} {w' : World}
    (hr : (Builtin.copy_ #[t, t'] o.type #[v, u]).run P w = .ok v' w') (h : K (a.put o.dst v') w') : o.wp P a w K Q := by
  unfold Oper.wp execOp
  simp only [ho, resolve, invoke, builtin, Sem.run_bind, Sem.run_pure, Result.andThen_ok, List.map_toArray, List.map_cons, List.map_nil, hd, hs, hr]
  exact h
theorem wpList_copy_at (w : World) {ops : Array Oper} {rest : List Oper} {o : Oper} {a : Act} {Q : Exit → Act → World → Prop} (hgd : o.guard = none) (d s : Operand) (t t' : TypeId)
    (ho : o.op = .call { callee := .builtin .copy, args := #[d, s], argTypes := #[t, t'] }) (v u : Value) (hd : a.eval d = v) (hs : a.eval s = u) {v' : Value} {w' : World}
    (hr : (Builtin.copy_ #[t, t'] o.type #[v, u]).run P w = .ok v' w') (h : wpList P ops Q rest (a.put o.dst v') w') : wpList P ops Q (o :: rest) a w :=
  wpList_plain hgd fun _ hK => wp_copy_at w d s t t' ho v u hd hs hr (hK _ _ h)
theorem step_copy_at {ops : Array Oper} {o : Oper} {a : Act} {w : World} {K : Act → World → Prop} {Q : Exit → Act → World → Prop} {E : Prop}
    (hg : o.guard = none) (d x : Operand) (dT sT : TypeId) (hop : o.op = Op.call { callee := Callee.builtin Builtin.copy, args := #[d, x], argTypes := #[dT, sT] })
    (v u : Value) (hd : a.eval d = v) (hx : a.eval x = u) {v' : Value} {w' : World} (hr : (Builtin.copy_ #[dT, sT] o.type #[v, u]).run P w = .ok v' w') (hK : K (a.put o.dst v') w') :
    if Region.wanted o (yielded ops a.tmps) = true then Oper.wp P o a w K Q else E := by
  have hw : Region.wanted o (yielded ops a.tmps) = true := by simp [Region.wanted, hg]
  rw [if_pos hw]
  unfold Oper.wp
  simp [execOp, hop, resolve, invoke, builtin, hd, hx, hr, Result.andThen]
  exact hK
theorem step_append_at {ops : Array Oper} {o : Oper} {a : Act} {w : World} {K : Act → World → Prop} {Q : Exit → Act → World → Prop} {E : Prop}
    (hg : o.guard = none) (d x : Operand) (dT sT : TypeId) (hop : o.op = Op.call { callee := Callee.builtin Builtin.append, args := #[d, x], argTypes := #[dT, sT] })
    (v u : Value) (hd : a.eval d = v) (hx : a.eval x = u) {v' : Value} {w' : World} (hr : (Builtin.append_ #[dT, sT] o.type #[v, u]).run P w = .ok v' w') (hK : K (a.put o.dst v') w') :
    if Region.wanted o (yielded ops a.tmps) = true then Oper.wp P o a w K Q else E := by
  have hw : Region.wanted o (yielded ops a.tmps) = true := by simp [Region.wanted, hg]
  rw [if_pos hw]
  unfold Oper.wp
  simp [execOp, hop, resolve, invoke, builtin, hd, hx, hr, Result.andThen]
  exact hK
/-- append in place -/
theorem run_append_room (w : World) (t t' ty e : TypeId) (i : TypeInfo) (ht : P.underlying t = some (.slice e)) (ht' : P.underlying t' = some (.slice e)) (hi : P.info? e = some i) (b n c : Nat) (a : Addr) (m mc : Nat) (cs : List Value)
    (hroom : n + m ≤ c) (hl : cs.length = m * i.size) (hsrc : ∀ j v, cs[j]? = some v → w.cell? (a.add j) = some v) (hc : ∀ j, j < cs.length → (w.cell? ⟨b, n * i.size + j, none⟩).isSome = true) (hf : ∀ j, j < cs.length → w.frozen? ⟨b, n * i.size + j, none⟩ = false) (h1 : ∀ v ∈ cs, v.oneCell' = true) :
    (Builtin.append_ #[t, t'] ty #[.slice (some ⟨b, 0, none⟩) n c, .slice (some a) m mc]).run P w = .ok (.slice (some ⟨b, 0, none⟩) (n + m) c) (w.setCells b (n * i.size) cs) := by
  have hld := run_loadCells_list (P := P) w a cs hsrc
  have hst := run_storeCells_cells (P := P) b (n * i.size) cs 0 w (by simpa using hc) (by simpa using hf) h1
  have hz : (⟨b, 0, none⟩ : Addr).add (n * i.size) = ⟨b, n * i.size, none⟩ := by rw [add_mk, Nat.zero_add]
  rw [hl] at hld
  simp [Builtin.append_, run_underlying ht, run_underlying ht', sizeOf, typeInfo, hi, Builtin.lenOf, Builtin.firstCells, hroom, hld, hz, hst]
theorem run_clear_k (w : World) (t e ty : TypeId) (z : Value) (size : Nat) (ht : P.underlying t = some (.slice e)) (hv : ∀ w, (zeroValue e).run P w = .ok z w) (hzs : z.cells.size = size) (h1 : ∀ v ∈ z.cells, v.oneCell' = true) (b o n c : Nat) (hn : 0 < n) (hsz : 0 < size)
    (hc : ∀ j, j < n * size → (w.cell? ⟨b, o + j, none⟩).isSome = true) (hf : ∀ j, j < n * size → w.frozen? ⟨b, o + j, none⟩ = false) :
    (Builtin.clear_ #[t] ty #[.slice (some ⟨b, o, none⟩) n c]).run P w = .ok (.tuple #[]) (w.setCells b o (Builtin.zeroCells z.cells n).toList) := by
  have hlen : (Builtin.zeroCells z.cells n).toList.length = n * size := by simp [Builtin.zeroCells, hzs]
  have hst := run_storeCells_cells (P := P) b o (Builtin.zeroCells z.cells n).toList 0 w (by rw [hlen]; simpa using hc) (by rw [hlen]; simpa using hf) (by
    intro v hv'
    unfold Builtin.zeroCells at hv'
    simp only [Array.toList_map, List.mem_map] at hv'
    obtain ⟨j, _, rfl⟩ := hv'
    have hlt : j % z.cells.size < z.cells.size := Nat.mod_lt _ (by omega)
    rw [getElem!_pos z.cells _ hlt]
    exact h1 _ (Array.getElem_mem hlt))
  simp only [Nat.add_zero] at hst
  obtain ⟨m, rfl⟩ : ∃ m, n = m + 1 := ⟨n - 1, by omega⟩
  simp [Builtin.clear_, run_underlying ht, hv, hst]
end
end Go.Proofs.Ytllbjegnjjeaeaa
