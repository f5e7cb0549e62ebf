/- Arguments of a law opened: slices of slices of points. No program in sight. -/
import Derived.Test.YthdbmgjlegpbaaaKOpen
import Derived.Test.YthdbmgjlegpbaaaKBulkPt
namespace Go.Proofs.Ythdbmgjlegpbaaa
open Go.RowKit Go.ChangeShapes Go.WideShapes Go.Deep
set_option linter.unusedVariables false

def ptCellsL (f : ByteArray × Int × Int) : List Value := [.string f.1, .int .i64 f.2.1, .int .i64 f.2.2]
/-- a list of points: where it lies, its capacity, the points -/
abbrev Lst := Option Addr × Nat × List (ByteArray × Int × Int)
def lstV (y : Lst) : Value := .slice y.1 y.2.2.length y.2.1
structure LstOk (w : World) (y : Lst) : Prop where
  reads : Reads w w.heap.size 3 y.1 y.2.2.length (y.2.2.flatMap ptCellsL)
  pts : ∀ f ∈ y.2.2, (Lit.int .i64 f.2.1).wf = true ∧ (Lit.int .i64 f.2.2).wf = true ∧ f.1.size ≤ maxLen
section
variable {H : Type} {enc : TypeId × Value → H} {P : Program} {w : World}
/-- a slice of one-cell elements: of each the cell, and that it is read by the element's type -/
theorem open_one_form {t e : TypeId} {sp : Nat → Bool} {held : Bool} {v : Value} {d : DataW H} {p : List MemPlace} (ht : P.underlying t = some (.slice e)) (hC : P.cellsOf e = 1) (hv : ∃ A l c, v = .slice A l c) (h : DataW.Trod enc P w 0 sp held t v d p) :
    ∃ A n c, v = .slice A n c ∧ ((d = .nil ∧ n = 0) ∨ ∃ (D : Nat → DataW H) (spare : List (DataW H)), d = .slice ((List.range n).map D) spare ∧ (0 < n → ∃ b off, A = some ⟨b, off, .none⟩ ∧ b < w.heap.size ∧
      ∀ i, i < n → ∃ (k : Nat) (u : Value) (pl : List MemPlace), w.cell? ⟨b, off + i, .none⟩ = some u ∧ DataW.trod enc P w 0 sp held k e [u] = some (D i, pl))) := by
  obtain ⟨A, len, cap, rfl⟩ := hv
  obtain ⟨fuel, hf⟩ := h
  rcases open_slice ht hf with ⟨hcs, hx⟩ | ⟨a, l, c, m, n, D, Pl, hcs, _, hl, hm, hmm, hx, hi⟩
  · simp [Value.cells] at hcs
    obtain ⟨rfl, rfl, rfl⟩ := hcs
    simp only [Prod.mk.injEq] at hx
    exact ⟨.none, 0, 0, rfl, .inl ⟨hx.1, rfl⟩⟩
  · simp [Value.cells] at hcs
    obtain ⟨rfl, rfl, rfl⟩ := hcs
    simp only [Prod.mk.injEq] at hx
    have hlm : len ≤ m := by rw [hmm]; split <;> omega
    refine ⟨some a, len, cap, rfl, .inr ⟨D, _, hx.1, fun h0 => ?_⟩⟩
    have hall : ∀ i, i < len → ∃ (k : Nat) (u : Value) (pl : List MemPlace), w.cell? (a.add i) = some u ∧ DataW.trod enc P w 0 sp held k e [u] = some (D i, pl) := by
      intro i hil
      obtain ⟨cs', hc, ht'⟩ := hi i (by omega)
      rw [hC] at hc
      obtain ⟨_, hcl, hat⟩ := World.cells?_some hc
      have hcell := hat 0 (by omega)
      have h1 : cs' = [cs'[0]'(by omega)] := by
        match cs', hcl with
        | [x], _ => rfl
      rw [h1] at ht'
      refine ⟨_, _, _, ?_, ht'⟩
      rw [Go.Deep.add_add, Nat.mul_one, Nat.add_zero] at hcell
      rw [hcell, List.getElem?_eq_getElem (by omega)]
    obtain ⟨k0, u0, _, hcell0, _⟩ := hall 0 h0
    obtain ⟨b, off, rfl, hb⟩ := spot_mk hcell0
    refine ⟨b, off, rfl, hb, fun i hil => ?_⟩
    obtain ⟨k, u, pl, h1, h2⟩ := hall i hil
    rw [add_mk] at h1
    exact ⟨k, u, pl, h1, h2⟩
theorem open_list_pairs {t e te ti ts : TypeId} {f0 f1 f2 : Field} {r : Reach} {base : Nat} {sp : Nat → Bool} {held : Bool} {v : Value} {d : DataW H} {p : List MemPlace} (ht : P.underlying t = some (.slice e)) (hC1 : P.cellsOf e = 1) (he : P.underlying e = some (.slice te)) (hte : P.underlying te = some (.struct #[f0, f1, f2]))
    (hone : oneCellFields P #[f0, f1, f2] = true) (hC : P.cellsOf te = 3) (h0 : f0.type = ts) (h1 : f1.type = ti) (h2 : f2.type = ti) (hi : P.underlying ti = some (.int .i64)) (hs : P.underlying ts = some .string)
    (hv : Value.okWide P w r base t v) (h : DataW.Trod enc P w 0 sp held t v d p) :
    ∃ (A : Option Addr) (c : Nat) (es : List (Lst × DataW H)), v = .slice A es.length c ∧ Reads w w.heap.size 1 A es.length (es.map fun p => lstV p.1) ∧ (∀ p ∈ es, LstOk w p.1 ∧ RowData p.2 pointData p.1.2.2) ∧ RowData d (fun p : Lst × DataW H => p.2) es := by
  obtain ⟨A, n, c, rfl, hd⟩ := open_one_form (enc := enc) ht hC1 (okWide_slice ht hv) h
  rcases hd with ⟨rfl, rfl⟩ | ⟨D, spare, hd, hc⟩
  · exact ⟨A, c, [], rfl, Reads.none_, by simp, .inl ⟨rfl, rfl⟩⟩
  by_cases hn : 0 < n
  · obtain ⟨b, off, rfl, hb, hcell⟩ := hc hn
    obtain ⟨es, hl, hf⟩ := list_of n (fun i (f : Lst × DataW H) => D i = f.2 ∧ w.cell? ⟨b, off + i, .none⟩ = some (lstV f.1) ∧ LstOk w f.1 ∧ RowData f.2 pointData f.1.2.2) (fun i hi' => by
      obtain ⟨k, u, pl, c4, r4⟩ := hcell i hi'
      obtain ⟨a4, l4, c4', e4⟩ := Joins.slice_form he r4
      simp at e4
      subst e4
      obtain ⟨A4, cc, fs, hv4, hr4, hw4, hd4⟩ := open_point_form (enc := enc) (v := .slice a4 l4 c4') (d := D i) (p := pl) he hte hone hC h0 h1 h2 hi hs ⟨_, _, _, rfl⟩ ⟨k, by simpa [Value.cells] using r4⟩
      injection hv4 with ha hll hcc
      subst ha; subst hll; subst hcc
      exact ⟨((a4, c4', fs), D i), rfl, c4, ⟨hr4, hw4⟩, hd4⟩)
    subst hl
    refine ⟨_, c, es, rfl, ⟨by simp, fun _ => ⟨b, off, rfl, hb, fun j u hu => ?_⟩⟩, fun f hf' => ?_, .inr ⟨spare, by rw [hd, range_map_list _ D (fun p : Lst × DataW H => p.2) es rfl (fun i hi' => (hf i hi').1)]⟩⟩
    · have hj : j < es.length := by have := (List.getElem?_eq_some_iff.1 hu).1; simpa using this
      rw [(hf j hj).2.1, ← hu, List.getElem?_map, List.getElem?_eq_getElem hj]; rfl
    · obtain ⟨i, hi', rfl⟩ := List.getElem_of_mem hf'
      exact (hf i hi').2.2
  · obtain rfl : n = 0 := by omega
    exact ⟨A, c, [], rfl, Reads.none_, by simp, .inr ⟨spare, by simpa using hd⟩⟩
def lstBulk (y : Lst) : Nat := 1 + (y.2.2.map fun p => p.1.size + 4).sum
theorem bulk_lst (d : DataW H) (y : Lst) (h : RowData d pointData y.2.2) : (y.2.2.map fun p : ByteArray × Int × Int => p.1.size + 4).sum ≤ Rows.uptoBulk d := bulk_row h (fun p => p.1.size + 4) bulk_point
theorem sum_map_le {α : Type} (f g : α → Nat) (xs : List α) (h : ∀ x ∈ xs, f x ≤ g x) : (xs.map f).sum ≤ (xs.map g).sum := by
  induction xs with
  | nil => simp
  | cons x xs ih =>
    rw [List.map_cons, List.map_cons, List.sum_cons, List.sum_cons]
    have h1 := h x (List.mem_cons_self ..)
    have h2 := ih fun y hy => h y (List.mem_cons_of_mem _ hy)
    omega
/-- the same, the data apart: the points' bulk -/
theorem open_lists {t e te ti ts : TypeId} {f0 f1 f2 : Field} {r : Reach} {base : Nat} {sp : Nat → Bool} {held : Bool} {v : Value} {d : DataW H} {p : List MemPlace} (ht : P.underlying t = some (.slice e)) (hC1 : P.cellsOf e = 1) (he : P.underlying e = some (.slice te)) (hte : P.underlying te = some (.struct #[f0, f1, f2]))
    (hone : oneCellFields P #[f0, f1, f2] = true) (hC : P.cellsOf te = 3) (h0 : f0.type = ts) (h1 : f1.type = ti) (h2 : f2.type = ti) (hi : P.underlying ti = some (.int .i64)) (hs : P.underlying ts = some .string)
    (hv : Value.okWide P w r base t v) (h : DataW.Trod enc P w 0 sp held t v d p) :
    ∃ (A : Option Addr) (c : Nat) (ys : List Lst), v = .slice A ys.length c ∧ Reads w w.heap.size 1 A ys.length (ys.map lstV) ∧ (∀ y ∈ ys, LstOk w y) ∧ (ys.map fun y : Lst => (y.2.2.map fun p : ByteArray × Int × Int => p.1.size + 4).sum).sum ≤ Rows.uptoBulk d ∧ ys.length ≤ Rows.uptoBulk d := by
  obtain ⟨A, c, es, h1', h2', h3', h4'⟩ := open_list_pairs (enc := enc) ht hC1 he hte hone hC h0 h1 h2 hi hs hv h
  have hb := bulk_row h4' (fun p => Rows.uptoBulk p.2) (fun _ => rfl)
  refine ⟨A, c, es.map (·.1), by rw [List.length_map]; exact h1', by rw [List.length_map, List.map_map]; exact h2', fun y hy => ?_, Nat.le_trans ?_ hb, ?_⟩
  · obtain ⟨p, hp', rfl⟩ := List.mem_map.1 hy
    exact (h3' p hp').1
  · rw [List.map_map]
    exact sum_map_le _ _ es fun x hx => bulk_lst x.2 x.1 (h3' x hx).2
  · rw [List.length_map]
    have := sum_ge_length (fun p : Lst × DataW H => Rows.uptoBulk p.2) 1 (fun x => bulk_one x.2) es
    omega
end
end Go.Proofs.Ythdbmgjlegpbaaa
