/- Arguments of a law opened: slices of integers, of texts, of structs, as lists that are read. No program in sight. -/
import Derived.Test.YtapdlmiioljpgaaK1
import Derived.ProofKit
import Derived.OpenShut
import Derived.ShutString
import Derived.SliceStrings
import Derived.Deep.Slices
import Derived.Deep.Fields
import Derived.ChangeSame
import Derived.SizedLaws
import Derived.Lib.SmallJoins
namespace Go.Proofs.Ytapdlmiioljpgaa
open Go.RowKit Go.ChangeShapes Go.WideShapes Go.Deep
set_option linter.unusedVariables false

theorem list_of {α : Type} (n : Nat) (P : Nat → α → Prop) (h : ∀ i, i < n → ∃ x, P i x) : ∃ xs : List α, xs.length = n ∧ ∀ i (hi : i < xs.length), P i xs[i] := by
  induction n with
  | zero => exact ⟨[], rfl, fun i hi => absurd hi (by simp)⟩
  | succ n ih =>
    obtain ⟨xs, hl, hx⟩ := ih fun i hi => h i (by omega)
    obtain ⟨x, hp⟩ := h n (by omega)
    refine ⟨xs ++ [x], by simp [hl], fun i hi => ?_⟩
    by_cases hi' : i < xs.length
    · rw [List.getElem_append_left hi']; exact hx i hi'
    · have : i = n := by simp at hi; omega
      subst this
      rw [List.getElem_append_right (by omega)]
      simpa [hl] using hp

/-- what a slice's datum is: nil, or its elements, each read by g, and spare places -/
def RowData {H α : Type} (d : DataW H) (g : α → DataW H) (xs : List α) : Prop := (d = .nil ∧ xs = []) ∨ ∃ spare, d = .slice (xs.map g) spare

section
variable {H : Type} {enc : TypeId × Value → H} {P : Program} {w : World}
theorem reach_eq : reachBytes = 140737488351232 := by decide
theorem sized_data {α : Type} {g : α → DataW H} {ts : List TypeId} {ds : List (DataW H)} (h : (DataW.weightsEach P ts ds).all (· ≤ reachBytes) = true) {j : Nat} {t e : TypeId} {d : DataW H} {xs : List α} (ht : ts[j]? = some t) (hd : ds[j]? = some d) (hu : P.underlying t = some (.slice e)) (hs : RowData d g xs) (b : Nat) (hb : P.bytesOf e = b) :
    xs.length * b ≤ 140737488351232 := by
  rcases hs with ⟨_, rfl⟩ | ⟨spare, rfl⟩
  · simp
  · have := sized_slice h ht hd hu
    rw [hb, List.length_map] at this
    have h2 : xs.length * b ≤ (xs.length + spare.length) * b := Nat.mul_le_mul_right _ (by omega)
    have h3 := reach_eq
    omega
theorem weights_all_mem {e : TypeId} {l : List (DataW H)} {d : DataW H} (h : d ∈ l) {n : Nat} (hn : n ∈ d.weights P e) : n ∈ DataW.weightsAll P e l := by
  induction l with
  | nil => cases h
  | cons x l ih =>
    simp only [DataW.weightsAll, List.mem_append]
    rcases List.mem_cons.1 h with rfl | h
    · exact .inl hn
    · exact .inr (ih h)
/-- the reach, of what lies in an element -/
theorem sized_elem {α : Type} {g : α → DataW H} {ts : List TypeId} {ds : List (DataW H)} (h : (DataW.weightsEach P ts ds).all (· ≤ reachBytes) = true) {j : Nat} {t e : TypeId} {d : DataW H} {xs : List α} (ht : ts[j]? = some t) (hd : ds[j]? = some d) (hu : P.underlying t = some (.slice e)) (hs : RowData d g xs)
    (x : α) (hx : x ∈ xs) (n : Nat) (hn : n ∈ (g x).weights P e) : n ≤ 140737488351232 := by
  rcases hs with ⟨_, rfl⟩ | ⟨spare, rfl⟩
  · cases hx
  · have := List.all_eq_true.1 h n (DataW.weights_mem_each ht hd n (by
      simp only [DataW.weights, hu, List.mem_cons, List.mem_append]
      exact .inr (.inl (weights_all_mem (List.mem_map_of_mem hx) hn))))
    rw [← reach_eq]
    simpa using this
def textData (s : ByteArray) : DataW H := .lit (.string s.data.toList)
def intData (k : IntKind) (n : Int) : DataW H := .lit (.int k n)
def fileData (f : Int × ByteArray) : DataW H := .agg [.lit (.int .i64 f.1), .lit (.string f.2.data.toList)]
theorem textData_weights (s : ByteArray) (e : TypeId) : s.size ∈ (textData (H := H) s).weights P e := by simp [textData, DataW.weights]

theorem spot_mk {a : Addr} {v : Value} (h : w.cell? (a.add 0) = some v) : ∃ b off, a = ⟨b, off, .none⟩ ∧ b < w.heap.size := by
  have e0 : a.add 0 = a := by unfold Addr.add; simp
  rw [e0] at h
  have hs := World.cell?_spot h
  obtain ⟨b, off, spot⟩ := a
  subst hs
  refine ⟨b, off, rfl, ?_⟩
  rcases Nat.lt_or_ge b w.heap.size with hlt | hge
  · exact hlt
  · simp [World.cell?, Array.getElem?_eq_none hge] at h

theorem open_int_list {t e : TypeId} {k : IntKind} {r : Reach} {base : Nat} {sp : Nat → Bool} {held : Bool} {v : Value} {d : DataW H} {p : List MemPlace} (ht : P.underlying t = some (.slice e)) (he : P.underlying e = some (.int k)) (hC : P.cellsOf e = 1)
    (hv : Value.okWide P w r base t v) (h : DataW.Trod enc P w 0 sp held t v d p) :
    ∃ (A : Option Addr) (c : Nat) (zs : List Int), v = .slice A zs.length c ∧ Reads w w.heap.size 1 A zs.length (zs.map (.int k)) ∧ (∀ n ∈ zs, (Lit.int k n).wf = true) ∧ RowData d (intData k) zs := by
  obtain ⟨A, len, cap, rfl⟩ := okWide_slice ht hv
  obtain ⟨fuel, hf⟩ := h
  rcases open_ints ht he hC hf with ⟨hcs, hx⟩ | ⟨a, l, c, zs, hcs, _, hl, hm, hz, hx, hcell, hwz⟩
  · simp [Value.cells] at hcs
    obtain ⟨rfl, rfl, rfl⟩ := hcs
    simp only [Prod.mk.injEq] at hx
    exact ⟨.none, 0, [], rfl, Reads.none_, by simp, .inl ⟨hx.1, rfl⟩⟩
  · simp [Value.cells] at hcs
    obtain ⟨rfl, rfl, rfl⟩ := hcs
    simp only [Prod.mk.injEq] at hx
    have hlz : len ≤ zs.length := by rw [hz]; split <;> omega
    have hlen : (zs.take len).length = len := by rw [List.length_take]; omega
    refine ⟨some a, cap, zs.take len, by rw [hlen], ?_, fun n hn => hwz n (List.mem_of_mem_take hn), .inr ⟨_, hx.1⟩⟩
    rw [hlen]
    refine ⟨by simp; omega, fun h0 => ?_⟩
    obtain ⟨b, off, rfl, hb⟩ := spot_mk (hcell 0 (by omega))
    refine ⟨b, off, rfl, hb, fun j u hu => ?_⟩
    have hj : j < len := by have := (List.getElem?_eq_some_iff.1 hu).1; simp at this; omega
    have := hcell j (by omega)
    rw [add_mk] at this
    rw [this, ← hu, List.getElem?_map, List.getElem?_take_of_lt hj, List.getD_eq_getElem?_getD, List.getElem?_eq_getElem (by omega)]
    rfl

theorem open_text_list {t e : TypeId} {r : Reach} {base : Nat} {sp : Nat → Bool} {held : Bool} {v : Value} {d : DataW H} {p : List MemPlace} (ht : P.underlying t = some (.slice e)) (he : P.underlying e = some .string) (hC : P.cellsOf e = 1)
    (hv : Value.okWide P w r base t v) (h : DataW.Trod enc P w 0 sp held t v d p) :
    ∃ (A : Option Addr) (c : Nat) (ss : List ByteArray), v = .slice A ss.length c ∧ Reads w w.heap.size 1 A ss.length (ss.map .string) ∧ (∀ s ∈ ss, s.size ≤ maxLen) ∧ RowData d textData ss := by
  obtain ⟨A, len, cap, rfl⟩ := okWide_slice ht hv
  obtain ⟨fuel, hf⟩ := h
  rcases open_strings ht he hC hf with ⟨hcs, hx⟩ | ⟨a, l, c, zs, hcs, _, hl, hm, hz, hx, hcell, hwz⟩
  · simp [Value.cells] at hcs
    obtain ⟨rfl, rfl, rfl⟩ := hcs
    simp only [Prod.mk.injEq] at hx
    exact ⟨.none, 0, [], rfl, Reads.none_, by simp, .inl ⟨hx.1, rfl⟩⟩
  · simp [Value.cells] at hcs
    obtain ⟨rfl, rfl, rfl⟩ := hcs
    simp only [Prod.mk.injEq] at hx
    have hlz : len ≤ zs.length := by rw [hz]; split <;> omega
    have hlen : (zs.take len).length = len := by rw [List.length_take]; omega
    refine ⟨some a, cap, zs.take len, by rw [hlen], ?_, fun n hn => hwz n (List.mem_of_mem_take hn), .inr ⟨_, hx.1⟩⟩
    rw [hlen]
    refine ⟨by simp; omega, fun h0 => ?_⟩
    obtain ⟨b, off, rfl, hb⟩ := spot_mk (hcell 0 (by omega))
    refine ⟨b, off, rfl, hb, fun j u hu => ?_⟩
    have hj : j < len := by have := (List.getElem?_eq_some_iff.1 hu).1; simp at this; omega
    have := hcell j (by omega)
    rw [add_mk] at this
    rw [this, ← hu, List.getElem?_map, List.getElem?_take_of_lt hj, List.getD_eq_getElem?_getD, List.getElem?_eq_getElem (by omega)]
    rfl

/-- a slice of structs of one-cell fields: of each element the cells, and that each is read by its field's type -/
theorem open_row_form {t e : TypeId} {fs : Array Field} {sp : Nat → Bool} {held : Bool} {v : Value} {d : DataW H} {p : List MemPlace} (ht : P.underlying t = some (.slice e)) (he : P.underlying e = some (.struct fs))
    (hone : oneCellFields P fs = true) (hC : P.cellsOf e = fs.size) (hfs : 0 < fs.size) (hv : ∃ A l c, v = .slice A l c) (h : DataW.Trod enc P w 0 sp held t v d p) :
    ∃ A n c, v = .slice A n c ∧ ((d = .nil ∧ n = 0) ∨ ∃ (D : Nat → DataW H) (spare : List (DataW H)), d = .slice ((List.range n).map D) spare ∧ (0 < n → ∃ b off, A = some ⟨b, off, .none⟩ ∧ b < w.heap.size ∧
      ∀ i, i < n → ∃ (k : Nat) (ys : List (DataW H × List MemPlace)), D i = .agg (ys.map (·.1)) ∧ ys.length = fs.size ∧ ∀ (j : Nat) (f : Field), fs[j]? = some f → ∃ (u : Value) (y : DataW H × List MemPlace), w.cell? ⟨b, off + (i * fs.size + j), .none⟩ = some u ∧ ys[j]? = some y ∧ DataW.trod enc P w 0 sp held k f.type [u] = some y)) := by
  obtain ⟨A, len, cap, rfl⟩ := hv
  obtain ⟨fuel, hf⟩ := h
  rcases open_slice ht hf with ⟨hcs, hx⟩ | ⟨a, l, c, m, n, D, Pl, hcs, _, hl, hm, hmm, hx, hi⟩
  · simp [Value.cells] at hcs
    obtain ⟨rfl, rfl, rfl⟩ := hcs
    simp only [Prod.mk.injEq] at hx
    exact ⟨.none, 0, 0, rfl, .inl ⟨hx.1, rfl⟩⟩
  · simp [Value.cells] at hcs
    obtain ⟨rfl, rfl, rfl⟩ := hcs
    simp only [Prod.mk.injEq] at hx
    have hlm : len ≤ m := by rw [hmm]; split <;> omega
    refine ⟨some a, len, cap, rfl, .inr ⟨D, _, hx.1, fun h0 => ?_⟩⟩
    have hall : ∀ i, i < len → ∃ (k : Nat) (ys : List (DataW H × List MemPlace)), D i = .agg (ys.map (·.1)) ∧ ys.length = fs.size ∧ ∀ (j : Nat) (f : Field), fs[j]? = some f → ∃ (u : Value) (y : DataW H × List MemPlace), w.cell? (a.add (i * fs.size + j)) = some u ∧ ys[j]? = some y ∧ DataW.trod enc P w 0 sp held k f.type [u] = some y := by
      intro i hil
      obtain ⟨cs', hc, ht'⟩ := hi i (by omega)
      rw [hC] at hc
      obtain ⟨ys, n', hn', hy, hlen, hyl, hf⟩ := DataW.trod_struct he ht'
      obtain ⟨_, hcl, hat⟩ := World.cells?_some hc
      simp only [Prod.mk.injEq] at hy
      refine ⟨n', ys, hy.1, hyl, fun j f hj => ?_⟩
      obtain ⟨ho, hk⟩ := hone_of hone j f hj
      have hjl : j < fs.size := (Array.getElem?_eq_some_iff.1 hj).1
      have hcell := hat j hjl
      have hv : cs'[j]? = some (cs'[j]'(by omega)) := List.getElem?_eq_getElem (by omega)
      have h1 := hf j f hj
      rw [ho, hk] at h1
      have hone' : (cs'.drop j).take 1 = [cs'[j]'(by omega)] := by
        rw [List.drop_eq_getElem_cons (by omega)]
        rfl
      rw [hone'] at h1
      have hys : ys[j]? = some (ys[j]'(by omega)) := List.getElem?_eq_getElem (by omega)
      refine ⟨_, _, ?_, hys, h1.trans hys⟩
      rw [← Go.Deep.add_add, hcell, hv]
    obtain ⟨k0, ys0, _, _, hk0⟩ := hall 0 h0
    obtain ⟨u, y, hcell, _⟩ := hk0 0 fs[0] (by simp [hfs])
    obtain ⟨b, off, rfl, hb⟩ := spot_mk (by simpa using hcell)
    refine ⟨b, off, rfl, hb, fun i hil => ?_⟩
    obtain ⟨k, ys, hD, hl, hk⟩ := hall i hil
    refine ⟨k, ys, hD, hl, fun j f hj => ?_⟩
    obtain ⟨u, y, h1, h2⟩ := hk j f hj
    rw [add_mk] at h1
    exact ⟨u, y, h1, h2⟩

theorem open_row_list {t e : TypeId} {fs : Array Field} {r : Reach} {base : Nat} {sp : Nat → Bool} {held : Bool} {v : Value} {d : DataW H} {p : List MemPlace} (ht : P.underlying t = some (.slice e)) (he : P.underlying e = some (.struct fs))
    (hone : oneCellFields P fs = true) (hC : P.cellsOf e = fs.size) (hfs : 0 < fs.size) (hv : Value.okWide P w r base t v) (h : DataW.Trod enc P w 0 sp held t v d p) :
    ∃ A n c, v = .slice A n c ∧ ((d = .nil ∧ n = 0) ∨ ∃ (D : Nat → DataW H) (spare : List (DataW H)), d = .slice ((List.range n).map D) spare ∧ (0 < n → ∃ b off, A = some ⟨b, off, .none⟩ ∧ b < w.heap.size ∧
      ∀ i, i < n → ∃ (k : Nat) (ys : List (DataW H × List MemPlace)), D i = .agg (ys.map (·.1)) ∧ ys.length = fs.size ∧ ∀ (j : Nat) (f : Field), fs[j]? = some f → ∃ (u : Value) (y : DataW H × List MemPlace), w.cell? ⟨b, off + (i * fs.size + j), .none⟩ = some u ∧ ys[j]? = some y ∧ DataW.trod enc P w 0 sp held k f.type [u] = some y)) :=
  open_row_form ht he hone hC hfs (okWide_slice ht hv) h

theorem range_map_list {α β : Type} (n : Nat) (D : Nat → β) (g : α → β) (xs : List α) (hl : xs.length = n) (h : ∀ i (hi : i < xs.length), D i = g xs[i]) : (List.range n).map D = xs.map g := by
  apply List.ext_getElem
  · simp [hl]
  · intro i h1 h2
    simp only [List.getElem_map, List.getElem_range]
    exact h i (by simpa using h2)

/-- a slice of files -/
theorem open_file_list {t e ti ts : TypeId} {f0 f1 : Field} {r : Reach} {base : Nat} {sp : Nat → Bool} {held : Bool} {v : Value} {d : DataW H} {p : List MemPlace} (ht : P.underlying t = some (.slice e)) (he : P.underlying e = some (.struct #[f0, f1]))
    (hone : oneCellFields P #[f0, f1] = true) (hC : P.cellsOf e = 2) (h0 : f0.type = ti) (h1 : f1.type = ts) (hi : P.underlying ti = some (.int .i64)) (hs : P.underlying ts = some .string)
    (hv : Value.okWide P w r base t v) (h : DataW.Trod enc P w 0 sp held t v d p) :
    ∃ (A : Option Addr) (c : Nat) (fs : List (Int × ByteArray)), v = .slice A fs.length c ∧ Reads w w.heap.size 2 A fs.length (fs.flatMap fun f => [.int .i64 f.1, .string f.2]) ∧ (∀ f ∈ fs, (Lit.int .i64 f.1).wf = true ∧ f.2.size ≤ maxLen) ∧ RowData d fileData fs := by
  obtain ⟨A, n, c, rfl, hd⟩ := open_row_list ht he hone hC (Nat.zero_lt_succ 1) hv h
  rcases hd with ⟨rfl, rfl⟩ | ⟨D, spare, hd, hc⟩
  · exact ⟨A, c, [], rfl, Reads.none_, by simp, .inl ⟨rfl, rfl⟩⟩
  by_cases hn : 0 < n
  · obtain ⟨b, off, rfl, hb, hcell⟩ := hc hn
    obtain ⟨fs, hl, hf⟩ := list_of n (fun i (f : Int × ByteArray) => D i = fileData f ∧ w.cell? ⟨b, off + i * 2, .none⟩ = some (.int .i64 f.1) ∧ w.cell? ⟨b, off + (i * 2 + 1), .none⟩ = some (.string f.2) ∧ (Lit.int .i64 f.1).wf = true ∧ f.2.size ≤ maxLen) (fun i hi' => by
      obtain ⟨k, ys, hD, hyl, hk⟩ := hcell i hi'
      obtain ⟨u0, y0, c0, q0, r0⟩ := hk 0 f0 rfl
      obtain ⟨u1, y1, c1, q1, r1⟩ := hk 1 f1 rfl
      rw [h0] at r0
      rw [h1] at r1
      obtain ⟨x, e0, g0, wx⟩ := DataW.trod_int hi r0
      obtain ⟨s, e1, g1, ws⟩ := DataW.trod_string hs r1
      simp at e0 e1
      subst e0; subst e1
      refine ⟨(x, s), ?_, c0, c1, wx, ws⟩
      match ys, hyl, q0, q1 with
      | [z0, z1], _, q0, q1 =>
        simp at q0 q1
        rw [hD, q0, q1, g0, g1]
        rfl)
    subst hl
    refine ⟨_, c, fs, rfl, ⟨flat_length _ 2 (fun _ => rfl) fs, fun _ => ⟨b, off, rfl, hb, fun j u hu => ?_⟩⟩, fun f hf' => ?_, .inr ⟨spare, by rw [hd, range_map_list _ D fileData fs rfl (fun i hi' => (hf i hi').1)]⟩⟩
    · have hj : j < fs.length * 2 := by
        have := (List.getElem?_eq_some_iff.1 hu).1
        rwa [flat_length _ 2 (fun _ => rfl) fs] at this
      have hq : j / 2 < fs.length := by omega
      have hsplit : j = j / 2 * 2 + j % 2 := by omega
      obtain ⟨_, c0, c1, _⟩ := hf (j / 2) hq
      rw [hsplit, flat_at _ 2 (fun _ => rfl) fs (j / 2) (j % 2) hq (by omega)] at hu
      rcases (by omega : j % 2 = 0 ∨ j % 2 = 1) with e | e
      · rw [e] at hu hsplit
        rw [hsplit, ← hu]; simpa using c0
      · rw [e] at hu hsplit
        rw [hsplit, ← hu]; simpa using c1
    · obtain ⟨i, hi', rfl⟩ := List.getElem_of_mem hf'
      exact ⟨(hf i hi').2.2.2.1, (hf i hi').2.2.2.2⟩
  · obtain rfl : n = 0 := by omega
    exact ⟨A, c, [], rfl, Reads.none_, by simp, .inr ⟨spare, by simpa using hd⟩⟩
def pointData (f : ByteArray × Int × Int) : DataW H := .agg [.lit (.string f.1.data.toList), .lit (.int .i64 f.2.1), .lit (.int .i64 f.2.2)]
theorem open_point_form {t e ti ts : TypeId} {f0 f1 f2 : Field} {sp : Nat → Bool} {held : Bool} {v : Value} {d : DataW H} {p : List MemPlace} (ht : P.underlying t = some (.slice e)) (he : P.underlying e = some (.struct #[f0, f1, f2]))
    (hone : oneCellFields P #[f0, f1, f2] = true) (hC : P.cellsOf e = 3) (h0 : f0.type = ts) (h1 : f1.type = ti) (h2 : f2.type = ti) (hi : P.underlying ti = some (.int .i64)) (hs : P.underlying ts = some .string)
    (hv : ∃ A l c, v = .slice A l c) (h : DataW.Trod enc P w 0 sp held t v d p) :
    ∃ (A : Option Addr) (c : Nat) (fs : List (ByteArray × Int × Int)), v = .slice A fs.length c ∧ Reads w w.heap.size 3 A fs.length (fs.flatMap fun f => [.string f.1, .int .i64 f.2.1, .int .i64 f.2.2]) ∧ (∀ f ∈ fs, (Lit.int .i64 f.2.1).wf = true ∧ (Lit.int .i64 f.2.2).wf = true ∧ f.1.size ≤ maxLen) ∧ RowData d pointData fs := by
  obtain ⟨A, n, c, rfl, hd⟩ := open_row_form ht he hone hC (Nat.zero_lt_succ 2) hv h
  rcases hd with ⟨rfl, rfl⟩ | ⟨D, spare, hd, hc⟩
  · exact ⟨A, c, [], rfl, Reads.none_, by simp, .inl ⟨rfl, rfl⟩⟩
  by_cases hn : 0 < n
  · obtain ⟨b, off, rfl, hb, hcell⟩ := hc hn
    obtain ⟨fs, hl, hf⟩ := list_of n (fun i (f : ByteArray × Int × Int) => D i = pointData f ∧ w.cell? ⟨b, off + i * 3, .none⟩ = some (.string f.1) ∧ w.cell? ⟨b, off + (i * 3 + 1), .none⟩ = some (.int .i64 f.2.1) ∧ w.cell? ⟨b, off + (i * 3 + 2), .none⟩ = some (.int .i64 f.2.2) ∧ (Lit.int .i64 f.2.1).wf = true ∧ (Lit.int .i64 f.2.2).wf = true ∧ f.1.size ≤ maxLen) (fun i hi' => by
      obtain ⟨k, ys, hD, hyl, hk⟩ := hcell i hi'
      obtain ⟨u0, y0, c0, q0, r0⟩ := hk 0 f0 rfl
      obtain ⟨u1, y1, c1, q1, r1⟩ := hk 1 f1 rfl
      obtain ⟨u2, y2, c2, q2, r2⟩ := hk 2 f2 rfl
      rw [h0] at r0
      rw [h1] at r1
      rw [h2] at r2
      obtain ⟨s, e0, g0, ws⟩ := DataW.trod_string hs r0
      obtain ⟨x, e1, g1, wx⟩ := DataW.trod_int hi r1
      obtain ⟨y, e2, g2, wy⟩ := DataW.trod_int hi r2
      simp at e0 e1 e2
      subst e0; subst e1; subst e2
      refine ⟨(s, x, y), ?_, c0, c1, c2, wx, wy, ws⟩
      match ys, hyl, q0, q1, q2 with
      | [z0, z1, z2], _, q0, q1, q2 =>
        simp at q0 q1 q2
        rw [hD, q0, q1, q2, g0, g1, g2]
        rfl)
    subst hl
    refine ⟨_, c, fs, rfl, ⟨flat_length _ 3 (fun _ => rfl) fs, fun _ => ⟨b, off, rfl, hb, fun j u hu => ?_⟩⟩, fun f hf' => ?_, .inr ⟨spare, by rw [hd, range_map_list _ D pointData fs rfl (fun i hi' => (hf i hi').1)]⟩⟩
    · have hj : j < fs.length * 3 := by
        have := (List.getElem?_eq_some_iff.1 hu).1
        rwa [flat_length _ 3 (fun _ => rfl) fs] at this
      have hq : j / 3 < fs.length := by omega
      have hsplit : j = j / 3 * 3 + j % 3 := by omega
      obtain ⟨_, c0, c1, c2, _⟩ := hf (j / 3) hq
      rw [hsplit, flat_at _ 3 (fun _ => rfl) fs (j / 3) (j % 3) hq (by omega)] at hu
      rcases (by omega : j % 3 = 0 ∨ j % 3 = 1 ∨ j % 3 = 2) with e | e | e
      · rw [e] at hu hsplit
        rw [hsplit, ← hu]; simpa using c0
      · rw [e] at hu hsplit
        rw [hsplit, ← hu]; simpa using c1
      · rw [e] at hu hsplit
        rw [hsplit, ← hu]; simpa using c2
    · obtain ⟨i, hi', rfl⟩ := List.getElem_of_mem hf'
      exact ⟨(hf i hi').2.2.2.2.1, (hf i hi').2.2.2.2.2.1, (hf i hi').2.2.2.2.2.2⟩
  · obtain rfl : n = 0 := by omega
    exact ⟨A, c, [], rfl, Reads.none_, by simp, .inr ⟨spare, by simpa using hd⟩⟩
theorem open_point_list {t e ti ts : TypeId} {f0 f1 f2 : Field} {r : Reach} {base : Nat} {sp : Nat → Bool} {held : Bool} {v : Value} {d : DataW H} {p : List MemPlace} (ht : P.underlying t = some (.slice e)) (he : P.underlying e = some (.struct #[f0, f1, f2]))
    (hone : oneCellFields P #[f0, f1, f2] = true) (hC : P.cellsOf e = 3) (h0 : f0.type = ts) (h1 : f1.type = ti) (h2 : f2.type = ti) (hi : P.underlying ti = some (.int .i64)) (hs : P.underlying ts = some .string)
    (hv : Value.okWide P w r base t v) (h : DataW.Trod enc P w 0 sp held t v d p) :
    ∃ (A : Option Addr) (c : Nat) (fs : List (ByteArray × Int × Int)), v = .slice A fs.length c ∧ Reads w w.heap.size 3 A fs.length (fs.flatMap fun f => [.string f.1, .int .i64 f.2.1, .int .i64 f.2.2]) ∧ (∀ f ∈ fs, (Lit.int .i64 f.2.1).wf = true ∧ (Lit.int .i64 f.2.2).wf = true ∧ f.1.size ≤ maxLen) ∧ RowData d pointData fs :=
  open_point_form ht he hone hC h0 h1 h2 hi hs (okWide_slice ht hv) h
theorem open_point {t ti ts : TypeId} {f0 f1 f2 : Field} {r : Reach} {base : Nat} {sp : Nat → Bool} {held : Bool} {v : Value} {d : DataW H} {p : List MemPlace} (he : P.underlying t = some (.struct #[f0, f1, f2]))
    (hone : oneCellFields P #[f0, f1, f2] = true) (hC : P.cellsOf t = 3) (h0 : f0.type = ts) (h1 : f1.type = ti) (h2 : f2.type = ti) (hi : P.underlying ti = some (.int .i64)) (hs : P.underlying ts = some .string)
    (hv : Value.okWide P w r base t v) (h : DataW.Trod enc P w 0 sp held t v d p) :
    ∃ q : ByteArray × Int × Int, v = .agg #[.string q.1, .int .i64 q.2.1, .int .i64 q.2.2] ∧ ((Lit.int .i64 q.2.1).wf = true ∧ (Lit.int .i64 q.2.2).wf = true ∧ q.1.size ≤ maxLen) := by
  obtain ⟨v0, v1, v2, y0, y1, y2, n, rfl, _, _, r0, r1, r2⟩ := Joins.open_agg3 he hone hC hv h
  rw [h0] at r0
  rw [h1] at r1
  rw [h2] at r2
  obtain ⟨s, e0, g0, ws⟩ := DataW.trod_string hs r0
  obtain ⟨x, e1, g1, wx⟩ := DataW.trod_int hi r1
  obtain ⟨y, e2, g2, wy⟩ := DataW.trod_int hi r2
  simp at e0 e1 e2
  subst e0; subst e1; subst e2
  exact ⟨(s, x, y), rfl, wx, wy, ws⟩
end
end Go.Proofs.Ytapdlmiioljpgaa
