/- Arguments of a law opened: slices of entries, each with its batch. No program in sight. -/
import Derived.Test.YtapdlmiioljpgaaKOpen
import Derived.Lib.SmallJoins
namespace Go.Proofs.Ytapdlmiioljpgaa
open Go.RowKit Go.ChangeShapes Go.WideShapes Go.Deep
set_option linter.unusedVariables false

/-- an entry: its numbers; where its batch lies, the batch's capacity, the batch -/
abbrev Ent := (Int × Int × Int × Int) × (Option Addr × Nat × List (ByteArray × Int × Int))
def entCells (q : Ent) : List Value := [.int .i64 q.1.1, .int .i64 q.1.2.1, .int .i64 q.1.2.2.1, .int .i64 q.1.2.2.2, .slice q.2.1 q.2.2.2.length q.2.2.1]
def ptCells3 (f : ByteArray × Int × Int) : List Value := [.string f.1, .int .i64 f.2.1, .int .i64 f.2.2]
structure EntOk (w : World) (q : Ent) : Prop where
  reads : Reads w w.heap.size 3 q.2.1 q.2.2.2.length (q.2.2.2.flatMap ptCells3)
  pts : ∀ f ∈ q.2.2.2, (Lit.int .i64 f.2.1).wf = true ∧ (Lit.int .i64 f.2.2).wf = true ∧ f.1.size ≤ maxLen
  nums : (Lit.int .i64 q.1.1).wf = true ∧ (Lit.int .i64 q.1.2.1).wf = true ∧ (Lit.int .i64 q.1.2.2.1).wf = true ∧ (Lit.int .i64 q.1.2.2.2).wf = true
section
variable {H : Type} {enc : TypeId × Value → H} {P : Program} {w : World}
def entData (p : Ent × DataW H) : DataW H := .agg [.lit (.int .i64 p.1.1.1), .lit (.int .i64 p.1.1.2.1), .lit (.int .i64 p.1.1.2.2.1), .lit (.int .i64 p.1.1.2.2.2), p.2]
theorem open_entry_list {t e ti tp te tq : TypeId} {f0 f1 f2 f3 f4 g0 g1 g2 : Field} {r : Reach} {base : Nat} {sp : Nat → Bool} {held : Bool} {v : Value} {d : DataW H} {p : List MemPlace} (ht : P.underlying t = some (.slice e)) (he : P.underlying e = some (.struct #[f0, f1, f2, f3, f4]))
    (hone : oneCellFields P #[f0, f1, f2, f3, f4] = true) (hC : P.cellsOf e = 5) (h0 : f0.type = ti) (h1 : f1.type = ti) (h2 : f2.type = ti) (h3 : f3.type = ti) (h4 : f4.type = tp) (hi : P.underlying ti = some (.int .i64)) (hp : P.underlying tp = some (.slice te))
    (hte : P.underlying te = some (.struct #[g0, g1, g2])) (hone' : oneCellFields P #[g0, g1, g2] = true) (hC' : P.cellsOf te = 3) (k0 : g0.type = tq) (k1 : g1.type = ti) (k2 : g2.type = ti) (hs : P.underlying tq = some .string)
    (hv : Value.okWide P w r base t v) (h : DataW.Trod enc P w 0 sp held t v d p) :
    ∃ (A : Option Addr) (c : Nat) (es : List (Ent × DataW H)), v = .slice A es.length c ∧ Reads w w.heap.size 5 A es.length (es.flatMap fun p => entCells p.1) ∧ (∀ p ∈ es, EntOk w p.1 ∧ RowData p.2 pointData p.1.2.2.2) ∧ RowData d entData es := by
  obtain ⟨A, n, c, rfl, hd⟩ := open_row_list ht he hone hC (Nat.zero_lt_succ 4) hv h
  rcases hd with ⟨rfl, rfl⟩ | ⟨D, spare, hd, hc⟩
  · exact ⟨A, c, [], rfl, Reads.none_, by simp, .inl ⟨rfl, rfl⟩⟩
  by_cases hn : 0 < n
  · obtain ⟨b, off, rfl, hb, hcell⟩ := hc hn
    obtain ⟨es, hl, hf⟩ := list_of n (fun i (f : Ent × DataW H) => D i = entData f ∧ (∀ j, j < 5 → w.cell? ⟨b, off + (i * 5 + j), .none⟩ = (entCells f.1)[j]?) ∧ EntOk w f.1 ∧ RowData f.2 pointData f.1.2.2.2) (fun i hi' => by
      obtain ⟨k, ys, hD, hyl, hk⟩ := hcell i hi'
      obtain ⟨u0, y0, c0, q0, r0⟩ := hk 0 f0 rfl
      obtain ⟨u1, y1, c1, q1, r1⟩ := hk 1 f1 rfl
      obtain ⟨u2, y2, c2, q2, r2⟩ := hk 2 f2 rfl
      obtain ⟨u3, y3, c3, q3, r3⟩ := hk 3 f3 rfl
      obtain ⟨u4, y4, c4, q4, r4⟩ := hk 4 f4 rfl
      rw [h0] at r0
      rw [h1] at r1
      rw [h2] at r2
      rw [h3] at r3
      rw [h4] at r4
      obtain ⟨x0, e0, z0, w0⟩ := DataW.trod_int hi r0
      obtain ⟨x1, e1, z1, w1⟩ := DataW.trod_int hi r1
      obtain ⟨x2, e2, z2, w2⟩ := DataW.trod_int hi r2
      obtain ⟨x3, e3, z3, w3⟩ := DataW.trod_int hi r3
      obtain ⟨a4, l4, c4', e4⟩ := Joins.slice_form hp r4
      simp at e0 e1 e2 e3 e4
      subst e0; subst e1; subst e2; subst e3; subst e4
      obtain ⟨A4, cc, fs, hv4, hr4, hw4, hd4⟩ := open_point_form (enc := enc) (v := .slice a4 l4 c4') (d := y4.1) (p := y4.2) hp hte hone' hC' k0 k1 k2 hi hs ⟨_, _, _, rfl⟩ ⟨k, by simpa [Value.cells] using r4⟩
      injection hv4 with ha hll hcc
      subst ha; subst hll; subst hcc
      refine ⟨(((x0, x1, x2, x3), (a4, c4', fs)), y4.1), ?_, fun j hj => ?_, ⟨hr4, hw4, w0, w1, w2, w3⟩, hd4⟩
      · match ys, hyl, q0, q1, q2, q3, q4 with
        | [y0', y1', y2', y3', y4'], _, q0, q1, q2, q3, q4 =>
          simp at q0 q1 q2 q3 q4
          rw [hD, q0, q1, q2, q3, q4, z0, z1, z2, z3]
          rfl
      · rcases (by omega : j = 0 ∨ j = 1 ∨ j = 2 ∨ j = 3 ∨ j = 4) with rfl | rfl | rfl | rfl | rfl
        · exact c0
        · exact c1
        · exact c2
        · exact c3
        · exact c4)
    subst hl
    refine ⟨_, c, es, rfl, ⟨flat_length _ 5 (fun _ => rfl) es, fun _ => ⟨b, off, rfl, hb, fun j u hu => ?_⟩⟩, fun f hf' => ?_, .inr ⟨spare, by rw [hd, range_map_list _ D entData es rfl (fun i hi' => (hf i hi').1)]⟩⟩
    · have hj : j < es.length * 5 := by
        have := (List.getElem?_eq_some_iff.1 hu).1
        rwa [flat_length _ 5 (fun _ => rfl) es] at this
      have hq : j / 5 < es.length := by omega
      have hsplit : j = j / 5 * 5 + j % 5 := by omega
      obtain ⟨_, hcs, _⟩ := hf (j / 5) hq
      rw [hsplit, flat_at (fun p : Ent × DataW H => entCells p.1) 5 (fun _ => rfl) es (j / 5) (j % 5) hq (by omega)] at hu
      rw [hsplit, hcs (j % 5) (by omega)]
      exact hu
    · obtain ⟨i, hi', rfl⟩ := List.getElem_of_mem hf'
      exact (hf i hi').2.2
  · obtain rfl : n = 0 := by omega
    exact ⟨A, c, [], rfl, Reads.none_, by simp, .inr ⟨spare, by simpa using hd⟩⟩
/-- the same, the data apart -/
theorem open_entries {t e ti tp te tq : TypeId} {f0 f1 f2 f3 f4 g0 g1 g2 : Field} {r : Reach} {base : Nat} {sp : Nat → Bool} {held : Bool} {v : Value} {d : DataW H} {p : List MemPlace} (ht : P.underlying t = some (.slice e)) (he : P.underlying e = some (.struct #[f0, f1, f2, f3, f4]))
    (hone : oneCellFields P #[f0, f1, f2, f3, f4] = true) (hC : P.cellsOf e = 5) (h0 : f0.type = ti) (h1 : f1.type = ti) (h2 : f2.type = ti) (h3 : f3.type = ti) (h4 : f4.type = tp) (hi : P.underlying ti = some (.int .i64)) (hp : P.underlying tp = some (.slice te))
    (hte : P.underlying te = some (.struct #[g0, g1, g2])) (hone' : oneCellFields P #[g0, g1, g2] = true) (hC' : P.cellsOf te = 3) (k0 : g0.type = tq) (k1 : g1.type = ti) (k2 : g2.type = ti) (hs : P.underlying tq = some .string)
    (hv : Value.okWide P w r base t v) (h : DataW.Trod enc P w 0 sp held t v d p) :
    ∃ (A : Option Addr) (c : Nat) (qs : List Ent), v = .slice A qs.length c ∧ Reads w w.heap.size 5 A qs.length (qs.flatMap entCells) ∧ (∀ q ∈ qs, EntOk w q) ∧ ∃ es : List (Ent × DataW H), qs = es.map (·.1) ∧ RowData d entData es ∧ ∀ p ∈ es, RowData p.2 pointData p.1.2.2.2 := by
  obtain ⟨A, c, es, h1', h2', h3', h4'⟩ := open_entry_list ht he hone hC h0 h1 h2 h3 h4 hi hp hte hone' hC' k0 k1 k2 hs hv h
  refine ⟨A, c, es.map (·.1), by rw [List.length_map]; exact h1', by rw [List.length_map, List.flatMap_map]; exact h2', fun q hq => ?_, es, rfl, h4', fun p hp => (h3' p hp).2⟩
  obtain ⟨p, hp', rfl⟩ := List.mem_map.1 hq
  exact (h3' p hp').1
/-- a batch is of the reach's size -/
theorem sized_batch {ts : List TypeId} {ds : List (DataW H)} (h : (DataW.weightsEach P ts ds).all (· ≤ reachBytes) = true) {j : Nat} {t e ti tp te : TypeId} {f0 f1 f2 f3 f4 : Field} {d : DataW H} {es : List (Ent × DataW H)} (ht : ts[j]? = some t) (hd : ds[j]? = some d) (hu : P.underlying t = some (.slice e)) (he : P.underlying e = some (.struct #[f0, f1, f2, f3, f4])) (h4 : f4.type = tp) (hp : P.underlying tp = some (.slice te)) (hb : P.bytesOf te = 32)
    (hs : RowData d entData es) (x : Ent × DataW H) (hx : x ∈ es) (hxd : RowData x.2 pointData x.1.2.2.2) : x.1.2.2.2.length * 32 ≤ 140737488351232 := by
  rcases hxd with ⟨_, h0⟩ | ⟨spare, h1⟩
  · rw [h0]; simp
  · have := sized_elem h ht hd hu hs x hx ((x.1.2.2.2.length + spare.length) * 32) (by
      unfold entData
      simp only [DataW.weights, he]
      simp only [DataW.weightsEach, List.map_cons, List.map_nil, h1, h4, DataW.weights, hp, hb, List.length_map, List.mem_append, List.mem_cons, true_or, or_true])
    have h2 : x.1.2.2.2.length * 32 ≤ (x.1.2.2.2.length + spare.length) * 32 := Nat.mul_le_mul_right _ (by omega)
    omega
end
end Go.Proofs.Ytapdlmiioljpgaa
