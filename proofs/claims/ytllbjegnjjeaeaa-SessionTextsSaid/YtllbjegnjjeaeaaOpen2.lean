/- Arguments of a law opened: slices of sessions, an entry by its value. No program in sight. -/
import Derived.Test.YtllbjegnjjeaeaaOpen
namespace Go.Proofs.Ytllbjegnjjeaeaa
open Go.RowKit Go.ChangeShapes Go.WideShapes Go.Deep
set_option linter.unusedVariables false

section
variable {H : Type} {enc : TypeId × Value → H} {P : Program} {w : World}
def srowData (f : Int × Int × Int × Int) : DataW H := .agg [.lit (.int .i64 f.1), .lit (.int .i64 f.2.1), .lit (.int .i64 f.2.2.1), .lit (.int .i64 f.2.2.2)]
theorem open_srow_list {t e ti : TypeId} {f0 f1 f2 f3 : Field} {r : Reach} {base : Nat} {sp : Nat → Bool} {held : Bool} {v : Value} {d : DataW H} {p : List MemPlace} (ht : P.underlying t = some (.slice e)) (he : P.underlying e = some (.struct #[f0, f1, f2, f3]))
    (hone : oneCellFields P #[f0, f1, f2, f3] = true) (hC : P.cellsOf e = 4) (h0 : f0.type = ti) (h1 : f1.type = ti) (h2 : f2.type = ti) (h3 : f3.type = ti) (hi : P.underlying ti = some (.int .i64))
    (hv : Value.okWide P w r base t v) (h : DataW.Trod enc P w 0 sp held t v d p) :
    ∃ (A : Option Addr) (c : Nat) (fs : List (Int × Int × Int × Int)), v = .slice A fs.length c ∧ Reads w w.heap.size 4 A fs.length (fs.flatMap fun f => [.int .i64 f.1, .int .i64 f.2.1, .int .i64 f.2.2.1, .int .i64 f.2.2.2]) ∧ (∀ f ∈ fs, (Lit.int .i64 f.1).wf = true ∧ (Lit.int .i64 f.2.1).wf = true ∧ (Lit.int .i64 f.2.2.1).wf = true ∧ (Lit.int .i64 f.2.2.2).wf = true) ∧ RowData d srowData fs := by
  obtain ⟨A, n, c, rfl, hd⟩ := open_row_list ht he hone hC (Nat.zero_lt_succ 3) hv h
  rcases hd with ⟨rfl, rfl⟩ | ⟨D, spare, hd, hc⟩
  · exact ⟨A, c, [], rfl, Reads.none_, by simp, .inl ⟨rfl, rfl⟩⟩
  by_cases hn : 0 < n
  · obtain ⟨b, off, rfl, hb, hcell⟩ := hc hn
    obtain ⟨fs, hl, hf⟩ := list_of n (fun i (f : Int × Int × Int × Int) => D i = srowData f ∧ w.cell? ⟨b, off + i * 4, .none⟩ = some (.int .i64 f.1) ∧ w.cell? ⟨b, off + (i * 4 + 1), .none⟩ = some (.int .i64 f.2.1) ∧ w.cell? ⟨b, off + (i * 4 + 2), .none⟩ = some (.int .i64 f.2.2.1) ∧ w.cell? ⟨b, off + (i * 4 + 3), .none⟩ = some (.int .i64 f.2.2.2) ∧ (Lit.int .i64 f.1).wf = true ∧ (Lit.int .i64 f.2.1).wf = true ∧ (Lit.int .i64 f.2.2.1).wf = true ∧ (Lit.int .i64 f.2.2.2).wf = true) (fun i hi' => by
      obtain ⟨k, ys, hD, hyl, hk⟩ := hcell i hi'
      obtain ⟨u0, y0, c0, q0, r0⟩ := hk 0 f0 rfl
      obtain ⟨u1, y1, c1, q1, r1⟩ := hk 1 f1 rfl
      obtain ⟨u2, y2, c2, q2, r2⟩ := hk 2 f2 rfl
      obtain ⟨u3, y3, c3, q3, r3⟩ := hk 3 f3 rfl
      rw [h0] at r0
      rw [h1] at r1
      rw [h2] at r2
      rw [h3] at r3
      obtain ⟨x0, e0, g0, w0⟩ := DataW.trod_int hi r0
      obtain ⟨x1, e1, g1, w1⟩ := DataW.trod_int hi r1
      obtain ⟨x2, e2, g2, w2⟩ := DataW.trod_int hi r2
      obtain ⟨x3, e3, g3, w3⟩ := DataW.trod_int hi r3
      simp at e0 e1 e2 e3
      subst e0; subst e1; subst e2; subst e3
      refine ⟨(x0, x1, x2, x3), ?_, c0, c1, c2, c3, w0, w1, w2, w3⟩
      match ys, hyl, q0, q1, q2, q3 with
      | [z0, z1, z2, z3], _, q0, q1, q2, q3 =>
        simp at q0 q1 q2 q3
        rw [hD, q0, q1, q2, q3, g0, g1, g2, g3]
        rfl)
    subst hl
    refine ⟨_, c, fs, rfl, ⟨flat_length _ 4 (fun _ => rfl) fs, fun _ => ⟨b, off, rfl, hb, fun j u hu => ?_⟩⟩, fun f hf' => ?_, .inr ⟨spare, by rw [hd, range_map_list _ D srowData fs rfl (fun i hi' => (hf i hi').1)]⟩⟩
    · have hj : j < fs.length * 4 := by
        have := (List.getElem?_eq_some_iff.1 hu).1
        rwa [flat_length _ 4 (fun _ => rfl) fs] at this
      have hq : j / 4 < fs.length := by omega
      have hsplit : j = j / 4 * 4 + j % 4 := by omega
      obtain ⟨_, c0, c1, c2, c3, _⟩ := hf (j / 4) hq
      rw [hsplit, flat_at _ 4 (fun _ => rfl) fs (j / 4) (j % 4) hq (by omega)] at hu
      rcases (by omega : j % 4 = 0 ∨ j % 4 = 1 ∨ j % 4 = 2 ∨ j % 4 = 3) with e | e | e | e
      · rw [e] at hu hsplit
        rw [hsplit, ← hu]; simpa using c0
      · rw [e] at hu hsplit
        rw [hsplit, ← hu]; simpa using c1
      · rw [e] at hu hsplit
        rw [hsplit, ← hu]; simpa using c2
      · rw [e] at hu hsplit
        rw [hsplit, ← hu]; simpa using c3
    · obtain ⟨i, hi', rfl⟩ := List.getElem_of_mem hf'
      have := (hf i hi').2.2.2.2.2
      exact this
  · obtain rfl : n = 0 := by omega
    exact ⟨A, c, [], rfl, Reads.none_, by simp, .inr ⟨spare, by simpa using hd⟩⟩
theorem array5 {α : Type} {cs : Array α} (h : cs.size = 5) : ∃ c0 c1 c2 c3 c4, cs = #[c0, c1, c2, c3, c4] := by
  obtain ⟨l⟩ := cs
  match l, h with
  | [c0, c1, c2, c3, c4], _ => exact ⟨c0, c1, c2, c3, c4, rfl⟩
/-- an entry, by its value -/
theorem open_entry {t ti tp te : TypeId} {f0 f1 f2 f3 f4 : Field} {r : Reach} {base : Nat} {sp : Nat → Bool} {held : Bool} {v : Value} {d : DataW H} {p : List MemPlace} (he : P.underlying t = some (.struct #[f0, f1, f2, f3, f4]))
    (hone : oneCellFields P #[f0, f1, f2, f3, f4] = true) (hC : P.cellsOf t = 5) (h0 : f0.type = ti) (h1 : f1.type = ti) (h2 : f2.type = ti) (h3 : f3.type = ti) (h4 : f4.type = tp) (hi : P.underlying ti = some (.int .i64)) (hp : P.underlying tp = some (.slice te))
    (hv : Value.okWide P w r base t v) (h : DataW.Trod enc P w 0 sp held t v d p) :
    ∃ (q : Int × Int × Int × Int) (A : Option Addr) (n c : Nat), v = .agg #[.int .i64 q.1, .int .i64 q.2.1, .int .i64 q.2.2.1, .int .i64 q.2.2.2, .slice A n c] ∧ ((Lit.int .i64 q.1).wf = true ∧ (Lit.int .i64 q.2.1).wf = true ∧ (Lit.int .i64 q.2.2.1).wf = true ∧ (Lit.int .i64 q.2.2.2).wf = true) := by
  obtain ⟨cs, rfl, hsz⟩ := okWide_struct he hv
  obtain ⟨v0, v1, v2, v3, v4, rfl⟩ := array5 (hsz.trans hC)
  obtain ⟨fuel, hf⟩ := h
  obtain ⟨ys, n', _, _, _, hyl, hk⟩ := DataW.trod_struct he hf
  obtain ⟨o0, k0⟩ := hone_of hone 0 f0 rfl
  obtain ⟨o1, k1⟩ := hone_of hone 1 f1 rfl
  obtain ⟨o2, k2⟩ := hone_of hone 2 f2 rfl
  obtain ⟨o3, k3⟩ := hone_of hone 3 f3 rfl
  obtain ⟨o4, k4⟩ := hone_of hone 4 f4 rfl
  match ys, hyl with
  | [y0, y1, y2, y3, y4], _ =>
    have r0 : DataW.trod enc P w 0 sp held n' f0.type [v0] = some y0 := by simpa [Value.cells, o0, k0] using hk 0 f0 rfl
    have r1 : DataW.trod enc P w 0 sp held n' f1.type [v1] = some y1 := by simpa [Value.cells, o1, k1] using hk 1 f1 rfl
    have r2 : DataW.trod enc P w 0 sp held n' f2.type [v2] = some y2 := by simpa [Value.cells, o2, k2] using hk 2 f2 rfl
    have r3 : DataW.trod enc P w 0 sp held n' f3.type [v3] = some y3 := by simpa [Value.cells, o3, k3] using hk 3 f3 rfl
    have r4 : DataW.trod enc P w 0 sp held n' f4.type [v4] = some y4 := by simpa [Value.cells, o4, k4] using hk 4 f4 rfl
    rw [h0] at r0
    rw [h1] at r1
    rw [h2] at r2
    rw [h3] at r3
    rw [h4] at r4
    obtain ⟨x0, e0, g0, w0⟩ := DataW.trod_int hi r0
    obtain ⟨x1, e1, g1, w1⟩ := DataW.trod_int hi r1
    obtain ⟨x2, e2, g2, w2⟩ := DataW.trod_int hi r2
    obtain ⟨x3, e3, g3, w3⟩ := DataW.trod_int hi r3
    obtain ⟨A, l, c, e4⟩ := Joins.slice_form hp r4
    simp at e0 e1 e2 e3 e4
    subst e0; subst e1; subst e2; subst e3; subst e4
    exact ⟨(x0, x1, x2, x3), A, l, c, rfl, w0, w1, w2, w3⟩
end
end Go.Proofs.Ytllbjegnjjeaeaa
