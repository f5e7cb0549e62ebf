/- Cells of points, and small facts on own rows. -/
import Derived.Test.YthpnhodpfhagaaaFrame
import Derived.Test.YthpnhodpfhagaaaPtPlain
import Derived.Test.YthpnhodpfhagaaaSamePts
namespace Go.Proofs.Ythpnhodpfhagaaa
open Go.RowKit
set_option linter.unusedVariables false

theorem info_point : (Try.prog.info? 70).map (fun i => (i.zero, i.size, i.bytes)) = some (some (.agg #[.string ⟨#[]⟩, .int .i64 0, .int .i64 0]), 3, 32) := by kernel_rfl
theorem own_ne_lt {w : World} {base : Nat} {e : TypeId} {size n : Nat} {v : Value} {xs : List Value} (h : w.ownsRow base e size v n xs) {g : Nat} (hg : g < base) : v.ownBlock ≠ some g := fun k => by have := (own_lt h k).1; omega
theorem only_ne {w w' : World} {g g' : Nat} (h : Only (fun k => k = g) w w') (hg : g' ≠ g) : Only (fun k => k ≠ g') w w' := h.mono fun j _ hj => by rw [hj]; exact fun k => hg k.symm

theorem pt3_of {w : World} {h : Nat} {n : ByteArray} {t v : Int} (hP : Blk w h 70 #[.string n, .int .i64 t, .int .i64 v]) :
    w.cell? ⟨h, 0, none⟩ = some (.string n) ∧ w.cell? ⟨h, 1, none⟩ = some (.int .i64 t) ∧ w.cell? ⟨h, 2, none⟩ = some (.int .i64 v) := ⟨hP.cell 0, hP.cell 1, hP.cell 2⟩
theorem own_down {w : World} {base base' : Nat} {e : TypeId} {size n : Nat} {v : Value} {xs : List Value} (h : w.ownsRow base e size v n xs) (hb : base' ≤ base) : w.ownsRow base' e size v n xs :=
  ⟨h.1, by
    rcases h.2 with h0 | ⟨g, cap, cur, e1, e2, e3⟩
    · exact .inl h0
    · exact .inr ⟨g, cap, cur, e1, Nat.le_trans hb e2, e3⟩⟩
theorem pt_cells {w wr : World} {B b off k : Nat} {ps : List Pt.Point} (hlt : k < ps.length) (hc : ∀ j u, (ps.flatMap pointCells)[j]? = some u → w.cell? ⟨b, off + j, none⟩ = some u) (hk : ∀ p : Addr, p.block < B → wr.cell? p = w.cell? p) (hb : b < B) :
    wr.cell? ⟨b, off + k * 3, none⟩ = some (.string ps[k].1) ∧ wr.cell? ⟨b, off + k * 3 + 1, none⟩ = some (.int .i64 ps[k].2.1) ∧ wr.cell? ⟨b, off + k * 3 + 2, none⟩ = some (.int .i64 ps[k].2.2) := by
  refine ⟨?_, ?_, ?_⟩
  · rw [hk ⟨b, _, none⟩ hb]; have := hc (k * 3 + 0) (.string ps[k].1) (by rw [flat_at pointCells 3 (fun _ => rfl) ps k 0 hlt (by omega)]; rfl); rwa [← Nat.add_assoc] at this
  · rw [hk ⟨b, _, none⟩ hb]; have := hc (k * 3 + 1) (.int .i64 ps[k].2.1) (by rw [flat_at pointCells 3 (fun _ => rfl) ps k 1 hlt (by omega)]; rfl); rwa [← Nat.add_assoc] at this
  · rw [hk ⟨b, _, none⟩ hb]; have := hc (k * 3 + 2) (.int .i64 ps[k].2.2) (by rw [flat_at pointCells 3 (fun _ => rfl) ps k 2 hlt (by omega)]; rfl); rwa [← Nat.add_assoc] at this

theorem flat_snoc' {α β : Type} (f : α → List β) (l : List α) (k : Nat) (h : k < l.length) : (l.take (k + 1)).flatMap f = (l.take k).flatMap f ++ f l[k] := by
  rw [List.take_succ_eq_append_getElem h, List.flatMap_append]; simp
end Go.Proofs.Ythpnhodpfhagaaa
