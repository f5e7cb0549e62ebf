/- Cells of points, and small facts on own rows. -/
import Derived.Test.YthdbmgjlegpbaaaFrame
import Derived.Test.YthdbmgjlegpbaaaPtPlain
import Derived.Test.YthdbmgjlegpbaaaSamePts
import Derived.Test.YthdbmgjlegpbaaaOwnDown
namespace Go.Proofs.Ythdbmgjlegpbaaa
open Go.RowKit
set_option linter.unusedVariables false

theorem info_point : (Try.prog.info? 52).map (fun i => (i.zero, i.size, i.bytes)) = some (some (.agg #[.string ⟨#[]⟩, .int .i64 0, .int .i64 0]), 3, 32) := by kernel_rfl
theorem pt3_of {w : World} {h : Nat} {n : ByteArray} {t v : Int} (hP : Blk w h 52 #[.string n, .int .i64 t, .int .i64 v]) :
    w.cell? ⟨h, 0, none⟩ = some (.string n) ∧ w.cell? ⟨h, 1, none⟩ = some (.int .i64 t) ∧ w.cell? ⟨h, 2, none⟩ = some (.int .i64 v) := ⟨hP.cell 0, hP.cell 1, hP.cell 2⟩
theorem pt_cells {w wr : World} {B b off k : Nat} {ps : List Pt.Point} (hlt : k < ps.length) (hc : ∀ j u, (ps.flatMap pointCells)[j]? = some u → w.cell? ⟨b, off + j, none⟩ = some u) (hk : ∀ p : Addr, p.block < B → wr.cell? p = w.cell? p) (hb : b < B) :
    wr.cell? ⟨b, off + k * 3, none⟩ = some (.string ps[k].1) ∧ wr.cell? ⟨b, off + k * 3 + 1, none⟩ = some (.int .i64 ps[k].2.1) ∧ wr.cell? ⟨b, off + k * 3 + 2, none⟩ = some (.int .i64 ps[k].2.2) := by
  refine ⟨?_, ?_, ?_⟩
  · rw [hk ⟨b, _, none⟩ hb]; have := hc (k * 3 + 0) (.string ps[k].1) (by rw [flat_at pointCells 3 (fun _ => rfl) ps k 0 hlt (by omega)]; rfl); rwa [← Nat.add_assoc] at this
  · rw [hk ⟨b, _, none⟩ hb]; have := hc (k * 3 + 1) (.int .i64 ps[k].2.1) (by rw [flat_at pointCells 3 (fun _ => rfl) ps k 1 hlt (by omega)]; rfl); rwa [← Nat.add_assoc] at this
  · rw [hk ⟨b, _, none⟩ hb]; have := hc (k * 3 + 2) (.int .i64 ps[k].2.2) (by rw [flat_at pointCells 3 (fun _ => rfl) ps k 2 hlt (by omega)]; rfl); rwa [← Nat.add_assoc] at this

theorem flat_snoc' {α β : Type} (f : α → List β) (l : List α) (k : Nat) (h : k < l.length) : (l.take (k + 1)).flatMap f = (l.take k).flatMap f ++ f l[k] := by
  rw [List.take_succ_eq_append_getElem h, List.flatMap_append]; simp
end Go.Proofs.Ythdbmgjlegpbaaa
