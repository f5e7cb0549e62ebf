/- Entries where they lie: their cells, their batches. -/
import Derived.Test.YtapdlmiioljpgaaKOpen3
import Derived.Test.YtapdlmiioljpgaaK7
import Derived.Test.YtapdlmiioljpgaaK4
import Derived.Test.YtapdlmiioljpgaaK2
namespace Go.Proofs.Ytapdlmiioljpgaa
open Go.RowKit
set_option linter.unusedVariables false

theorem ent_cells {w : World} {B : Nat} {A : Option Addr} {z : List Ent} (h : Reads w B 5 A z.length (z.flatMap entCells)) (j : Nat) (hj : j < z.length) : ∃ b off, A = some ⟨b, off, none⟩ ∧ b < B ∧
    w.cell? ⟨b, off + j * 5, none⟩ = some (.int .i64 z[j].1.1) ∧ w.cell? ⟨b, off + j * 5 + 1, none⟩ = some (.int .i64 z[j].1.2.1) ∧ w.cell? ⟨b, off + j * 5 + 2, none⟩ = some (.int .i64 z[j].1.2.2.1) ∧ w.cell? ⟨b, off + j * 5 + 3, none⟩ = some (.int .i64 z[j].1.2.2.2) ∧ w.cell? ⟨b, off + j * 5 + 4, none⟩ = some (.slice z[j].2.1 z[j].2.2.2.length z[j].2.2.1) := by
  obtain ⟨b, off, e, hb, hc⟩ := h.2 (by omega)
  have g : ∀ i u, (entCells z[j])[i]? = some u → i < 5 → w.cell? ⟨b, off + j * 5 + i, none⟩ = some u := fun i u hu hi => by
    have := hc (j * 5 + i) u (by rw [flat_at entCells 5 (fun _ => rfl) z j i hj hi]; exact hu)
    rwa [← Nat.add_assoc] at this
  exact ⟨b, off, e, hb, g 0 _ rfl (by omega), g 1 _ rfl (by omega), g 2 _ rfl (by omega), g 3 _ rfl (by omega), g 4 _ rfl (by omega)⟩
theorem ent_pts {w : World} {q : Ent} (h : EntOk w q) : Reads w w.heap.size 3 q.2.1 q.2.2.2.length (q.2.2.2.flatMap pointCells) ∧ ∀ p ∈ q.2.2.2, Pt.wf p :=
  ⟨h.reads, fun p hp => by
    obtain ⟨h1, h2, _⟩ := h.pts p hp
    exact ⟨wf_int h1, wf_int h2⟩⟩
end Go.Proofs.Ytapdlmiioljpgaa
