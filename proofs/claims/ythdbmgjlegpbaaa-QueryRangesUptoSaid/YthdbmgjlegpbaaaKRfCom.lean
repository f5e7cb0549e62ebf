/- What the laws over lists of points share: the texts of their segments, bounds. -/
import Derived.Test.YthdbmgjlegpbaaaKRfFiles
import Derived.Test.YthdbmgjlegpbaaaKRfLast
import Derived.Test.YthdbmgjlegpbaaaKRfRange
import Derived.Test.YthdbmgjlegpbaaaKSameTexts
import Derived.Test.YthdbmgjlegpbaaaKSpoilPts
import Derived.Test.YthdbmgjlegpbaaaKOpenLists
import Derived.Test.YthdbmgjlegpbaaaK4
namespace Go.Proofs.Ythdbmgjlegpbaaa
open Go.RowKit
set_option linter.unusedVariables false

namespace Rf
/-- the points of a list, as a law's argument holds them -/
def ptsL (z : List Lst) : List (List Pt.Point) := z.map (·.2.2)
theorem tot_len (X : List ByteArray) (o : List Pt.Point) (hX : X.length ≤ 513) (ho : o.length ≤ 2097152) : (X.map Qr.ptsOf ++ [o]).flatten.length ≤ 2130000 := by
  have := ptsOf_len X o
  omega
theorem tot_names (X : List ByteArray) (o : List Pt.Point) (ho : ∀ q ∈ o, q.1.size ≤ 9223372036854775807) : ∀ q ∈ (X.map Qr.ptsOf ++ [o]).flatten, q.1.size ≤ 9223372036854775807 := by
  intro q hq
  obtain ⟨l, hl, hq2⟩ := List.mem_flatten.1 hq
  rcases List.mem_append.1 hl with hl | hl
  · obtain ⟨s, _, rfl⟩ := List.mem_map.1 hl
    have := pts_names s q hq2
    omega
  · rw [List.mem_singleton] at hl; subst hl; exact ho q hq2
theorem pts_wf {z : List Pt.Point} (h : ∀ p ∈ z, (Lit.int .i64 p.2.1).wf = true ∧ (Lit.int .i64 p.2.2).wf = true ∧ p.1.size ≤ maxLen) : ∀ p ∈ z, Pt.wf p ∧ p.1.size ≤ 9223372036854775807 := fun p hp => ⟨⟨wf_int (h p hp).1, wf_int (h p hp).2.1⟩, by have := (h p hp).2.2; unfold maxLen at this; omega⟩
end Rf
/-- the lists of a law -/
structure ListsOk (w : World) (A : Option Addr) (z : List Lay) : Prop where
  reads : Reads w w.heap.size 1 A z.length (z.map layV)
  each : ∀ y ∈ z, Reads w w.heap.size 3 y.1 y.2.2.length (y.2.2.flatMap pointCells)
  wf : ∀ y ∈ z, ∀ q ∈ y.2.2, Pt.wf q ∧ q.1.size ≤ 9223372036854775807
  len : z.length ≤ 1048576
  short : ∀ y ∈ z, y.2.2.length ≤ 1048576
theorem files_of {w : World} {A : Option Addr} {z : List Lay} (h : ListsOk w A z) (c : Nat) (bad : Bool) (W : World) (hb : Below w.heap.size w W) : Calls Try.prog 21 #[.slice A z.length c, .bool bad] W (TxtPost W (Rf.segsR (z.map (·.2.2)) bad)) :=
  files_any A c z bad W w.heap.size (h.reads.below hb) hb.size (fun y hy => (h.each y hy).below hb) (fun y hy => by have := h.short y hy; omega) h.wf h.len
/-- the lists as the frame hands them -/
theorem listsOk_of {w : World} {A : Option Addr} {z : List Lst} (rd : Reads w w.heap.size 1 A z.length (z.map lstV)) (ok : ∀ y ∈ z, LstOk w y) (hl : z.length ≤ 1048576) (hs : (z.map fun y : Lst => (y.2.2.map fun p : ByteArray × Int × Int => p.1.size + 4).sum).sum ≤ 1048576) : ListsOk w A z where
  reads := rd
  each := fun y hy => (ok y hy).reads
  wf := fun y hy => Rf.pts_wf (ok y hy).pts
  len := hl
  short := fun y hy => by
    have h1 := le_sum (fun y : Lst => (y.2.2.map fun p : ByteArray × Int × Int => p.1.size + 4).sum) z hy
    have h2 := sum_ge_length (fun p : ByteArray × Int × Int => p.1.size + 4) 4 (fun _ => by omega) y.2.2
    omega
end Go.Proofs.Ythdbmgjlegpbaaa
