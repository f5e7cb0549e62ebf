/- Joined texts: SamePts, OwnDown, PtCells, IgClone, PtLess, Aft, IgSearch, IgPlain. -/
import Derived.Test.YtmnigoibbcigdaaGreatK1
import Derived.Test.YtmnigoibbcigdaaGreatProg
import Derived.Test.YtmnigoibbcigdaaGreatShelf
import Derived.Deep.QuietTactic
import Derived.BigQuiet
import Derived.Lib.Bytealg
import Derived.Lib.Small
import Derived.Deep.RegionHeld3
import Derived.Deep.DrawnRows
/- The helpers of cachetlaw0 on slices (Same, Copy, Lend, Kept): what they answer where the lists are one. Printed by gen_same.py. -/
namespace Go.Proofs.YtmnigoibbcigdaaGreat
open Go.RowKit
set_option linter.unusedVariables false

def pointCells (f : ByteArray × Int × Int) : List Value := [.string f.1, .int .i64 f.2.1, .int .i64 f.2.2]
set_option maxRecDepth 100000 in
set_option maxHeartbeats 400000 in
theorem samePoints_true (A B : Option Addr) (c d : Nat) (xs : List (ByteArray × Int × Int)) (w : World) (b1 b2 : Nat) (hr : Reads w b1 3 A xs.length (xs.flatMap pointCells)) (hq : Reads w b2 3 B xs.length (xs.flatMap pointCells)) (hn : xs.length ≤ 140737488355328) :
    Calls Tryz.prog 33 #[.slice A xs.length c, .slice B xs.length d] w fun e w' => e = .returned (.bool true) ∧ ∃ n, w' = w.drewN n := by
  have hl : ((xs.length : Int) != (xs.length : Int)) = false := by simp
  go_enter Tryz.func33, Tryz.ntmps33
  go_wp2
  go_loopw [5] (fun i wr => ∃ k n : Nat, k ≤ xs.length ∧ i = .int .i64 (k : Int) ∧ wr = w.drewN n) (fun i _ => xs.length - (intOf i).toNat)
  case atStart => exact ⟨0, 0, Nat.zero_le _, rfl, rfl⟩
  case round =>
    obtain ⟨k, n, hk, rfl, rfl⟩ := hrel
    by_cases hlt : k < xs.length
    · obtain ⟨b, off, rfl, hbl, hc⟩ := hr.2 (by omega)
      obtain ⟨b', off', rfl, hbl', hc'⟩ := hq.2 (by omega)
      have hcell0 : w.cell? ⟨b, off + k * 3, none⟩ = some (.string xs[k].1) := by have := hc (k * 3 + 0) (.string xs[k].1) (by rw [flat_at pointCells 3 (fun _ => rfl) xs k 0 hlt (by omega)]; rfl); rwa [← Nat.add_assoc] at this
      have hcell1 : w.cell? ⟨b, off + k * 3 + 1, none⟩ = some (.int .i64 xs[k].2.1) := by have := hc (k * 3 + 1) (.int .i64 xs[k].2.1) (by rw [flat_at pointCells 3 (fun _ => rfl) xs k 1 hlt (by omega)]; rfl); rwa [← Nat.add_assoc] at this
      have hcell2 : w.cell? ⟨b, off + k * 3 + 2, none⟩ = some (.int .i64 xs[k].2.2) := by have := hc (k * 3 + 2) (.int .i64 xs[k].2.2) (by rw [flat_at pointCells 3 (fun _ => rfl) xs k 2 hlt (by omega)]; rfl); rwa [← Nat.add_assoc] at this
      have hcelq0 : w.cell? ⟨b', off' + k * 3, none⟩ = some (.string xs[k].1) := by have := hc' (k * 3 + 0) (.string xs[k].1) (by rw [flat_at pointCells 3 (fun _ => rfl) xs k 0 hlt (by omega)]; rfl); rwa [← Nat.add_assoc] at this
      have hcelq1 : w.cell? ⟨b', off' + k * 3 + 1, none⟩ = some (.int .i64 xs[k].2.1) := by have := hc' (k * 3 + 1) (.int .i64 xs[k].2.1) (by rw [flat_at pointCells 3 (fun _ => rfl) xs k 1 hlt (by omega)]; rfl); rwa [← Nat.add_assoc] at this
      have hcelq2 : w.cell? ⟨b', off' + k * 3 + 2, none⟩ = some (.int .i64 xs[k].2.2) := by have := hc' (k * 3 + 2) (.int .i64 xs[k].2.2) (by rw [flat_at pointCells 3 (fun _ => rfl) xs k 2 hlt (by omega)]; rfl); rwa [← Nat.add_assoc] at this
      have tt := trivial
      clear hc hc' hr hq
      go_wp2
      go_quiet (fail)
      go_wp2
      go_roundw
      case rel => exact ⟨k + 1, n + nq, by omega, by go_num, rfl⟩
      case measure => simp [intOf]; omega
    · clear hr hq
      go_wp2
      go_ret
      exact ⟨rfl, _, rfl⟩

theorem info_copyPoints : (Tryz.prog.info? 66).map (fun i => (i.zero, i.size, i.bytes)) = some (some (.agg #[.string ⟨#[]⟩, .int .i64 0, .int .i64 0]), 3, 32) := by kernel_rfl
set_option maxRecDepth 100000 in
set_option maxHeartbeats 400000 in
theorem copyPoints_any (A : Option Addr) (c : Nat) (xs : List (ByteArray × Int × Int)) (w : World) (b1 : Nat) (hr : Reads w b1 3 A xs.length (xs.flatMap pointCells)) (hB : b1 ≤ w.heap.size) (hn : xs.length * 32 ≤ 140737488355328) :
    Calls Tryz.prog 63 #[.slice A xs.length c] w fun e w' => ∃ v, e = .returned v ∧ w'.ownsRow w.heap.size 66 3 v xs.length (xs.flatMap pointCells) ∧ Below w.heap.size w w' := by
  obtain ⟨i0, hi, hz0, hz1, hz2⟩ := info_parts info_copyPoints
  have hown0 := own_empty w w.heap.size 66 3 (Nat.le_refl _)
  have hr1 := hr.alloc hB (.cells #[] 66)
  have hb0 : Below w.heap.size w (w.alloc (.cells #[] 66)) := (Below.refl _ _).alloc (Nat.le_refl _) _
  go_enter Tryz.func63, Tryz.ntmps63
  go_wp2_with (at_builtin; refine wpList_append_all _ rfl _ _ 27 rfl w.heap.size 66 i0 _ 3 32 Tryz.underlying27 hi hz0 hz1 hz2 rfl (by decide) _ 0 [] (by rfl) hown0 b1 A xs.length c (xs.flatMap pointCells) (by rfl) hr1 (fun u hu => by simp only [List.mem_flatMap, pointCells, List.mem_cons, List.not_mem_nil, or_false] at hu; obtain ⟨x, _, hu⟩ := hu; rcases hu with rfl | rfl | rfl <;> rfl) (by unfold maxLen; omega) (by omega) w hb0 (by simp) ?_; intro v1 w1 hown1 hb1 _)
  go_ret
  exact ⟨_, rfl, by simpa using hown1, hb1⟩

def roomPoints : List Value := [.string ⟨#[]⟩, .int .i64 77777, .int .i64 0, .string ⟨#[]⟩, .int .i64 77777, .int .i64 0]
set_option maxRecDepth 100000 in
set_option maxHeartbeats 400000 in
theorem lendPoints_any (A : Option Addr) (c : Nat) (xs : List (ByteArray × Int × Int)) (w : World) (b1 : Nat) (hr : Reads w b1 3 A xs.length (xs.flatMap pointCells)) (hB : b1 ≤ w.heap.size) (hn : xs.length * 32 ≤ 140737488351232) :
    Calls Tryz.prog 18 #[.slice A xs.length c] w fun e w' => ∃ g cap, e = .returned (.slice (some ⟨g, 0, none⟩) xs.length cap) ∧ w.heap.size ≤ g ∧ xs.length + 2 ≤ cap ∧ cap ≤ maxLen ∧
      w'.ownsRow w.heap.size 66 3 (.slice (some ⟨g, 0, none⟩) (xs.length + 2) cap) (xs.length + 2) ((xs.flatMap pointCells) ++ roomPoints) ∧ Below w.heap.size w w' := by
  obtain ⟨i0, hi, hz0, hz1, hz2⟩ := info_parts info_copyPoints
  go_enter Tryz.func18, Tryz.ntmps18
  go_wp2_with fail
  refine (copyPoints_any A c xs w b1 hr hB (by omega)).mono ?_
  rintro e w1 ⟨v, rfl, hown, hb⟩
  go_wp2_with (at_builtin; refine wpList_pushes _ rfl _ _ 27 rfl w.heap.size 66 i0 _ 3 32 Tryz.underlying27 hi hz0 hz1 hz2 rfl (by decide) _ xs.length _ (by rfl) hown 2 roomPoints (by rfl) rfl (by simp [roomPoints, Value.oneCell']) (by unfold maxLen; omega) (by omega) w hb hb.size ?_; intro v2 w2 hown2 hb2; obtain ⟨g, cap, hv, hg, hlt⟩ := hown2.form (by omega); subst hv; obtain ⟨hcap, hmax⟩ := own_cap hown2; have hc1 : xs.length ≤ cap := by omega)
  go_ret
  exact ⟨g, cap, rfl, hg, hcap, hmax, hown2, hb2⟩

set_option maxRecDepth 100000 in
set_option maxHeartbeats 400000 in
theorem keptPoints_true (A : Option Addr) (g c cap : Nat) (xs : List (ByteArray × Int × Int)) (w : World) (b1 b2 : Nat) (hr : Reads w b1 3 (some ⟨g, 0, none⟩) (xs.length + 2) ((xs.flatMap pointCells) ++ roomPoints)) (hq : Reads w b2 3 A xs.length (xs.flatMap pointCells)) (hcap : xs.length + 2 ≤ cap) (hn : xs.length ≤ 140737488355328) :
    Calls Tryz.prog 40 #[.slice (some ⟨g, 0, none⟩) xs.length cap, .slice A xs.length c] w fun e w' => e = .returned (.bool true) ∧ ∃ n, w' = w.drewN n := by
  have hLl : (xs.flatMap pointCells).length = xs.length * 3 := flat_length pointCells 3 (fun _ => rfl) xs
  have hr1 : Reads w b1 3 (some ⟨g, 0, none⟩) xs.length (xs.flatMap pointCells) := hr.head hLl
  obtain ⟨b, off, hbo, hbl, hcr⟩ := hr.2 (by omega)
  obtain ⟨rfl, rfl⟩ : g = b ∧ 0 = off := by injection hbo with hbo; injection hbo with h1 h2; exact ⟨h1, h2⟩
  have hm0 : w.cell? ⟨g, xs.length * 3, none⟩ = some (.string ⟨#[]⟩) := by have := hcr (xs.length * 3 + 0) (.string ⟨#[]⟩) (by rw [List.getElem?_append_right (by rw [hLl]; omega), hLl, Nat.add_sub_cancel_left]; try rfl); rw [Nat.zero_add] at this; first | exact this | (rw [← this]; congr 2 <;> first | rfl | omega)
  have hm1 : w.cell? ⟨g, xs.length * 3 + 1, none⟩ = some (.int .i64 77777) := by have := hcr (xs.length * 3 + 1) (.int .i64 77777) (by rw [List.getElem?_append_right (by rw [hLl]; omega), hLl, Nat.add_sub_cancel_left]; try rfl); rw [Nat.zero_add] at this; first | exact this | (rw [← this]; congr 2 <;> first | rfl | omega)
  have hm2 : w.cell? ⟨g, xs.length * 3 + 2, none⟩ = some (.int .i64 0) := by have := hcr (xs.length * 3 + 2) (.int .i64 0) (by rw [List.getElem?_append_right (by rw [hLl]; omega), hLl, Nat.add_sub_cancel_left]; try rfl); rw [Nat.zero_add] at this; first | exact this | (rw [← this]; congr 2 <;> first | rfl | omega)
  have hm3 : w.cell? ⟨g, (xs.length + 1) * 3, none⟩ = some (.string ⟨#[]⟩) := by have := hcr (xs.length * 3 + 3) (.string ⟨#[]⟩) (by rw [List.getElem?_append_right (by rw [hLl]; omega), hLl, Nat.add_sub_cancel_left]; try rfl); rw [Nat.zero_add] at this; first | exact this | (rw [← this]; congr 2 <;> first | rfl | omega)
  have hm4 : w.cell? ⟨g, (xs.length + 1) * 3 + 1, none⟩ = some (.int .i64 77777) := by have := hcr (xs.length * 3 + 4) (.int .i64 77777) (by rw [List.getElem?_append_right (by rw [hLl]; omega), hLl, Nat.add_sub_cancel_left]; try rfl); rw [Nat.zero_add] at this; first | exact this | (rw [← this]; congr 2 <;> first | rfl | omega)
  have hm5 : w.cell? ⟨g, (xs.length + 1) * 3 + 2, none⟩ = some (.int .i64 0) := by have := hcr (xs.length * 3 + 5) (.int .i64 0) (by rw [List.getElem?_append_right (by rw [hLl]; omega), hLl, Nat.add_sub_cancel_left]; try rfl); rw [Nat.zero_add] at this; first | exact this | (rw [← this]; congr 2 <;> first | rfl | omega)
  clear hcr hr hbo hLl
  go_enter Tryz.func40, Tryz.ntmps40
  go_wp2_with fail
  refine (samePoints_true _ _ cap c xs w b1 b2 hr1 hq hn).mono ?_
  rintro e w1 ⟨rfl, n1, rfl⟩
  clear hr1 hq
  go_wp2_with fail
  go_ret
  exact ⟨rfl, _, rfl⟩

end Go.Proofs.YtmnigoibbcigdaaGreat
/- Small facts on own rows. -/
namespace Go.Proofs.YtmnigoibbcigdaaGreat
open Go.RowKit
set_option linter.unusedVariables false

theorem own_ne_lt {w : World} {base : Nat} {e : TypeId} {size n : Nat} {v : Value} {xs : List Value} (h : w.ownsRow base e size v n xs) {g : Nat} (hg : g < base) : v.ownBlock ≠ some g := fun k => by have := (own_lt h k).1; omega
theorem only_ne {w w' : World} {g g' : Nat} (h : Only (fun k => k = g) w w') (hg : g' ≠ g) : Only (fun k => k ≠ g') w w' := h.mono fun j _ hj => by rw [hj]; exact fun k => hg k.symm
theorem own_down {w : World} {base base' : Nat} {e : TypeId} {size n : Nat} {v : Value} {xs : List Value} (h : w.ownsRow base e size v n xs) (hb : base' ≤ base) : w.ownsRow base' e size v n xs :=
  ⟨h.1, by
    rcases h.2 with h0 | ⟨g, cap, cur, e1, e2, e3⟩
    · exact .inl h0
    · exact .inr ⟨g, cap, cur, e1, Nat.le_trans hb e2, e3⟩⟩
end Go.Proofs.YtmnigoibbcigdaaGreat
/- Cells of points, and small facts on own rows. -/
namespace Go.Proofs.YtmnigoibbcigdaaGreat
open Go.RowKit
set_option linter.unusedVariables false

theorem info_point : (Tryz.prog.info? 66).map (fun i => (i.zero, i.size, i.bytes)) = some (some (.agg #[.string ⟨#[]⟩, .int .i64 0, .int .i64 0]), 3, 32) := by kernel_rfl
theorem pt3_of {w : World} {h : Nat} {n : ByteArray} {t v : Int} (hP : Blk w h 66 #[.string n, .int .i64 t, .int .i64 v]) :
    w.cell? ⟨h, 0, none⟩ = some (.string n) ∧ w.cell? ⟨h, 1, none⟩ = some (.int .i64 t) ∧ w.cell? ⟨h, 2, none⟩ = some (.int .i64 v) := ⟨hP.cell 0, hP.cell 1, hP.cell 2⟩
theorem pt_cells {w wr : World} {B b off k : Nat} {ps : List Pt.Point} (hlt : k < ps.length) (hc : ∀ j u, (ps.flatMap pointCells)[j]? = some u → w.cell? ⟨b, off + j, none⟩ = some u) (hk : ∀ p : Addr, p.block < B → wr.cell? p = w.cell? p) (hb : b < B) :
    wr.cell? ⟨b, off + k * 3, none⟩ = some (.string ps[k].1) ∧ wr.cell? ⟨b, off + k * 3 + 1, none⟩ = some (.int .i64 ps[k].2.1) ∧ wr.cell? ⟨b, off + k * 3 + 2, none⟩ = some (.int .i64 ps[k].2.2) := by
  refine ⟨?_, ?_, ?_⟩
  · rw [hk ⟨b, _, none⟩ hb]; have := hc (k * 3 + 0) (.string ps[k].1) (by rw [flat_at pointCells 3 (fun _ => rfl) ps k 0 hlt (by omega)]; rfl); rwa [← Nat.add_assoc] at this
  · rw [hk ⟨b, _, none⟩ hb]; have := hc (k * 3 + 1) (.int .i64 ps[k].2.1) (by rw [flat_at pointCells 3 (fun _ => rfl) ps k 1 hlt (by omega)]; rfl); rwa [← Nat.add_assoc] at this
  · rw [hk ⟨b, _, none⟩ hb]; have := hc (k * 3 + 2) (.int .i64 ps[k].2.2) (by rw [flat_at pointCells 3 (fun _ => rfl) ps k 2 hlt (by omega)]; rfl); rwa [← Nat.add_assoc] at this

theorem flat_snoc' {α β : Type} (f : α → List β) (l : List α) (k : Nat) (h : k < l.length) : (l.take (k + 1)).flatMap f = (l.take k).flatMap f ++ f l[k] := by
  rw [List.take_succ_eq_append_getElem h, List.flatMap_append]; simp
end Go.Proofs.YtmnigoibbcigdaaGreat
/- slices.Clone at points, numbers and files (printed by gen_clone.py). -/
namespace Go.Proofs.YtmnigoibbcigdaaGreat
open Go.RowKit
set_option linter.unusedVariables false

def digCells (x : Int) : List Value := [.int .u64 x]
def fileCells (f : Int × ByteArray) : List Value := [.int .i64 f.1, .string f.2]
theorem info_cloneP : (Tryz.prog.info? 66).map (fun i => (i.zero, i.size, i.bytes)) = some (some (.agg #[.string ⟨#[]⟩, .int .i64 0, .int .i64 0]), 3, 32) := by kernel_rfl
theorem cells_oneP (xs : List Pt.Point) : ∀ u ∈ xs.flatMap pointCells, u.oneCell' = true := by
  intro u hu
  obtain ⟨x, _, hx⟩ := List.mem_flatMap.1 hu
  unfold pointCells at hx
  simp only [List.mem_cons, List.not_mem_nil, or_false] at hx
  rcases hx with rfl | rfl | rfl <;> rfl
def OwnPPost (w : World) (xs : List Pt.Point) (e : Ending) (w' : World) : Prop := ∃ v, e = .returned v ∧ w'.ownsRow w.heap.size 66 3 v xs.length (xs.flatMap pointCells) ∧ Below w.heap.size w w'
set_option maxRecDepth 100000 in
set_option maxHeartbeats 400000 in
theorem cloneP_any (A : Option Addr) (c : Nat) (xs : List Pt.Point) (w : World) (b1 : Nat) (hr : Reads w b1 3 A xs.length (xs.flatMap pointCells)) (hB : b1 ≤ w.heap.size) (hn : xs.length * 32 ≤ 140737488355328) :
    Calls Tryz.prog 52 #[.slice A xs.length c] w (OwnPPost w xs) := by
  cases A with
  | none =>
    have h0 : xs.length = 0 := by
      rcases Nat.eq_zero_or_pos xs.length with h | h
      · exact h
      · obtain ⟨b, off, e, _⟩ := hr.2 h
        cases e
    have hx : xs = [] := List.eq_nil_of_length_eq_zero h0
    subst hx
    have hnil := fun W => Lib.run_eql_slice_nil (P := Tryz.prog) W 27 66 none 0 c 0 0 Tryz.underlying27
    clear hr h0
    go_enter Tryz.func52, Tryz.ntmps52
    go_wp2_with fail
    go_ret
    exact ⟨_, rfl, own_nil _ _ _ _, Below.refl _ _⟩
  | some ad =>
    obtain ⟨i0, hi, hz0, hz1, hz2⟩ := info_parts info_cloneP
    have hown0 := own_empty w w.heap.size 66 3 (Nat.le_refl _)
    have hr1 := hr.alloc hB (.cells #[] 66)
    have hb0 : Below w.heap.size w (w.alloc (.cells #[] 66)) := (Below.refl _ _).alloc (Nat.le_refl _) _
    have hnil := fun W => Lib.run_eql_slice_nil (P := Tryz.prog) W 27 66 (some ad) xs.length c 0 0 Tryz.underlying27
    go_enter Tryz.func52, Tryz.ntmps52
    go_wp2_with (at_builtin; refine wpList_append_all _ rfl _ _ 27 rfl w.heap.size 66 i0 _ 3 32 Tryz.underlying27 hi hz0 hz1 hz2 rfl (by decide) _ 0 [] (by rfl) hown0 b1 (some ad) xs.length c (xs.flatMap pointCells) (by rfl) hr1 (cells_oneP xs) (by unfold maxLen; omega) (by omega) w hb0 (by simp) ?_; intro v1 w1 hown1 hb1 _)
    go_ret
    exact ⟨_, rfl, by simpa using hown1, hb1⟩
theorem info_cloneD : (Tryz.prog.info? 56).map (fun i => (i.zero, i.size, i.bytes)) = some (some (.int .u64 0), 1, 8) := by kernel_rfl
theorem cells_oneD (xs : List Int) : ∀ u ∈ xs.flatMap digCells, u.oneCell' = true := by
  intro u hu
  obtain ⟨x, _, hx⟩ := List.mem_flatMap.1 hu
  unfold digCells at hx
  simp only [List.mem_cons, List.not_mem_nil, or_false] at hx
  subst hx; rfl
def OwnDPost (w : World) (xs : List Int) (e : Ending) (w' : World) : Prop := ∃ v, e = .returned v ∧ w'.ownsRow w.heap.size 56 1 v xs.length (xs.flatMap digCells) ∧ Below w.heap.size w w'
set_option maxRecDepth 100000 in
set_option maxHeartbeats 400000 in
theorem cloneD_any (A : Option Addr) (c : Nat) (xs : List Int) (w : World) (b1 : Nat) (hr : Reads w b1 1 A xs.length (xs.flatMap digCells)) (hB : b1 ≤ w.heap.size) (hn : xs.length * 8 ≤ 140737488355328) :
    Calls Tryz.prog 53 #[.slice A xs.length c] w (OwnDPost w xs) := by
  cases A with
  | none =>
    have h0 : xs.length = 0 := by
      rcases Nat.eq_zero_or_pos xs.length with h | h
      · exact h
      · obtain ⟨b, off, e, _⟩ := hr.2 h
        cases e
    have hx : xs = [] := List.eq_nil_of_length_eq_zero h0
    subst hx
    have hnil := fun W => Lib.run_eql_slice_nil (P := Tryz.prog) W 28 56 none 0 c 0 0 Tryz.underlying28
    clear hr h0
    go_enter Tryz.func53, Tryz.ntmps53
    go_wp2_with fail
    go_ret
    exact ⟨_, rfl, own_nil _ _ _ _, Below.refl _ _⟩
  | some ad =>
    obtain ⟨i0, hi, hz0, hz1, hz2⟩ := info_parts info_cloneD
    have hown0 := own_empty w w.heap.size 56 1 (Nat.le_refl _)
    have hr1 := hr.alloc hB (.cells #[] 56)
    have hb0 : Below w.heap.size w (w.alloc (.cells #[] 56)) := (Below.refl _ _).alloc (Nat.le_refl _) _
    have hnil := fun W => Lib.run_eql_slice_nil (P := Tryz.prog) W 28 56 (some ad) xs.length c 0 0 Tryz.underlying28
    go_enter Tryz.func53, Tryz.ntmps53
    go_wp2_with (at_builtin; refine wpList_append_all _ rfl _ _ 28 rfl w.heap.size 56 i0 _ 1 8 Tryz.underlying28 hi hz0 hz1 hz2 rfl (by decide) _ 0 [] (by rfl) hown0 b1 (some ad) xs.length c (xs.flatMap digCells) (by rfl) hr1 (cells_oneD xs) (by unfold maxLen; omega) (by omega) w hb0 (by simp) ?_; intro v1 w1 hown1 hb1 _)
    go_ret
    exact ⟨_, rfl, by simpa using hown1, hb1⟩
theorem info_cloneF : (Tryz.prog.info? 59).map (fun i => (i.zero, i.size, i.bytes)) = some (some (.agg #[.int .i64 0, .string ⟨#[]⟩]), 2, 24) := by kernel_rfl
theorem cells_oneF (xs : List (Int × ByteArray)) : ∀ u ∈ xs.flatMap fileCells, u.oneCell' = true := by
  intro u hu
  obtain ⟨x, _, hx⟩ := List.mem_flatMap.1 hu
  unfold fileCells at hx
  simp only [List.mem_cons, List.not_mem_nil, or_false] at hx
  rcases hx with rfl | rfl <;> rfl
def OwnFPost (w : World) (xs : List (Int × ByteArray)) (e : Ending) (w' : World) : Prop := ∃ v, e = .returned v ∧ w'.ownsRow w.heap.size 59 2 v xs.length (xs.flatMap fileCells) ∧ Below w.heap.size w w'
set_option maxRecDepth 100000 in
set_option maxHeartbeats 400000 in
theorem cloneF_any (A : Option Addr) (c : Nat) (xs : List (Int × ByteArray)) (w : World) (b1 : Nat) (hr : Reads w b1 2 A xs.length (xs.flatMap fileCells)) (hB : b1 ≤ w.heap.size) (hn : xs.length * 24 ≤ 140737488355328) :
    Calls Tryz.prog 54 #[.slice A xs.length c] w (OwnFPost w xs) := by
  cases A with
  | none =>
    have h0 : xs.length = 0 := by
      rcases Nat.eq_zero_or_pos xs.length with h | h
      · exact h
      · obtain ⟨b, off, e, _⟩ := hr.2 h
        cases e
    have hx : xs = [] := List.eq_nil_of_length_eq_zero h0
    subst hx
    have hnil := fun W => Lib.run_eql_slice_nil (P := Tryz.prog) W 29 59 none 0 c 0 0 Tryz.underlying29
    clear hr h0
    go_enter Tryz.func54, Tryz.ntmps54
    go_wp2_with fail
    go_ret
    exact ⟨_, rfl, own_nil _ _ _ _, Below.refl _ _⟩
  | some ad =>
    obtain ⟨i0, hi, hz0, hz1, hz2⟩ := info_parts info_cloneF
    have hown0 := own_empty w w.heap.size 59 2 (Nat.le_refl _)
    have hr1 := hr.alloc hB (.cells #[] 59)
    have hb0 : Below w.heap.size w (w.alloc (.cells #[] 59)) := (Below.refl _ _).alloc (Nat.le_refl _) _
    have hnil := fun W => Lib.run_eql_slice_nil (P := Tryz.prog) W 29 59 (some ad) xs.length c 0 0 Tryz.underlying29
    go_enter Tryz.func54, Tryz.ntmps54
    go_wp2_with (at_builtin; refine wpList_append_all _ rfl _ _ 29 rfl w.heap.size 59 i0 _ 2 24 Tryz.underlying29 hi hz0 hz1 hz2 rfl (by decide) _ 0 [] (by rfl) hown0 b1 (some ad) xs.length c (xs.flatMap fileCells) (by rfl) hr1 (cells_oneF xs) (by unfold maxLen; omega) (by omega) w hb0 (by simp) ?_; intro v1 w1 hown1 hb1 _)
    go_ret
    exact ⟨_, rfl, by simpa using hown1, hb1⟩
end Go.Proofs.YtmnigoibbcigdaaGreat
/- Which point is less: plain, and the walks through Compare, Less, the reference's Below, Less. -/
namespace Go.Proofs.YtmnigoibbcigdaaGreat
open Go.RowKit
set_option linter.unusedVariables false

theorem cb_cases (a b : List UInt8) : Lib.compareBytes a b = -1 ∨ Lib.compareBytes a b = 0 ∨ Lib.compareBytes a b = 1 := by
  induction a generalizing b with
  | nil => cases b <;> simp [Lib.compareBytes]
  | cons x a ih =>
    cases b with
    | nil => simp [Lib.compareBytes]
    | cons y b =>
      unfold Lib.compareBytes
      split
      · simp
      · split
        · simp
        · exact ih b
theorem cb_self (a : List UInt8) : Lib.compareBytes a a = 0 := by
  induction a with
  | nil => rfl
  | cons x a ih => unfold Lib.compareBytes; rw [if_neg (UInt8.lt_irrefl x), if_neg (UInt8.lt_irrefl x)]; exact ih
theorem cb_zero {a b : List UInt8} (h : Lib.compareBytes a b = 0) : a = b := by
  induction a generalizing b with
  | nil => cases b <;> simp [Lib.compareBytes] at h ⊢
  | cons x a ih =>
    cases b with
    | nil => simp [Lib.compareBytes] at h
    | cons y b =>
      unfold Lib.compareBytes at h
      by_cases h1 : x < y
      · rw [if_pos h1] at h; simp at h
      · rw [if_neg h1] at h
        by_cases h2 : y < x
        · rw [if_pos h2] at h; simp at h
        · rw [if_neg h2] at h
          have : x = y := by rw [UInt8.lt_iff_toNat_lt] at h1 h2; exact UInt8.toNat_inj.1 (by omega)
          rw [this, ih h]
theorem cb_neg (a b : List UInt8) : Lib.compareBytes b a = -Lib.compareBytes a b := by
  induction a generalizing b with
  | nil => cases b <;> simp [Lib.compareBytes]
  | cons x a ih =>
    cases b with
    | nil => simp [Lib.compareBytes]
    | cons y b =>
      unfold Lib.compareBytes
      by_cases h1 : x < y
      · have h2 : ¬ y < x := by rw [UInt8.lt_iff_toNat_lt] at h1 ⊢; omega
        rw [if_neg h2, if_pos h1, if_pos h1]; rfl
      · by_cases h2 : y < x
        · rw [if_pos h2, if_neg h1, if_pos h2]
        · rw [if_neg h2, if_neg h1, if_neg h1, if_neg h2]; exact ih b
theorem cb_trans {a b c : List UInt8} (h : Lib.compareBytes a b = -1) (k : Lib.compareBytes b c = -1) : Lib.compareBytes a c = -1 := by
  induction a generalizing b c with
  | nil =>
    cases c with
    | nil => cases b <;> simp [Lib.compareBytes] at h k
    | cons z c => rfl
  | cons x a ih =>
    cases b with
    | nil => simp [Lib.compareBytes] at h
    | cons y b =>
      cases c with
      | nil => simp [Lib.compareBytes] at k
      | cons z c =>
        unfold Lib.compareBytes at h k ⊢
        simp only [UInt8.lt_iff_toNat_lt] at h k ⊢
        by_cases h1 : x.toNat < y.toNat
        · by_cases k1 : y.toNat < z.toNat
          · rw [if_pos (by omega)]
          · rw [if_neg k1] at k
            by_cases k2 : z.toNat < y.toNat
            · rw [if_pos k2] at k; simp at k
            · rw [if_pos (by omega)]
        · rw [if_neg h1] at h
          by_cases h2 : y.toNat < x.toNat
          · rw [if_pos h2] at h; simp at h
          · rw [if_neg h2] at h
            by_cases k1 : y.toNat < z.toNat
            · rw [if_pos (by omega)]
            · rw [if_neg k1] at k
              by_cases k2 : z.toNat < y.toNat
              · rw [if_pos k2] at k; simp at k
              · rw [if_neg k2] at k
                rw [if_neg (by omega), if_neg (by omega)]
                exact ih h k
def orV (x y : Int) : Int := if x ≠ 0 then x else y
def Pt.cmpP (a b : Pt.Point) : Int := orV (Lib.compareBytes a.1.data.toList b.1.data.toList) (Lib.compareInt a.2.1 b.2.1)
def Pt.lessB (a b : Pt.Point) : Bool := decide (Pt.cmpP a b < 0)
theorem list_inj {a b : ByteArray} (h : a.data.toList = b.data.toList) : a = b := Wr.ext_list h
theorem less_ref (a b : Pt.Point) : Pt.lessB a b = if a.1 ≠ b.1 then decide (Lib.compareBytes a.1.data.toList b.1.data.toList < 0) else decide (a.2.1 < b.2.1) := by
  unfold Pt.lessB Pt.cmpP orV
  by_cases h : a.1 = b.1
  · rw [h, cb_self]
    simp only [ne_eq, not_true_eq_false, if_false]
    unfold Lib.compareInt
    by_cases h1 : a.2.1 < b.2.1
    · rw [if_pos h1]; simp [h1]
    · rw [if_neg h1]; split <;> simp [h1]
  · have h0 : Lib.compareBytes a.1.data.toList b.1.data.toList ≠ 0 := fun e => h (list_inj (cb_zero e))
    rw [if_pos h0, if_pos h]

/-! the walks -/
set_option maxRecDepth 100000 in
theorem or_any (x y : Int) (g : Nat) (w : World) (h0 : w.cell? ⟨g, 0, none⟩ = some (.int .i64 x)) (h1 : w.cell? ⟨g, 1, none⟩ = some (.int .i64 y)) :
    Calls Tryz.prog 111 #[.slice (some ⟨g, 0, none⟩) 2 2] w fun e w' => e = .returned (.int .i64 (orV x y)) ∧ w = w' := by
  by_cases hx : x = 0
  · by_cases hy : y = 0
    · have HF : Hid (orV x y = 0) := by show _ = _; unfold orV; rw [if_neg (by simp [hx]), hy]
      have hxz : (x != 0) = false := by simp [hx]
      have hyz : (y != 0) = false := by simp [hy]
      clear hx hy
      go_enter Tryz.func111, Tryz.ntmps111
      go_wp2
      go_loop [5, 8] (fun _ i => ∃ k : Nat, k ≤ 2 ∧ i = .int .i64 (k : Int)) (fun _ i => 2 - (intOf i).toNat)
      case atStart => exact ⟨0, by omega, rfl⟩
      case round =>
        obtain ⟨k, hk, rfl⟩ := hrel
        obtain rfl | rfl | rfl : k = 0 ∨ k = 1 ∨ k = 2 := by omega
        · go_wp2
          go_round
          case rel => exact ⟨1, by omega, by go_num⟩
          case measure => simp [intOf]
        · go_wp2
          go_round
          case rel => exact ⟨2, by omega, by go_num⟩
          case measure => simp [intOf]
        · go_wp2
          go_ret
          exact ⟨ret_int HF.out.symm, rfl⟩
    · have HF : Hid (orV x y = y) := by show _ = _; unfold orV; rw [if_neg (by simp [hx])]
      have hxz : (x != 0) = false := by simp [hx]
      have hyz : (y != 0) = true := by simp [hy]
      clear hx hy
      go_enter Tryz.func111, Tryz.ntmps111
      go_wp2
      go_loop [5, 8] (fun _ i => ∃ k : Nat, k ≤ 1 ∧ i = .int .i64 (k : Int)) (fun _ i => 2 - (intOf i).toNat)
      case atStart => exact ⟨0, by omega, rfl⟩
      case round =>
        obtain ⟨k, hk, rfl⟩ := hrel
        obtain rfl | rfl : k = 0 ∨ k = 1 := by omega
        · go_wp2
          go_round
          case rel => exact ⟨1, by omega, by go_num⟩
          case measure => simp [intOf]
        · go_wp2
          go_ret
          exact ⟨ret_int HF.out.symm, rfl⟩
  · have HF : Hid (orV x y = x) := by show _ = _; unfold orV; rw [if_pos hx]
    have hxz : (x != 0) = true := by simp [hx]
    clear hx
    go_enter Tryz.func111, Tryz.ntmps111
    go_wp2
    go_loop [5, 8] (fun _ i => i = .int .i64 0) (fun _ _ => 0)
    case atStart => rfl
    case round =>
      subst hrel
      go_wp2
      go_ret
      exact ⟨ret_int HF.out.symm, rfl⟩

attribute [local go_sem ↓] Go.wp_at_zero Go.wp_at_succ
set_option maxRecDepth 100000 in
set_option maxHeartbeats 1000000 in
theorem compare_any (a b : Pt.Point) (w : World) :
    Calls Tryz.prog 92 #[.agg #[.string a.1, .int .i64 a.2.1, .int .i64 a.2.2], .agg #[.string b.1, .int .i64 b.2.1, .int .i64 b.2.2]] w fun e w' => e = .returned (.int .i64 (Pt.cmpP a b)) ∧ Below w.heap.size w w' := by
  obtain ⟨s, t, v⟩ := a
  obtain ⟨s', t', v'⟩ := b
  have H1 := fun W => Lib.hid (Tryz.strings_Compare s s' W)
  have H2 := fun W => Lib.hid (Tryz.cmp_Compare_int t t' W)
  have HD : Hid (Pt.cmpP (s, t, v) (s', t', v') = orV (Lib.compareBytes s.data.toList s'.data.toList) (Lib.compareInt t t')) := rfl
  generalize Pt.cmpP (s, t, v) (s', t', v') = res at *
  generalize Lib.compareBytes s.data.toList s'.data.toList = x at *
  generalize Lib.compareInt t t' = y at *
  go_enter Tryz.func92, Tryz.ntmps92
  go_wp2_with fail
  have hP := Blk.alloc (Blk.new w 66 #[.string s, .int .i64 t, .int .i64 v]) (.cells #[.string s', .int .i64 t', .int .i64 v'] 66)
  have hP' := Blk.new (w.alloc (.cells #[.string s, .int .i64 t, .int .i64 v] 66)) 66 #[.string s', .int .i64 t', .int .i64 v']
  have hb : Below w.heap.size w ((w.alloc (.cells #[.string s, .int .i64 t, .int .i64 v] 66)).alloc (.cells #[.string s', .int .i64 t', .int .i64 v'] 66)) := ((Below.refl _ _).alloc (Nat.le_refl _) _).alloc (by simp) _
  rw [World.size_alloc] at hP'
  have hz : ((w.alloc (.cells #[.string s, .int .i64 t, .int .i64 v] 66)).alloc (.cells #[.string s', .int .i64 t', .int .i64 v'] 66)).heap.size = w.heap.size + 2 := by simp
  have HP := Lib.hid hP
  have HP' := Lib.hid hP'
  have Hb := Lib.hid hb
  have Hz := Lib.hid hz
  clear hP hP' hb hz
  generalize (w.alloc (.cells #[.string s, .int .i64 t, .int .i64 v] 66)).alloc (.cells #[.string s', .int .i64 t', .int .i64 v'] 66) = w1 at *
  generalize hg : w.heap.size = g at *
  have Hg := Lib.hid hg
  clear hg
  have hgz : g < w1.heap.size := by have := Hz.out; omega
  have hgz' : g + 1 < w1.heap.size := by have := Hz.out; omega
  go_region_held3 (fun w' => w'.cell? ⟨g, 0, none⟩ = some (.string s) ∧ w'.cell? ⟨g, 1, none⟩ = some (.int .i64 t) ∧ w'.cell? ⟨g + 1, 0, none⟩ = some (.string s') ∧ w'.cell? ⟨g + 1, 1, none⟩ = some (.int .i64 t'))
    (first | exact ⟨HP.out.cell 0, HP.out.cell 1, HP'.out.cell 0, HP'.out.cell 1⟩ | exact ⟨(HP.out.alloc _).cell 0, (HP.out.alloc _).cell 1, (HP'.out.alloc _).cell 0, (HP'.out.alloc _).cell 1⟩)
    (first
      | (go_at_call 112; (with_reducible refine (H1 _).out.mono ?_); rintro e w' ⟨rfl, rfl⟩)
      | (go_at_call 108; (with_reducible refine (H2 _).out.mono ?_); rintro e w' ⟨rfl, rfl⟩)
      | (go_at_call 111; refine (or_any x y w1.heap.size _ (by simp) (by simp)).mono ?_; rintro e w' ⟨rfl, rfl⟩))
  go_wp2_with fail
  go_ret
  exact ⟨ret_int HD.out.symm, by rw [Hg.out]; exact (Hb.out.drew).alloc (by have := Hz.out; show g ≤ w1.heap.size; omega) _⟩

set_option maxRecDepth 100000 in
theorem less_any (a b : Pt.Point) (w : World) :
    Calls Tryz.prog 95 #[.agg #[.string a.1, .int .i64 a.2.1, .int .i64 a.2.2], .agg #[.string b.1, .int .i64 b.2.1, .int .i64 b.2.2]] w fun e w' => e = .returned (.bool (Pt.lessB a b)) ∧ Below w.heap.size w w' := by
  have H1 := fun W => Lib.hid (compare_any a b W)
  have HD : Hid (Pt.lessB a b = decide (Pt.cmpP a b < 0)) := rfl
  generalize Pt.lessB a b = res at *
  generalize Pt.cmpP a b = x at *
  go_enter Tryz.func95, Tryz.ntmps95
  go_wp2_with fail
  refine (H1 _).out.mono ?_
  rintro e w1 ⟨rfl, hb1⟩
  go_wp2_with fail
  go_ret
  exact ⟨ret_bool HD.out.symm, (((Below.refl w.heap.size w).alloc (Nat.le_refl _) _).alloc (by simp) _).trans (hb1.mono (by simp; omega))⟩

theorem below_step {a b : ByteArray} {k : Nat} (ha : k < a.size) (hb : k < b.size) (h : Lib.compareBytes a.data.toList b.data.toList = Lib.compareBytes (a.data.toList.drop k) (b.data.toList.drop k)) (he : a[k].toNat = b[k].toNat) : Lib.compareBytes a.data.toList b.data.toList = Lib.compareBytes (a.data.toList.drop (k + 1)) (b.data.toList.drop (k + 1)) := by
  have e1 : a.data.toList.drop k = a[k] :: a.data.toList.drop (k + 1) := by rw [List.drop_eq_getElem_cons (by simpa using ha)]; rfl
  have e2 : b.data.toList.drop k = b[k] :: b.data.toList.drop (k + 1) := by rw [List.drop_eq_getElem_cons (by simpa using hb)]; rfl
  rw [h, e1, e2, UInt8.toNat_inj.1 he]
  show (if b[k] < b[k] then _ else _) = _
  rw [if_neg (UInt8.lt_irrefl _), if_neg (UInt8.lt_irrefl _)]
theorem below_stop {a b : ByteArray} {k : Nat} (ha : k < a.size) (hb : k < b.size) (h : Lib.compareBytes a.data.toList b.data.toList = Lib.compareBytes (a.data.toList.drop k) (b.data.toList.drop k)) (he : ¬ a[k].toNat = b[k].toNat) : decide (Lib.compareBytes a.data.toList b.data.toList < 0) = decide (a[k].toNat < b[k].toNat) := by
  have e1 : a.data.toList.drop k = a[k] :: a.data.toList.drop (k + 1) := by rw [List.drop_eq_getElem_cons (by simpa using ha)]; rfl
  have e2 : b.data.toList.drop k = b[k] :: b.data.toList.drop (k + 1) := by rw [List.drop_eq_getElem_cons (by simpa using hb)]; rfl
  rw [h, e1, e2]
  show decide ((if a[k] < b[k] then (-1 : Int) else if b[k] < a[k] then 1 else _) < 0) = _
  simp only [UInt8.lt_iff_toNat_lt]
  by_cases h1 : a[k].toNat < b[k].toNat
  · rw [if_pos h1]; simp [h1]
  · rw [if_neg h1, if_pos (by omega)]; simp [h1]
theorem below_end {a b : ByteArray} {k : Nat} (h : Lib.compareBytes a.data.toList b.data.toList = Lib.compareBytes (a.data.toList.drop k) (b.data.toList.drop k)) (ha : k ≤ a.size) (hb : k ≤ b.size) (he : ¬ k < a.size ∨ ¬ k < b.size) : decide (Lib.compareBytes a.data.toList b.data.toList < 0) = decide (a.size < b.size) := by
  rw [h]
  have l1 : (a.data.toList.drop k).length = a.size - k := by simp
  have l2 : (b.data.toList.drop k).length = b.size - k := by simp
  generalize a.data.toList.drop k = x at *
  generalize b.data.toList.drop k = y at *
  cases x with
  | nil =>
    cases y with
    | nil => simp at l1 l2; simp [Lib.compareBytes]; omega
    | cons c y => simp at l1 l2; simp [Lib.compareBytes]; omega
  | cons c x =>
    cases y with
    | nil => simp at l1 l2; simp [Lib.compareBytes]; omega
    | cons d y => simp at l1 l2; omega
set_option maxRecDepth 100000 in
set_option maxHeartbeats 800000 in
theorem rbelow_any (a b : ByteArray) (w : World) (ha : a.size ≤ 9223372036854775807) (hb : b.size ≤ 9223372036854775807) :
    Calls Tryz.prog 98 #[.string a, .string b] w fun e w' => e = .returned (.bool (decide (Lib.compareBytes a.data.toList b.data.toList < 0))) ∧ ∃ n, w' = w.drewN n := by
  obtain ⟨cb, hcb⟩ : ∃ cb, Lib.compareBytes a.data.toList b.data.toList = cb := ⟨_, rfl⟩
  obtain ⟨res, hres⟩ : ∃ res, decide (Lib.compareBytes a.data.toList b.data.toList < 0) = res := ⟨_, rfl⟩
  rw [hres]
  have Hres := Lib.hid hres
  clear hres hcb
  go_enter Tryz.func98, Tryz.ntmps98
  go_wp2
  go_loopw [5] (fun i wr => ∃ k n : Nat, k ≤ a.size ∧ k ≤ b.size ∧ i = .int .i64 (k : Int) ∧ wr = w.drewN n ∧ Hid (Lib.compareBytes a.data.toList b.data.toList = Lib.compareBytes (a.data.toList.drop k) (b.data.toList.drop k))) (fun i _ => a.size - (intOf i).toNat)
  case atStart => exact ⟨0, 0, Nat.zero_le _, Nat.zero_le _, rfl, rfl, Lib.hid (by simp)⟩
  case round =>
    obtain ⟨k, n, hka, hkb, rfl, rfl, hc⟩ := hrel
    by_cases h1 : k < a.size
    · by_cases h2 : k < b.size
      · have hi0 : (0 : Int) ≤ (k : Int) := by omega
        have hi1 : (k : Int) < (a.size : Int) := by omega
        have hi2 : (k : Int) < (b.size : Int) := by omega
        by_cases he : a[k].toNat = b[k].toNat
        · have hC := Lib.hid (below_step h1 h2 hc.out he)
          have hne : ((a[k].toNat : Int) != (b[k].toNat : Int)) = false := by simp [he]
          clear hc he Hres
          go_wp2
          go_quiet (fail)
          go_wp2
          go_roundw
          case rel => exact ⟨k + 1, n + nq, by omega, by omega, by go_num, rfl, hC⟩
          case measure => simp [intOf]; omega
        · have hC := Lib.hid (below_stop h1 h2 hc.out he)
          have hne : ((a[k].toNat : Int) != (b[k].toNat : Int)) = true := by simp; omega
          clear hc he
          go_wp2
          go_quiet (fail)
          go_wp2
          go_quiet (fail)
          go_wp2
          go_ret
          exact ⟨ret_bool (by rw [← Hres.out, hC.out] <;> first | rfl | (rw [decide_eq_decide]; omega)), _, by rw [World.drewN_drewN, World.drewN_drewN]⟩
      · have hC := Lib.hid (below_end hc.out hka hkb (.inr h2))
        clear hc
        go_wp2
        go_ret
        exact ⟨ret_bool (by rw [← Hres.out, hC.out] <;> first | rfl | (rw [decide_eq_decide]; omega)), _, rfl⟩
    · have hC := Lib.hid (below_end hc.out hka hkb (.inl h1))
      clear hc
      go_wp2
      go_ret
      exact ⟨ret_bool (by rw [← Hres.out, hC.out] <;> first | rfl | (rw [decide_eq_decide]; omega)), _, rfl⟩

set_option maxRecDepth 100000 in
set_option maxHeartbeats 400000 in
theorem rless_any (a b : Pt.Point) (w : World) (ha : a.1.size ≤ 9223372036854775807) (hb : b.1.size ≤ 9223372036854775807) :
    Calls Tryz.prog 77 #[.agg #[.string a.1, .int .i64 a.2.1, .int .i64 a.2.2], .agg #[.string b.1, .int .i64 b.2.1, .int .i64 b.2.2]] w fun e w' => e = .returned (.bool (Pt.lessB a b)) ∧ Below w.heap.size w w' := by
  obtain ⟨s, t, v⟩ := a
  obtain ⟨s', t', v'⟩ := b
  have H1 := fun W => Lib.hid (rbelow_any s s' W ha hb)
  have HD := less_ref (s, t, v) (s', t', v')
  simp only at HD ha hb
  generalize Pt.lessB (s, t, v) (s', t', v') = res at *
  have hbl := ((Below.refl w.heap.size w).alloc (Nat.le_refl _) (.cells #[.string s, .int .i64 t, .int .i64 v] 66)).alloc (by simp) (.cells #[.string s', .int .i64 t', .int .i64 v'] 66)
  by_cases hs : s = s'
  · subst hs
    have HF : Hid (res = decide (t < t')) := by rw [if_neg (by simp)] at HD; exact HD
    clear HD
    go_enter Tryz.func77, Tryz.ntmps77
    go_wp2_with fail
    go_ret
    exact ⟨ret_bool HF.out.symm, hbl⟩
  · have HF : Hid (res = decide (Lib.compareBytes s.data.toList s'.data.toList < 0)) := by rw [if_pos hs] at HD; exact HD
    clear HD
    generalize decide (Lib.compareBytes s.data.toList s'.data.toList < 0) = r1 at *
    have hne : (s.toList == s'.toList) = false := by
      rw [beq_eq_false_iff_ne, Lib.toList_data, Lib.toList_data]
      exact fun e => hs (list_inj e)
    go_enter Tryz.func77, Tryz.ntmps77
    go_wp2_with fail
    refine (H1 _).out.mono ?_
    rintro e w1 ⟨rfl, n1, rfl⟩
    go_wp2_with fail
    go_ret
    exact ⟨ret_bool HF.out.symm, below_drewN hbl _⟩
end Go.Proofs.YtmnigoibbcigdaaGreat
/- Worlds behind some new memory, as a class for a region that draws its order and whose calls make memory but answer the same whatever the order. -/
namespace Go.Proofs.YtmnigoibbcigdaaGreat
open Go.RowKit

/-- a world that is as W was below block B -/
structure Aft (B : Nat) (W : World) where
  world : World
  below : Below B W world
instance (B : Nat) (W : World) : Nonempty (Aft B W) := ⟨⟨W, Below.refl B W⟩⟩

section
variable {P : Program} {B : Nat} {W : World}
theorem wp_region_aft (B : Nat) (W : World) {id : Nat} {Q : Exit → Act → World → Prop} {a : Act} {w : World} {l : List Oper} (hm : P.follows .mixedOrders = true) (hB : Region.lexB .any l.toArray = true) (hb : Below B W w)
    (h : wpQuiet P l.toArray (fun w' => ∃ x : Aft B W, w' = x.world) (fun a' => ∀ w', (∃ x : Aft B W, w' = x.world) → Q .normal a' w') l a) : (Code.region id l.toArray true).wp P Q a w :=
  wp_region_quiet (C := fun w' => ∃ x : Aft B W, w' = x.world) hm hB ⟨⟨w.drew, hb.drew⟩, rfl⟩ (by simpa using h)
variable {f : FuncId} {args : Array Value} {v : Value} {x : Aft B W}
/-- a call that makes memory -/
theorem aft_new (hB : B ≤ W.heap.size) (h : Calls P f args x.world fun e w' => e = .returned v ∧ Below x.world.heap.size x.world w') : Calls P f args x.world fun e w'' => e = .returned v ∧ ∃ y : Aft B W, w'' = y.world :=
  h.mono fun _ w' ⟨he, hb⟩ => ⟨he, ⟨w', x.below.trans (hb.mono (Nat.le_trans hB x.below.size))⟩, rfl⟩
/-- a call that leaves the world -/
theorem aft_same (h : Calls P f args x.world fun e w' => e = .returned v ∧ x.world = w') : Calls P f args x.world fun e w'' => e = .returned v ∧ ∃ y : Aft B W, w'' = y.world :=
  h.mono fun _ _ ⟨he, hb⟩ => ⟨he, x, hb.symm⟩
/-- a call that draws -/
theorem aft_drew (h : Calls P f args x.world fun e w' => e = .returned v ∧ ∃ n, w' = x.world.drewN n) : Calls P f args x.world fun e w'' => e = .returned v ∧ ∃ y : Aft B W, w'' = y.world :=
  h.mono fun _ _ ⟨he, n, hb⟩ => ⟨he, ⟨_, below_drewN x.below n⟩, hb⟩
theorem Aft.cell (x : Aft B W) {p : Addr} (hp : p.block < B) : x.world.cell? p = W.cell? p := x.below.cell hp
theorem Aft.reads (x : Aft B W) {size n : Nat} {A : Option Addr} {xs : List Value} (h : Reads W B size A n xs) : Reads x.world B size A n xs := h.below x.below
end
end Go.Proofs.YtmnigoibbcigdaaGreat
/- The place of a point in a sorted buffer: plain, and the walk through BinarySearchFunc at points (chapter 11). -/
namespace Go.Proofs.YtmnigoibbcigdaaGreat
open Go.RowKit
set_option linter.unusedVariables false

theorem cmp_iff (a b : Pt.Point) : Pt.cmpP a b < 0 ↔ Lib.compareBytes a.1.data.toList b.1.data.toList < 0 ∨ (a.1 = b.1 ∧ a.2.1 < b.2.1) := by
  have h := less_ref a b
  unfold Pt.lessB at h
  by_cases e : a.1 = b.1
  · rw [if_neg (by simp [e])] at h
    have h' := decide_eq_decide.1 h
    rw [h', e, cb_self]; simp
  · rw [if_pos e] at h
    have h' := decide_eq_decide.1 h
    rw [h']; simp [e]
theorem cmp_trans {a b c : Pt.Point} (h : Pt.cmpP a b < 0) (k : Pt.cmpP b c < 0) : Pt.cmpP a c < 0 := by
  rw [cmp_iff] at h k ⊢
  have one : ∀ x y : List UInt8, Lib.compareBytes x y < 0 → Lib.compareBytes x y = -1 := fun x y q => by rcases cb_cases x y with e | e | e <;> omega
  rcases h with h | ⟨h1, h2⟩ <;> rcases k with k | ⟨k1, k2⟩
  · left; rw [cb_trans (one _ _ h) (one _ _ k)]; omega
  · left; rw [← k1]; exact h
  · left; rw [h1]; exact k
  · right; exact ⟨h1.trans k1, by omega⟩
def Ig.lo (ps : List Pt.Point) (p : Pt.Point) : Nat := ps.findIdx fun q => decide (¬ Pt.cmpP q p < 0)
def Ig.z0 : Pt.Point := (⟨#[]⟩, 0, 0)
def Ig.has (ps : List Pt.Point) (p : Pt.Point) : Bool := decide (Ig.lo ps p < ps.length) && decide (Pt.cmpP (ps.getD (Ig.lo ps p) Ig.z0) p = 0)
def Ig.Sorted (ps : List Pt.Point) : Prop := ∀ i j (hij : i < j) (hj : j < ps.length), Pt.cmpP (ps[i]'(by omega)) ps[j] < 0
theorem Ig.lo_of {ps : List Pt.Point} {p : Pt.Point} {k : Nat} (hk : k ≤ ps.length) (ha : ∀ j (hj : j < k), Pt.cmpP (ps[j]'(by omega)) p < 0) (hb : ∀ h : k < ps.length, ¬ Pt.cmpP ps[k] p < 0) : Ig.lo ps p = k := by
  unfold Ig.lo
  by_cases h : k < ps.length
  · rw [List.findIdx_eq h]
    exact ⟨by simpa using hb h, fun j hj => by simpa using ha j hj⟩
  · obtain rfl : k = ps.length := by omega
    rw [List.findIdx_eq_length]
    intro w hw
    obtain ⟨j, hj, rfl⟩ := List.getElem_of_mem hw
    simpa using ha j hj
theorem Ig.has_at {ps : List Pt.Point} {p : Pt.Point} {k : Nat} (h : Ig.lo ps p = k) (hk : k < ps.length) : Ig.has ps p = decide (Pt.cmpP ps[k] p = 0) := by
  unfold Ig.has
  rw [h, decide_eq_true hk, List.getD_eq_getElem?_getD, List.getElem?_eq_getElem hk]; rfl
theorem Ig.has_end {ps : List Pt.Point} {p : Pt.Point} {k : Nat} (h : Ig.lo ps p = k) (hk : ¬ k < ps.length) : Ig.has ps p = false := by
  unfold Ig.has
  rw [h, decide_eq_false hk]; rfl
def BsPPost (w : World) (k : Nat) (b : Bool) (e : Ending) (w' : World) : Prop := e = .returned (.tuple #[.int .i64 (k : Int), .bool b]) ∧ Below w.heap.size w w'
set_option maxRecDepth 100000 in
set_option maxHeartbeats 1000000 in
theorem bsP_any (A : Option Addr) (c : Nat) (ps : List Pt.Point) (p : Pt.Point) (w : World) (B : Nat) (hr : Reads w B 3 A ps.length (ps.flatMap pointCells)) (hB : B ≤ w.heap.size) (hn : ps.length ≤ 1000000) (hs : Ig.Sorted ps) :
    Calls Tryz.prog 91 #[.slice A ps.length c, .agg #[.string p.1, .int .i64 p.2.1, .int .i64 p.2.2], .func (.func 92) #[] #[]] w (BsPPost w (Ig.lo ps p) (Ig.has ps p)) := by
  obtain ⟨pn, pt, pv⟩ := p
  have HR := Lib.hid hr
  have HS := Lib.hid hs
  have HLo := Lib.hid (fun k hk ha hb => @Ig.lo_of ps (pn, pt, pv) k hk ha hb)
  have HHa := Lib.hid (fun k h hk => @Ig.has_at ps (pn, pt, pv) k h hk)
  have HHe := Lib.hid (fun k h hk => @Ig.has_end ps (pn, pt, pv) k h hk)
  clear hr hs
  generalize Ig.lo ps (pn, pt, pv) = res at *
  generalize Ig.has ps (pn, pt, pv) = fnd at *
  go_enter Tryz.func91, Tryz.ntmps91
  go_wp2_with fail
  have hP := Blk.new w 66 #[.string pn, .int .i64 pt, .int .i64 pv]
  have hb1 : Below w.heap.size w (w.alloc (.cells #[.string pn, .int .i64 pt, .int .i64 pv] 66)) := (Below.refl _ _).alloc (Nat.le_refl _) _
  have HP := Lib.hid hP
  have Hb1 := Lib.hid hb1
  clear hP hb1
  generalize w.alloc (.cells #[.string pn, .int .i64 pt, .int .i64 pv] 66) = w1 at *
  go_loopw [9, 10, 11] (fun x y _ wr => ∃ i j : Nat, i ≤ j ∧ j ≤ ps.length ∧ x = .int .i64 (i : Int) ∧ y = .int .i64 (j : Int) ∧ Hid (∀ q (hq : q < ps.length), q < i → Pt.cmpP ps[q] (pn, pt, pv) < 0) ∧ Hid (∀ q (hq : q < ps.length), j ≤ q → 0 ≤ Pt.cmpP ps[q] (pn, pt, pv)) ∧ Hid (Blk wr w.heap.size 66 #[.string pn, .int .i64 pt, .int .i64 pv]) ∧ Hid (Below w.heap.size w wr)) (fun x y _ _ => (intOf y - intOf x).toNat)
  case atStart => exact ⟨0, ps.length, Nat.zero_le _, Nat.le_refl _, rfl, rfl, Lib.hid (fun _ _ h => absurd h (by omega)), Lib.hid (fun _ _ h => absurd h (by omega)), HP, Hb1⟩
  case round =>
    obtain ⟨i, j, hij, hj, rfl, rfl, ha, hb, hPw, hbw⟩ := hrel
    have hsw := hbw.out.size
    have hx := fun x : Aft wr.heap.size wr => pt3_of (Blk.below hPw.out x.below hPw.out.lt)
    have hx0 := fun x => (hx x).1
    have hx1 := fun x => (hx x).2.1
    have hx2 := fun x => (hx x).2.2
    by_cases hlt : i < j
    · obtain ⟨h, hh⟩ : ∃ h, h = (i + j) / 2 := ⟨_, rfl⟩
      have hhl : h < ps.length := by omega
      have hih : i ≤ h ∧ h < j := by omega
      have hhI : ((i : Int) + (j : Int)) / 2 = (h : Int) := by omega
      have hq0 : (0 : Int) ≤ (h : Int) := by omega
      have hq1 : (h : Int) < (ps.length : Int) := by omega
      obtain ⟨b, off, rfl, hbl, hc⟩ := HR.out.2 (by omega)
      have hpv := fun x : Aft wr.heap.size wr => pt_cells (wr := x.world) hhl hc (fun p hp => (x.below.cell (p := p) (by omega)).trans (hbw.out.cell (p := p) (by omega))) hbl
      have hy0 := fun x => (hpv x).1
      have hy1 := fun x => (hpv x).2.1
      have hy2 := fun x => (hpv x).2.2
      have HSh := Lib.hid (fun q (hq : q < ps.length) (hqh : q < h) => HS.out q h hqh hhl)
      have HSg : Hid (∀ q (hq : q < ps.length), h < q → Pt.cmpP ps[h] ps[q] < 0) := fun q hq hqh => HS.out h q hqh hq
      have H1 := fun W => Lib.hid (compare_any ps[h] (pn, pt, pv) W)
      have hF1 : Hid (Pt.cmpP ps[h] (pn, pt, pv) < 0 → ∀ q (hq : q < ps.length), q < h + 1 → Pt.cmpP ps[q] (pn, pt, pv) < 0) := fun hm q hq hqh => by
        by_cases e : q = h
        · subst e; exact hm
        · exact cmp_trans (HSh.out q hq (by omega)) hm
      have hF2 : Hid (¬ Pt.cmpP ps[h] (pn, pt, pv) < 0 → ∀ q (hq : q < ps.length), h ≤ q → 0 ≤ Pt.cmpP ps[q] (pn, pt, pv)) := fun hm q hq hqh => by
        by_cases e : q = h
        · subst e; omega
        · have : ¬ Pt.cmpP ps[q] (pn, pt, pv) < 0 := fun k => hm (cmp_trans (HSg.out q hq (by omega)) k)
          omega
      clear hc hh HSh HSg hpv hx HR
      generalize Pt.cmpP ps[h] (pn, pt, pv) = cv at *
      generalize ps[h].1 = nm at *
      generalize ps[h].2.1 = tm at *
      generalize ps[h].2.2 = vm at *
      by_cases hm : cv < 0
      · have hF := Lib.hid (hF1.out hm)
        clear hF1 hF2 ha
        go_wp2_with fail
        refine wp_region_aft wr.heap.size wr (by kernel_rfl) (by kernel_rfl) (Below.refl _ _) ?_
        repeat (go_big_quiet_step (first | (go_at_call 92; with_reducible exact aft_new (Nat.le_refl _) (Hid.out (H1 _)))))
        refine wpQuiet_nil ?_
        rintro _ ⟨x, rfl⟩
        have Hx : Hid (Below w.heap.size w x.world) := hbw.out.trans (x.below.mono hsw)
        have HPx := Lib.hid (Blk.below hPw.out x.below hPw.out.lt)
        clear hx0 hx1 hx2 hy0 hy1 hy2
        generalize x.world = w3 at *
        go_wp2_with fail
        go_roundw
        case rel => exact ⟨h + 1, j, by omega, hj, by go_num, rfl, hF, hb, HPx, Hx⟩
        case measure => simp [intOf]; omega
      · have hF := Lib.hid (hF2.out hm)
        clear hF1 hF2 hb
        go_wp2_with fail
        refine wp_region_aft wr.heap.size wr (by kernel_rfl) (by kernel_rfl) (Below.refl _ _) ?_
        repeat (go_big_quiet_step (first | (go_at_call 92; with_reducible exact aft_new (Nat.le_refl _) (Hid.out (H1 _)))))
        refine wpQuiet_nil ?_
        rintro _ ⟨x, rfl⟩
        have Hx : Hid (Below w.heap.size w x.world) := hbw.out.trans (x.below.mono hsw)
        have HPx := Lib.hid (Blk.below hPw.out x.below hPw.out.lt)
        clear hx0 hx1 hx2 hy0 hy1 hy2
        generalize x.world = w3 at *
        go_wp2_with fail
        go_roundw
        case rel => exact ⟨i, h, by omega, by omega, rfl, by go_num, ha, hF, HPx, Hx⟩
        case measure => simp [intOf]; omega
    · obtain rfl : i = j := by omega
      have hFr := HLo.out i hj (fun q hq => ha.out q (by omega) hq) (fun h => by have := hb.out i h (Nat.le_refl _); omega)
      have hF := Lib.hid hFr
      by_cases hil : i < ps.length
      · have hFd := Lib.hid (HHa.out i hFr hil)
        obtain ⟨b, off, rfl, hbl, hc⟩ := HR.out.2 (by omega)
        have hpv := fun x : Aft wr.heap.size wr => pt_cells (wr := x.world) hil hc (fun p hp => (x.below.cell (p := p) (by omega)).trans (hbw.out.cell (p := p) (by omega))) hbl
        have hy0 := fun x => (hpv x).1
        have hy1 := fun x => (hpv x).2.1
        have hy2 := fun x => (hpv x).2.2
        have H1 := fun W => Lib.hid (compare_any ps[i] (pn, pt, pv) W)
        have hd : decide ((i : Int) < (ps.length : Int)) = true := decide_eq_true (by omega)
        have hq0 : (0 : Int) ≤ (i : Int) := by omega
        have hq1 : (i : Int) < (ps.length : Int) := by omega
        clear hc hpv hx HR ha hb HLo HHa HHe hFr
        generalize Pt.cmpP ps[i] (pn, pt, pv) = cv at *
        generalize ps[i].1 = nm at *
        generalize ps[i].2.1 = tm at *
        generalize ps[i].2.2 = vm at *
        by_cases hm : cv = 0
        · have hmb : (cv == 0) = true := by simp [hm]
          go_wp2_with fail
          refine wp_region_aft wr.heap.size wr (by kernel_rfl) (by kernel_rfl) (Below.refl _ _) ?_
          repeat (go_big_quiet_step (first | (go_at_call 92; with_reducible exact aft_new (Nat.le_refl _) (Hid.out (H1 _)))))
          refine wpQuiet_nil ?_
          rintro _ ⟨x, rfl⟩
          have Hx : Hid (Below w.heap.size w x.world) := hbw.out.trans (x.below.mono hsw)
          clear hx0 hx1 hx2 hy0 hy1 hy2
          generalize x.world = w3 at *
          go_wp2_with fail
          go_ret2
          exact ⟨by rw [hF.out, hFd.out, decide_eq_true hm]; rfl, Hx.out⟩
        · have hmb : (cv == 0) = false := by simp [hm]
          go_wp2_with fail
          refine wp_region_aft wr.heap.size wr (by kernel_rfl) (by kernel_rfl) (Below.refl _ _) ?_
          repeat (go_big_quiet_step (first | (go_at_call 92; with_reducible exact aft_new (Nat.le_refl _) (Hid.out (H1 _)))))
          refine wpQuiet_nil ?_
          rintro _ ⟨x, rfl⟩
          have Hx : Hid (Below w.heap.size w x.world) := hbw.out.trans (x.below.mono hsw)
          clear hx0 hx1 hx2 hy0 hy1 hy2
          generalize x.world = w3 at *
          go_wp2_with fail
          go_ret2
          exact ⟨by rw [hF.out, hFd.out, decide_eq_false hm]; rfl, Hx.out⟩
      · have hFd := Lib.hid (HHe.out i hFr hil)
        have hd : decide ((i : Int) < (ps.length : Int)) = false := decide_eq_false (by omega)
        clear ha hb HLo HHa HHe hFr hx HR
        go_wp2_with fail
        refine wp_region_aft wr.heap.size wr (by kernel_rfl) (by kernel_rfl) (Below.refl _ _) ?_
        repeat (go_big_quiet_step (fail))
        refine wpQuiet_nil ?_
        rintro _ ⟨x, rfl⟩
        have Hx : Hid (Below w.heap.size w x.world) := hbw.out.trans (x.below.mono hsw)
        clear hx0 hx1 hx2
        generalize x.world = w3 at *
        go_wp2_with fail
        go_ret2
        exact ⟨by rw [hF.out, hFd.out]; rfl, Hx.out⟩
end Go.Proofs.YtmnigoibbcigdaaGreat
/- A sorted buffer takes points: plain (chapter 11). -/
namespace Go.Proofs.YtmnigoibbcigdaaGreat
set_option linter.unusedVariables false

theorem compareInt_neg (x y : Int) : Lib.compareInt y x = -Lib.compareInt x y := by
  unfold Lib.compareInt
  by_cases h1 : x < y
  · rw [if_pos h1, if_neg (by omega), if_pos h1]; rfl
  · by_cases h2 : y < x
    · rw [if_pos h2, if_neg h1, if_pos h2]
    · rw [if_neg h2, if_neg h1, if_neg h1, if_neg h2]; rfl
theorem cmp_neg (a b : Pt.Point) : Pt.cmpP b a = -Pt.cmpP a b := by
  unfold Pt.cmpP orV
  rw [cb_neg a.1.data.toList b.1.data.toList, compareInt_neg a.2.1 b.2.1]
  by_cases h : Lib.compareBytes a.1.data.toList b.1.data.toList = 0
  · simp [h]
  · have h' : -Lib.compareBytes a.1.data.toList b.1.data.toList ≠ 0 := by omega
    simp [h]
theorem cmp_same {a b : Pt.Point} (h : Pt.cmpP a b = 0) : a.1 = b.1 ∧ a.2.1 = b.2.1 := by
  have h1 : ¬ Pt.cmpP a b < 0 := by omega
  have h2 : ¬ Pt.cmpP b a < 0 := by rw [cmp_neg]; omega
  rw [cmp_iff] at h1 h2
  have hz : Lib.compareBytes a.1.data.toList b.1.data.toList = 0 := by
    have n := cb_neg a.1.data.toList b.1.data.toList
    rcases cb_cases a.1.data.toList b.1.data.toList with e | e | e
    · exact absurd (.inl (by omega)) h1
    · exact e
    · exact absurd (.inl (by omega)) h2
  have he := list_inj (cb_zero hz)
  refine ⟨he, ?_⟩
  have g1 : ¬ a.2.1 < b.2.1 := fun q => h1 (.inr ⟨he, q⟩)
  have g2 : ¬ b.2.1 < a.2.1 := fun q => h2 (.inr ⟨he.symm, q⟩)
  omega
theorem cmp_left {a b c : Pt.Point} (h : Pt.cmpP a b = 0) : Pt.cmpP a c = Pt.cmpP b c := by
  obtain ⟨h1, h2⟩ := cmp_same h
  unfold Pt.cmpP; rw [h1, h2]
theorem cmp_right {a b c : Pt.Point} (h : Pt.cmpP a b = 0) : Pt.cmpP c a = Pt.cmpP c b := by
  rw [cmp_neg a c, cmp_neg b c, cmp_left h]
namespace Ig
/-- a point into a sorted buffer, in the place of one that is like it -/
def setP (ps : List Pt.Point) (p : Pt.Point) : List Pt.Point := if has ps p = true then ps.set (lo ps p) p else ps.take (lo ps p) ++ p :: ps.drop (lo ps p)
def setAll (ps qs : List Pt.Point) : List Pt.Point := qs.foldl setP ps
theorem lo_le (ps : List Pt.Point) (p : Pt.Point) : lo ps p ≤ ps.length := List.findIdx_le_length
theorem lo_ahead {ps : List Pt.Point} {p : Pt.Point} (j : Nat) (hj : j < lo ps p) : Pt.cmpP (ps[j]'(by have := lo_le ps p; omega)) p < 0 := by
  have := List.not_of_lt_findIdx hj
  simpa using this
theorem lo_behind {ps : List Pt.Point} {p : Pt.Point} (h : lo ps p < ps.length) : ¬ Pt.cmpP ps[lo ps p] p < 0 := by
  have := List.findIdx_getElem (w := h)
  exact of_decide_eq_true this
theorem has_lt {ps : List Pt.Point} {p : Pt.Point} (h : has ps p = true) : ∃ hl : lo ps p < ps.length, Pt.cmpP ps[lo ps p] p = 0 := by
  by_cases hl : lo ps p < ps.length
  · rw [has_at rfl hl] at h
    exact ⟨hl, of_decide_eq_true h⟩
  · rw [has_end rfl hl] at h; cases h
theorem sorted_pair {ps : List Pt.Point} : Sorted ps ↔ ps.Pairwise fun a b => Pt.cmpP a b < 0 := by
  rw [List.pairwise_iff_getElem]
  exact ⟨fun h i j hi hj hij => h i j hij hj, fun h i j hij hj => h i j (by omega) hj hij⟩
theorem sorted_nil : Sorted [] := fun i j hij hj => absurd hj (by simp)
theorem setP_sorted {ps : List Pt.Point} {p : Pt.Point} (h : Sorted ps) : Sorted (setP ps p) := by
  unfold setP
  split
  · rename_i hh
    obtain ⟨hl, h0⟩ := has_lt hh
    intro i j hij hj
    rw [List.length_set] at hj
    rw [List.getElem_set, List.getElem_set]
    by_cases e1 : lo ps p = i
    · subst e1
      rw [if_pos rfl, if_neg (by omega), ← cmp_left h0]
      exact h _ j hij hj
    · rw [if_neg e1]
      by_cases e2 : lo ps p = j
      · subst e2
        rw [if_pos rfl, ← cmp_right h0]
        exact h i _ hij hj
      · rw [if_neg e2]; exact h i j hij hj
  · rename_i hh
    have hno : ∀ hl : lo ps p < ps.length, Pt.cmpP p ps[lo ps p] < 0 := fun hl => by
      have h1 := lo_behind hl
      have h2 : Pt.cmpP ps[lo ps p] p ≠ 0 := fun e => hh (by rw [has_at rfl hl]; exact decide_eq_true e)
      rw [cmp_neg]; omega
    rw [sorted_pair] at h ⊢
    rw [List.pairwise_append, List.pairwise_cons]
    refine ⟨h.sublist (List.take_sublist _ _), ⟨?_, h.sublist (List.drop_sublist _ _)⟩, ?_⟩
    · intro r hr
      obtain ⟨j, hj, rfl⟩ := List.getElem_of_mem hr
      rw [List.length_drop] at hj
      rw [List.getElem_drop]
      have hb := hno (by omega)
      by_cases e : j = 0
      · subst e; simpa using hb
      · exact cmp_trans hb (sorted_pair.2 h _ (lo ps p + j) (by omega) (by omega))
    · intro a ha b hb
      obtain ⟨i, hi, rfl⟩ := List.getElem_of_mem ha
      rw [List.length_take] at hi
      rw [List.getElem_take]
      have h1 := lo_ahead (ps := ps) (p := p) i (by omega)
      rcases List.mem_cons.1 hb with rfl | hb
      · exact h1
      · obtain ⟨j, hj, rfl⟩ := List.getElem_of_mem hb
        rw [List.length_drop] at hj
        rw [List.getElem_drop]
        exact sorted_pair.2 h i (lo ps p + j) (by omega) (by omega)
theorem setP_len (ps : List Pt.Point) (p : Pt.Point) : (setP ps p).length ≤ ps.length + 1 := by
  unfold setP
  have := lo_le ps p
  split
  · rw [List.length_set]; omega
  · simp; omega
theorem setAll_snoc (ps qs : List Pt.Point) (k : Nat) (hk : k < qs.length) : setAll ps (qs.take (k + 1)) = setP (setAll ps (qs.take k)) qs[k] := by
  unfold setAll
  rw [List.take_succ_eq_append_getElem hk, List.foldl_append]; rfl
theorem setAll_sorted {ps : List Pt.Point} (h : Sorted ps) (qs : List Pt.Point) : Sorted (setAll ps qs) := by
  unfold setAll
  induction qs generalizing ps with
  | nil => exact h
  | cons q qs ih => exact ih (setP_sorted h)
theorem setAll_len (ps qs : List Pt.Point) : (setAll ps qs).length ≤ ps.length + qs.length := by
  unfold setAll
  induction qs generalizing ps with
  | nil => simp
  | cons q qs ih =>
    have h1 := ih (setP ps q)
    have h2 := setP_len ps q
    simp only [List.foldl_cons, List.length_cons]; omega
end Ig
end Go.Proofs.YtmnigoibbcigdaaGreat
