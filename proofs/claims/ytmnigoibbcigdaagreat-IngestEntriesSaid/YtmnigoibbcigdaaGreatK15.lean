/- Joined texts: RmCopy. -/
import Derived.Test.YtmnigoibbcigdaaGreatK2
import Derived.Test.YtmnigoibbcigdaaGreatK4
import Derived.Deep.RegionHeld3
import Derived.Deep.DeepCutAuto
/- The walk through Copy of the reference's machine (chapter 11). -/
namespace Go.Proofs.YtmnigoibbcigdaaGreat
open Go.RowKit
set_option linter.unusedVariables false

def RCopyPost (w : World) (m : Ig.M) (e : Ending) (w' : World) : Prop :=
  ∃ g vr vo vd vs, e = .returned (.pointer (some ⟨g, 0, none⟩)) ∧ RMach w' w.heap.size g m vr vo vd vs ∧ Below w.heap.size w w'
/-- rows of other element types are as they were -/
def Apart (base : Nat) (e : TypeId) (w w' : World) : Prop := ∀ (e' : TypeId) (size n : Nat) (v : Value) (xs : List Value), e' ≠ e → w.ownsRow base e' size v n xs → w'.ownsRow base e' size v n xs
section
variable {P : Program} {ops : Array Oper} {o : Oper} {a : Act} {w w0 : World} {K : Act → World → Prop} {Q : Exit → Act → World → Prop} {E : Prop}
/-- append([]T{}, x...) in a region -/
theorem step_app (hgd : o.guard = none) (s x : Operand) (t : TypeId) (ho : o.op = .call { callee := .builtin .append, args := #[s, x], argTypes := #[t, t] })
    (base : Nat) (e : TypeId) (i : TypeInfo) (z : Value) (size bytes : Nat) (ht : P.underlying t = some (.slice e)) (hi : P.info? e = some i) (hz : i.zero = some z)
    (hsize : i.size = size) (hby : i.bytes = bytes) (hzs : z.cells.size = size) (hsz : 0 < size)
    (n0 : Nat) (hs : a.eval s = .slice (some ⟨n0, 0, none⟩) 0 0) (hown : w.ownsRow base e size (.slice (some ⟨n0, 0, none⟩) 0 0) 0 []) (A : Option Addr) (n c : Nat) (xs : List Value) (hx : a.eval x = .slice A n c)
    (hr : ∀ W, Below base w0 W → Reads W base size A n xs) (h1 : ∀ u ∈ xs, u.oneCell' = true) (hmax : n ≤ 4000000) (hbytes : bytes ≤ 1000) (hb : Below base w0 w) (hbase : base ≤ w0.heap.size)
    (h : ∀ A' c' w', w'.ownsRow base e size (.slice A' n c') n xs → Apart base e w w' → Below base w0 w' → K (a.put o.dst (.slice A' n c')) w') :
    if Region.wanted o (yielded ops a.tmps) = true then Oper.wp P o a w K Q else E := by
  have hw : Region.wanted o (yielded ops a.tmps) = true := by simp [Region.wanted, hgd]
  rw [if_pos hw]
  have hB : base ≤ w.heap.size := Nat.le_trans hbase hb.size
  have hm : (0 + n) * bytes ≤ 140737488355328 := by
    have : n * bytes ≤ 4000000 * 1000 := Nat.mul_le_mul hmax hbytes
    rw [Nat.zero_add]; omega
  refine wp_append_all w s x t ho base e i z size bytes ht hi hz hsize hby hzs hsz _ 0 [] hs hown base A n c xs hx (hr w hb) h1 (by unfold maxLen; omega) hm hB ?_
  intro v' w' hown' hg hat
  rw [Nat.zero_add, List.nil_append] at hown'
  obtain ⟨A', c', rfl, _, _⟩ := own_slice hown'
  refine h A' c' w' hown' ?_ (hb.grown hg hB (fun g hg' => (hown.lt g hg').1))
  intro e' size' n' v'' xs' hne h'
  refine h'.kept hg ?_
  rcases own_own_ne h' hown hne with q | q
  · exact .inl q
  · exact .inr q
end
theorem below_alloc {w0 X : World} (h : Below w0.heap.size w0 X) (o : Obj) : Below w0.heap.size w0 (X.alloc o) := h.alloc h.size o
theorem own_alloc {w : World} {base : Nat} {e : TypeId} {size n : Nat} {v : Value} {xs : List Value} (h : w.ownsRow base e size v n xs) (o : Obj) : (w.alloc o).ownsRow base e size v n xs := h.alloc o
theorem own_drew {w : World} {base : Nat} {e : TypeId} {size n : Nat} {v : Value} {xs : List Value} (h : w.ownsRow base e size v n xs) : w.drew.ownsRow base e size v n xs := h.drew
theorem own_at {w0 X : World} {e : TypeId} {size n : Nat} (hn : n = X.heap.size) (hb : Below w0.heap.size w0 X) : (X.alloc (.cells #[] e)).ownsRow w0.heap.size e size (.slice (some ⟨n, 0, none⟩) 0 0) 0 [] := by
  subst hn; exact own_empty X w0.heap.size e size hb.size
theorem rcopy_fin {w X : World} {m : Ig.M} {B1 B2 B3 B4 : Option Addr} {C1 C2 C3 C4 : Nat} (h1 : X.ownsRow w.heap.size 96 4 (.slice B1 m.rows.length C1) m.rows.length (m.rows.flatMap rowCells)) (h2 : X.ownsRow w.heap.size 66 3 (.slice B2 m.opn.length C2) m.opn.length (m.opn.flatMap pointCells)) (h3 : X.ownsRow w.heap.size 56 1 (.slice B3 m.digs.length C3) m.digs.length (m.digs.flatMap digCells)) (h4 : X.ownsRow w.heap.size 59 2 (.slice B4 m.seals.length C4) m.seals.length (m.seals.flatMap fileCells)) (hb : Below w.heap.size w X) :
    RCopyPost w m (.returned (.pointer (some ⟨X.heap.size, 0, none⟩))) (X.alloc (.cells #[.int .i64 m.at_, .slice B1 m.rows.length C1, .slice B2 m.opn.length C2, .slice B3 m.digs.length C3, .slice B4 m.seals.length C4] 31)) :=
  ⟨X.heap.size, _, _, _, _, rfl, ⟨Blk.new X _ _, hb.size, h1.alloc _, h2.alloc _, h3.alloc _, h4.alloc _⟩, hb.alloc hb.size _⟩
theorem any_named {P : Program} {md : Region.Mode} {ops : Array Oper} {Q : Exit → Act → World → Prop} {S : World → Prop} {fuel : Nat} {L : Array Bool} {a : Act} {w : World} (h : ∀ W : Nat → Array Bool → Act → World → Prop, W = wpAnyH P md ops Q S → W fuel L a w) : wpAnyH P md ops Q S fuel L a w := h _ rfl
theorem own_apart {base : Nat} {e e' : TypeId} {w w' : World} {size n : Nat} {v : Value} {xs : List Value} (k : Hid (Apart base e w w')) (hne : e' ≠ e) (h : w.ownsRow base e' size v n xs) : w'.ownsRow base e' size v n xs := k.out _ _ _ _ _ hne h
section
variable {w : World} {base g : Nat} {m : Ig.M} {vr vo vd vs : Value}
set_option maxRecDepth 100000 in
set_option maxHeartbeats 20000000 in
theorem rcopy_mach (h : RMach w base g m vr vo vd vs) (h1 : m.rows.length ≤ 1000000) (h2 : m.opn.length ≤ 1000000) (h3 : m.digs.length ≤ 1000000) (h4 : m.seals.length ≤ 1000000) :
    Calls Tryz.prog 14 #[.pointer (some ⟨g, 0, none⟩)] w (RCopyPost w m) := by
  have HS : Hid (∀ W, Below w.heap.size w W → W.cell? ⟨g, 0, none⟩ = some (.int .i64 m.at_) ∧ W.cell? ⟨g, 1, none⟩ = some vr ∧ W.cell? ⟨g, 2, none⟩ = some vo ∧ W.cell? ⟨g, 3, none⟩ = some vd ∧ W.cell? ⟨g, 4, none⟩ = some vs) := fun W hb => (h.below hb).cells
  obtain ⟨c0, c1, c2, c3, c4⟩ := h.cells
  obtain ⟨Ar, cr, rfl, _, hr1⟩ := own_slice h.rows
  obtain ⟨Ao, co, rfl, _, hr2⟩ := own_slice h.opn
  obtain ⟨Ad, cd, rfl, _, hr3⟩ := own_slice h.digs
  obtain ⟨As, cs, rfl, _, hr4⟩ := own_slice h.seals
  have R1 : Hid (∀ W, Below w.heap.size w W → Reads W w.heap.size 4 Ar m.rows.length (m.rows.flatMap rowCells)) := fun W hb => hr1.below hb
  have R2 : Hid (∀ W, Below w.heap.size w W → Reads W w.heap.size 3 Ao m.opn.length (m.opn.flatMap pointCells)) := fun W hb => hr2.below hb
  have R3 : Hid (∀ W, Below w.heap.size w W → Reads W w.heap.size 1 Ad m.digs.length (m.digs.flatMap digCells)) := fun W hb => hr3.below hb
  have R4 : Hid (∀ W, Below w.heap.size w W → Reads W w.heap.size 2 As m.seals.length (m.seals.flatMap fileCells)) := fun W hb => hr4.below hb
  obtain ⟨i1, hi1, hz10, hz11, hz12⟩ := info_parts info_srow
  obtain ⟨i2, hi2, hz20, hz21, hz22⟩ := info_parts info_cloneP
  obtain ⟨i3, hi3, hz30, hz31, hz32⟩ := info_parts info_cloneD
  obtain ⟨i4, hi4, hz40, hz41, hz42⟩ := info_parts info_cloneF
  clear h hr1 hr2 hr3 hr4
  go_enter Tryz.func14, Tryz.ntmps14
  go_wp2_with fail
  clear c0 c1 c2 c3 c4
  go_upto_region 1 with fail
  go_cut [2] (fun r wx => RCopyPost w m (.returned r) wx)
  case first =>
    refine wp_region_noPanic ?_
    refine wp_region_held_drew (S := (fun W => W.cell? ⟨g, 0, none⟩ = some (.int .i64 m.at_) ∧ W.cell? ⟨g, 1, none⟩ = some (.slice Ar m.rows.length cr) ∧ W.cell? ⟨g, 2, none⟩ = some (.slice Ao m.opn.length co) ∧ W.cell? ⟨g, 3, none⟩ = some (.slice Ad m.digs.length cd) ∧ W.cell? ⟨g, 4, none⟩ = some (.slice As m.seals.length cs))) (by kernel_rfl) ?_ (fun hHeld => ?_)
    · exact HS.out _ ((Below.refl _ _).drew)
    refine wpAnyH_take (i := 0) (oi := ⟨some 3, _, _, _, _, _⟩) (v := ?_) rfl (by kernel_rfl) (by kernel_rfl) (by kernel_rfl) (fun _ _ _ h => h) (Or.inl ⟨by rfl, ?_⟩) (by assumption) ?_
    rotate_left 1
    · intro w hSw; (try dsimp only at hSw); go_simp; (try with_reducible rfl)
    try simp only [Act.put, List.setIfInBounds_toArray, List.set_cons_zero, List.set_cons_succ]
    refine wpAnyH_take (i := 1) (oi := ⟨some 4, _, _, _, _, _⟩) (v := ?_) rfl (by kernel_rfl) (by kernel_rfl) (by kernel_rfl) (fun _ _ _ h => h) (Or.inl ⟨by rfl, ?_⟩) (by assumption) ?_
    rotate_left 1
    · intro w hSw; (try dsimp only at hSw); go_simp; (try with_reducible rfl)
    try simp only [Act.put, List.setIfInBounds_toArray, List.set_cons_zero, List.set_cons_succ]
    refine wpAnyH_take (i := 2) (oi := ⟨some 5, _, _, _, _, _⟩) (v := ?_) rfl (by kernel_rfl) (by kernel_rfl) (by kernel_rfl) (fun _ _ _ h => h) (Or.inl ⟨by rfl, ?_⟩) (by assumption) ?_
    rotate_left 1
    · intro w hSw; (try dsimp only at hSw); go_simp; (try with_reducible rfl)
    try simp only [Act.put, List.setIfInBounds_toArray, List.set_cons_zero, List.set_cons_succ]
    refine wpAnyH_take (i := 3) (oi := ⟨some 6, _, _, _, _, _⟩) (v := ?_) rfl (by kernel_rfl) (by kernel_rfl) (by kernel_rfl) (fun _ _ _ h => h) (Or.inl ⟨by rfl, ?_⟩) (by assumption) ?_
    rotate_left 1
    · intro w hSw; (try dsimp only at hSw); go_simp; (try with_reducible rfl)
    try simp only [Act.put, List.setIfInBounds_toArray, List.set_cons_zero, List.set_cons_succ]
    refine wpAnyH_take (i := 5) (oi := ⟨some 8, _, _, _, _, _⟩) (v := ?_) rfl (by kernel_rfl) (by kernel_rfl) (by kernel_rfl) (fun _ _ _ h => h) (Or.inl ⟨by rfl, ?_⟩) (by assumption) ?_
    rotate_left 1
    · intro w hSw; (try dsimp only at hSw); go_simp; (try with_reducible rfl)
    try simp only [Act.put, List.setIfInBounds_toArray, List.set_cons_zero, List.set_cons_succ]
    refine wpAnyH_take (i := 6) (oi := ⟨some 9, _, _, _, _, _⟩) (v := ?_) rfl (by kernel_rfl) (by kernel_rfl) (by kernel_rfl) (fun _ _ _ h => h) (Or.inl ⟨by rfl, ?_⟩) (by assumption) ?_
    rotate_left 1
    · intro w hSw; (try dsimp only at hSw); go_simp; (try with_reducible rfl)
    try simp only [Act.put, List.setIfInBounds_toArray, List.set_cons_zero, List.set_cons_succ]
    refine wpAnyH_take (i := 7) (oi := ⟨some 10, _, _, _, _, _⟩) (v := ?_) rfl (by kernel_rfl) (by kernel_rfl) (by kernel_rfl) (fun _ _ _ h => h) (Or.inl ⟨by rfl, ?_⟩) (by assumption) ?_
    rotate_left 1
    · intro w hSw; (try dsimp only at hSw); go_simp; (try with_reducible rfl)
    try simp only [Act.put, List.setIfInBounds_toArray, List.set_cons_zero, List.set_cons_succ]
    refine wpAnyH_take (i := 8) (oi := ⟨some 11, _, _, _, _, _⟩) (v := ?_) rfl (by kernel_rfl) (by kernel_rfl) (by kernel_rfl) (fun _ _ _ h => h) (Or.inl ⟨by rfl, ?_⟩) (by assumption) ?_
    rotate_left 1
    · intro w hSw; (try dsimp only at hSw); go_simp; (try with_reducible rfl)
    try simp only [Act.put, List.setIfInBounds_toArray, List.set_cons_zero, List.set_cons_succ]
    refine wpAnyH_take (i := 11) (oi := ⟨some 14, _, _, _, _, _⟩) (v := ?_) rfl (by kernel_rfl) (by kernel_rfl) (by kernel_rfl) (fun _ _ _ h => h) (Or.inl ⟨by rfl, ?_⟩) (by assumption) ?_
    rotate_left 1
    · intro w hSw; (try dsimp only at hSw); go_simp; (try with_reducible rfl)
    try simp only [Act.put, List.setIfInBounds_toArray, List.set_cons_zero, List.set_cons_succ]
    refine wpAnyH_take (i := 12) (oi := ⟨some 15, _, _, _, _, _⟩) (v := ?_) rfl (by kernel_rfl) (by kernel_rfl) (by kernel_rfl) (fun _ _ _ h => h) (Or.inl ⟨by rfl, ?_⟩) (by assumption) ?_
    rotate_left 1
    · intro w hSw; (try dsimp only at hSw); go_simp; (try with_reducible rfl)
    try simp only [Act.put, List.setIfInBounds_toArray, List.set_cons_zero, List.set_cons_succ]
    refine wpAnyH_take (i := 13) (oi := ⟨some 16, _, _, _, _, _⟩) (v := ?_) rfl (by kernel_rfl) (by kernel_rfl) (by kernel_rfl) (fun _ _ _ h => h) (Or.inl ⟨by rfl, ?_⟩) (by assumption) ?_
    rotate_left 1
    · intro w hSw; (try dsimp only at hSw); go_simp; (try with_reducible rfl)
    try simp only [Act.put, List.setIfInBounds_toArray, List.set_cons_zero, List.set_cons_succ]
    refine wpAnyH_take (i := 14) (oi := ⟨some 17, _, _, _, _, _⟩) (v := ?_) rfl (by kernel_rfl) (by kernel_rfl) (by kernel_rfl) (fun _ _ _ h => h) (Or.inl ⟨by rfl, ?_⟩) (by assumption) ?_
    rotate_left 1
    · intro w hSw; (try dsimp only at hSw); go_simp; (try with_reducible rfl)
    try simp only [Act.put, List.setIfInBounds_toArray, List.set_cons_zero, List.set_cons_succ]
    refine wpAnyH_take (i := 17) (oi := ⟨some 20, _, _, _, _, _⟩) (v := ?_) rfl (by kernel_rfl) (by kernel_rfl) (by kernel_rfl) (fun _ _ _ h => h) (Or.inl ⟨by rfl, ?_⟩) (by assumption) ?_
    rotate_left 1
    · intro w hSw; (try dsimp only at hSw); go_simp; (try with_reducible rfl)
    try simp only [Act.put, List.setIfInBounds_toArray, List.set_cons_zero, List.set_cons_succ]
    refine wpAnyH_take (i := 18) (oi := ⟨some 21, _, _, _, _, _⟩) (v := ?_) rfl (by kernel_rfl) (by kernel_rfl) (by kernel_rfl) (fun _ _ _ h => h) (Or.inl ⟨by rfl, ?_⟩) (by assumption) ?_
    rotate_left 1
    · intro w hSw; (try dsimp only at hSw); go_simp; (try with_reducible rfl)
    try simp only [Act.put, List.setIfInBounds_toArray, List.set_cons_zero, List.set_cons_succ]
    refine wpAnyH_take (i := 19) (oi := ⟨some 22, _, _, _, _, _⟩) (v := ?_) rfl (by kernel_rfl) (by kernel_rfl) (by kernel_rfl) (fun _ _ _ h => h) (Or.inl ⟨by rfl, ?_⟩) (by assumption) ?_
    rotate_left 1
    · intro w hSw; (try dsimp only at hSw); go_simp; (try with_reducible rfl)
    try simp only [Act.put, List.setIfInBounds_toArray, List.set_cons_zero, List.set_cons_succ]
    refine wpAnyH_take (i := 20) (oi := ⟨some 23, _, _, _, _, _⟩) (v := ?_) rfl (by kernel_rfl) (by kernel_rfl) (by kernel_rfl) (fun _ _ _ h => h) (Or.inl ⟨by rfl, ?_⟩) (by assumption) ?_
    rotate_left 1
    · intro w hSw; (try dsimp only at hSw); go_simp; (try with_reducible rfl)
    try simp only [Act.put, List.setIfInBounds_toArray, List.set_cons_zero, List.set_cons_succ]
    refine wpAnyH_take (i := 23) (oi := ⟨some 26, _, _, _, _, _⟩) (v := ?_) rfl (by kernel_rfl) (by kernel_rfl) (by kernel_rfl) (fun _ _ _ h => h) (Or.inl ⟨by rfl, ?_⟩) (by assumption) ?_
    rotate_left 1
    · intro w hSw; (try dsimp only at hSw); go_simp; (try with_reducible rfl)
    try simp only [Act.put, List.setIfInBounds_toArray, List.set_cons_zero, List.set_cons_succ]
    refine wpAnyH_take (i := 24) (oi := ⟨some 27, _, _, _, _, _⟩) (v := ?_) rfl (by kernel_rfl) (by kernel_rfl) (by kernel_rfl) (fun _ _ _ h => h) (Or.inl ⟨by rfl, ?_⟩) (by assumption) ?_
    rotate_left 1
    · intro w hSw; (try dsimp only at hSw); go_simp; (try with_reducible rfl)
    try simp only [Act.put, List.setIfInBounds_toArray, List.set_cons_zero, List.set_cons_succ]
    refine wpAnyH_take (i := 25) (oi := ⟨some 28, _, _, _, _, _⟩) (v := ?_) rfl (by kernel_rfl) (by kernel_rfl) (by kernel_rfl) (fun _ _ _ h => h) (Or.inl ⟨by rfl, ?_⟩) (by assumption) ?_
    rotate_left 1
    · intro w hSw; (try dsimp only at hSw); go_simp; (try with_reducible rfl)
    try simp only [Act.put, List.setIfInBounds_toArray, List.set_cons_zero, List.set_cons_succ]
    refine wpAnyH_take (i := 26) (oi := ⟨some 29, _, _, _, _, _⟩) (v := ?_) rfl (by kernel_rfl) (by kernel_rfl) (by kernel_rfl) (fun _ _ _ h => h) (Or.inl ⟨by rfl, ?_⟩) (by assumption) ?_
    rotate_left 1
    · intro w hSw; (try dsimp only at hSw); go_simp; (try with_reducible rfl)
    try simp only [Act.put, List.setIfInBounds_toArray, List.set_cons_zero, List.set_cons_succ]
    try simp only [List.setIfInBounds_toArray, List.set_cons_zero, List.set_cons_succ, List.replicate]
    clear hHeld
    refine any_named (fun W hW => ?_)
    have n4_ : ∀ (V : World) (B1 : Option Addr) (C1 : Nat) (B2 : Option Addr) (C2 : Nat) (B3 : Option Addr) (C3 : Nat) (B4 : Option Addr) (C4 : Nat) (N1 : Nat) (N2 : Nat) (N3 : Nat) (N4 : Nat), Hid (Below w.heap.size w V) → Hid (V.ownsRow w.heap.size 96 4 (.slice B1 m.rows.length C1) m.rows.length (m.rows.flatMap rowCells)) → Hid (V.ownsRow w.heap.size 66 3 (.slice B2 m.opn.length C2) m.opn.length (m.opn.flatMap pointCells)) → Hid (V.ownsRow w.heap.size 56 1 (.slice B3 m.digs.length C3) m.digs.length (m.digs.flatMap digCells)) → Hid (V.ownsRow w.heap.size 59 2 (.slice B4 m.seals.length C4) m.seals.length (m.seals.flatMap fileCells)) → W 3 #[true, true, true, true, true, true, true, true, true, true, true, true, true, true, true, true, true, true, true, true, true, true, true, true, true, true, true, true, false, false, false] ⟨#[.pointer (some ⟨g, 0, none⟩), undef, .pointer none, .pointer (some ⟨g, 0, none⟩), .pointer (some ⟨g, 0, none⟩), .pointer (some ⟨g, 0, none⟩), .int .i64 m.at_, .slice (some ⟨N1, 0, none⟩) 0 0, .pointer (some ⟨g, 0, none⟩), .pointer (some ⟨g, 0, none⟩), .pointer (some ⟨g, 1, none⟩), .slice Ar m.rows.length cr, .slice B1 m.rows.length C1, .slice (some ⟨N2, 0, none⟩) 0 0, .pointer (some ⟨g, 0, none⟩), .pointer (some ⟨g, 0, none⟩), .pointer (some ⟨g, 2, none⟩), .slice Ao m.opn.length co, .slice B2 m.opn.length C2, .slice (some ⟨N3, 0, none⟩) 0 0, .pointer (some ⟨g, 0, none⟩), .pointer (some ⟨g, 0, none⟩), .pointer (some ⟨g, 3, none⟩), .slice Ad m.digs.length cd, .slice B3 m.digs.length C3, .slice (some ⟨N4, 0, none⟩) 0 0, .pointer (some ⟨g, 0, none⟩), .pointer (some ⟨g, 0, none⟩), .pointer (some ⟨g, 4, none⟩), .slice As m.seals.length cs, .slice B4 m.seals.length C4, undef, undef], []⟩ V := by
      intro V B1 C1 B2 C2 B3 C3 B4 C4 N1 N2 N3 N4 hb a1 a2 a3 a4
      rw [hW]
      refine wpAnyH_take (i := 28) (oi := ⟨some 31, _, _, _, _, _⟩) (v := .agg #[.int .i64 m.at_, .slice B1 m.rows.length C1, .slice B2 m.opn.length C2, .slice B3 m.digs.length C3, .slice B4 m.seals.length C4]) rfl (by kernel_rfl) (by kernel_rfl) (by kernel_rfl) (fun _ _ _ h => h) (Or.inl ⟨by rfl, ?_⟩) (HS.out _ hb.out) ?_
      · intro w hSw; go_simp; try with_reducible rfl
      try simp only [Act.put, List.setIfInBounds_toArray, List.set_cons_zero, List.set_cons_succ]
      refine wpAnyH_ready (rs := [29]) (by kernel_rfl) (by simp) ?_
      refine AllReadyH.cons (o := ⟨some 32, _, _, _, _, _⟩) rfl (fun K' hK => ?_) AllReadyH.nil
      go_simp
      refine hK.out _ _ (HS.out _ (below_alloc hb.out _)) (fun hHeld => ?_)
      clear hK K'
      try simp only [List.setIfInBounds_toArray, List.set_cons_zero, List.set_cons_succ]
      refine wpAnyH_take (i := 30) (oi := ⟨some 2, _, _, _, _, _⟩) (v := ?_) rfl (by kernel_rfl) (by kernel_rfl) (by kernel_rfl) (fun _ _ _ h => h) (Or.inl ⟨by rfl, ?_⟩) (HS.out _ (below_alloc hb.out _)) ?_
      rotate_left 1
      · intro w hSw; go_simp; try with_reducible rfl
      try simp only [Act.put, List.setIfInBounds_toArray, List.set_cons_zero, List.set_cons_succ]
      refine wpAnyH_done (by kernel_rfl) ?_ _
      refine NoPanic.normal ?_
      clear hW HS R1 R2 R3 R4
      go_wp2_with fail
      go_meet
      exact rcopy_fin a1.out a2.out a3.out a4.out hb.out
    have n3_4 : ∀ (V : World) (B1 : Option Addr) (C1 : Nat) (B2 : Option Addr) (C2 : Nat) (B3 : Option Addr) (C3 : Nat) (N1 : Nat) (N2 : Nat) (N3 : Nat) (N4 : Nat), Hid (Below w.heap.size w V) → Hid (V.ownsRow w.heap.size 96 4 (.slice B1 m.rows.length C1) m.rows.length (m.rows.flatMap rowCells)) → Hid (V.ownsRow w.heap.size 66 3 (.slice B2 m.opn.length C2) m.opn.length (m.opn.flatMap pointCells)) → Hid (V.ownsRow w.heap.size 56 1 (.slice B3 m.digs.length C3) m.digs.length (m.digs.flatMap digCells)) → Hid (V.ownsRow w.heap.size 59 2 (.slice (some ⟨N4, 0, none⟩) 0 0) 0 []) → W 4 #[true, true, true, true, true, true, true, true, true, true, true, true, true, true, true, true, true, true, true, true, true, true, true, true, true, true, true, false, false, false, false] ⟨#[.pointer (some ⟨g, 0, none⟩), undef, .pointer none, .pointer (some ⟨g, 0, none⟩), .pointer (some ⟨g, 0, none⟩), .pointer (some ⟨g, 0, none⟩), .int .i64 m.at_, .slice (some ⟨N1, 0, none⟩) 0 0, .pointer (some ⟨g, 0, none⟩), .pointer (some ⟨g, 0, none⟩), .pointer (some ⟨g, 1, none⟩), .slice Ar m.rows.length cr, .slice B1 m.rows.length C1, .slice (some ⟨N2, 0, none⟩) 0 0, .pointer (some ⟨g, 0, none⟩), .pointer (some ⟨g, 0, none⟩), .pointer (some ⟨g, 2, none⟩), .slice Ao m.opn.length co, .slice B2 m.opn.length C2, .slice (some ⟨N3, 0, none⟩) 0 0, .pointer (some ⟨g, 0, none⟩), .pointer (some ⟨g, 0, none⟩), .pointer (some ⟨g, 3, none⟩), .slice Ad m.digs.length cd, .slice B3 m.digs.length C3, .slice (some ⟨N4, 0, none⟩) 0 0, .pointer (some ⟨g, 0, none⟩), .pointer (some ⟨g, 0, none⟩), .pointer (some ⟨g, 4, none⟩), .slice As m.seals.length cs, undef, undef, undef], []⟩ V := by
      intro V B1 C1 B2 C2 B3 C3 N1 N2 N3 N4 hb a1 a2 a3 e4
      rw [hW]
      refine wpAnyH_ready (rs := [27]) (by kernel_rfl) (by simp) ?_
      refine AllReadyH.cons (o := ⟨some 30, _, _, _, _, _⟩) rfl (fun K' hK => ?_) (AllReadyH.nil)
      · refine step_app (o := ⟨some 30, _, _, _, _, _⟩) rfl (.tmp 25) (.tmp 29) 29 rfl w.heap.size 59 i4 _ 2 24 Tryz.underlying29 hi4 hz40 hz41 hz42 rfl (by decide) _ (by rfl) e4.out As m.seals.length cs _ (by rfl) R4.out (cells_oneF m.seals) (by omega) (by omega) hb.out (Nat.le_refl _) ?_
        intro B4 C4 V' h' k' b'
        refine hK.out _ _ (HS.out _ b') (fun hHeld => ?_)
        clear hK K' hHeld
        try simp only [Act.put, List.setIfInBounds_toArray, List.set_cons_zero, List.set_cons_succ]
        have c := n4_ V' B1 C1 B2 C2 B3 C3 B4 C4 N1 N2 N3 N4 (Lib.hid (b')) (Lib.hid (own_apart (Lib.hid k') (by decide) a1.out)) (Lib.hid (own_apart (Lib.hid k') (by decide) a2.out)) (Lib.hid (own_apart (Lib.hid k') (by decide) a3.out)) (Lib.hid (h'))
        rw [hW] at c
        exact c
    have n3_ : ∀ (V : World) (B1 : Option Addr) (C1 : Nat) (B2 : Option Addr) (C2 : Nat) (B3 : Option Addr) (C3 : Nat) (N1 : Nat) (N2 : Nat) (N3 : Nat), Hid (Below w.heap.size w V) → Hid (V.ownsRow w.heap.size 96 4 (.slice B1 m.rows.length C1) m.rows.length (m.rows.flatMap rowCells)) → Hid (V.ownsRow w.heap.size 66 3 (.slice B2 m.opn.length C2) m.opn.length (m.opn.flatMap pointCells)) → Hid (V.ownsRow w.heap.size 56 1 (.slice B3 m.digs.length C3) m.digs.length (m.digs.flatMap digCells)) → W 5 #[true, true, true, true, true, true, true, true, true, true, true, true, true, true, true, true, true, true, true, true, true, true, false, true, true, true, true, false, false, false, false] ⟨#[.pointer (some ⟨g, 0, none⟩), undef, .pointer none, .pointer (some ⟨g, 0, none⟩), .pointer (some ⟨g, 0, none⟩), .pointer (some ⟨g, 0, none⟩), .int .i64 m.at_, .slice (some ⟨N1, 0, none⟩) 0 0, .pointer (some ⟨g, 0, none⟩), .pointer (some ⟨g, 0, none⟩), .pointer (some ⟨g, 1, none⟩), .slice Ar m.rows.length cr, .slice B1 m.rows.length C1, .slice (some ⟨N2, 0, none⟩) 0 0, .pointer (some ⟨g, 0, none⟩), .pointer (some ⟨g, 0, none⟩), .pointer (some ⟨g, 2, none⟩), .slice Ao m.opn.length co, .slice B2 m.opn.length C2, .slice (some ⟨N3, 0, none⟩) 0 0, .pointer (some ⟨g, 0, none⟩), .pointer (some ⟨g, 0, none⟩), .pointer (some ⟨g, 3, none⟩), .slice Ad m.digs.length cd, .slice B3 m.digs.length C3, undef, .pointer (some ⟨g, 0, none⟩), .pointer (some ⟨g, 0, none⟩), .pointer (some ⟨g, 4, none⟩), .slice As m.seals.length cs, undef, undef, undef], []⟩ V := by
      intro V B1 C1 B2 C2 B3 C3 N1 N2 N3 hb a1 a2 a3
      rw [hW]
      refine wpAnyH_ready (rs := [22]) (by kernel_rfl) (by simp) ?_
      refine AllReadyH.cons (o := ⟨some 25, _, _, _, _, _⟩) rfl (fun K' hK => ?_) (AllReadyH.nil)
      · go_simp
        refine hK.out _ _ (HS.out _ (below_alloc hb.out _)) (fun hHeld => ?_)
        clear hK K' hHeld
        try simp only [List.setIfInBounds_toArray, List.set_cons_zero, List.set_cons_succ]
        have c := n3_4 (V.alloc (.cells #[] 59)) B1 C1 B2 C2 B3 C3 N1 N2 N3 V.heap.size (Lib.hid (below_alloc hb.out _)) (Lib.hid (own_alloc a1.out _)) (Lib.hid (own_alloc a2.out _)) (Lib.hid (own_alloc a3.out _)) (Lib.hid (own_at rfl hb.out))
        rw [hW] at c
        exact c
    have n2_34 : ∀ (V : World) (B1 : Option Addr) (C1 : Nat) (B2 : Option Addr) (C2 : Nat) (N1 : Nat) (N2 : Nat) (N3 : Nat) (N4 : Nat), Hid (Below w.heap.size w V) → Hid (V.ownsRow w.heap.size 96 4 (.slice B1 m.rows.length C1) m.rows.length (m.rows.flatMap rowCells)) → Hid (V.ownsRow w.heap.size 66 3 (.slice B2 m.opn.length C2) m.opn.length (m.opn.flatMap pointCells)) → Hid (V.ownsRow w.heap.size 56 1 (.slice (some ⟨N3, 0, none⟩) 0 0) 0 []) → Hid (V.ownsRow w.heap.size 59 2 (.slice (some ⟨N4, 0, none⟩) 0 0) 0 []) → W 5 #[true, true, true, true, true, true, true, true, true, true, true, true, true, true, true, true, true, true, true, true, true, false, true, true, true, true, true, false, false, false, false] ⟨#[.pointer (some ⟨g, 0, none⟩), undef, .pointer none, .pointer (some ⟨g, 0, none⟩), .pointer (some ⟨g, 0, none⟩), .pointer (some ⟨g, 0, none⟩), .int .i64 m.at_, .slice (some ⟨N1, 0, none⟩) 0 0, .pointer (some ⟨g, 0, none⟩), .pointer (some ⟨g, 0, none⟩), .pointer (some ⟨g, 1, none⟩), .slice Ar m.rows.length cr, .slice B1 m.rows.length C1, .slice (some ⟨N2, 0, none⟩) 0 0, .pointer (some ⟨g, 0, none⟩), .pointer (some ⟨g, 0, none⟩), .pointer (some ⟨g, 2, none⟩), .slice Ao m.opn.length co, .slice B2 m.opn.length C2, .slice (some ⟨N3, 0, none⟩) 0 0, .pointer (some ⟨g, 0, none⟩), .pointer (some ⟨g, 0, none⟩), .pointer (some ⟨g, 3, none⟩), .slice Ad m.digs.length cd, undef, .slice (some ⟨N4, 0, none⟩) 0 0, .pointer (some ⟨g, 0, none⟩), .pointer (some ⟨g, 0, none⟩), .pointer (some ⟨g, 4, none⟩), .slice As m.seals.length cs, undef, undef, undef], []⟩ V := by
      intro V B1 C1 B2 C2 N1 N2 N3 N4 hb a1 a2 e3 e4
      rw [hW]
      refine wpAnyH_ready (rs := [21]) (by kernel_rfl) (by simp) ?_
      refine AllReadyH.cons (o := ⟨some 24, _, _, _, _, _⟩) rfl (fun K' hK => ?_) (AllReadyH.nil)
      · refine step_app (o := ⟨some 24, _, _, _, _, _⟩) rfl (.tmp 19) (.tmp 23) 28 rfl w.heap.size 56 i3 _ 1 8 Tryz.underlying28 hi3 hz30 hz31 hz32 rfl (by decide) _ (by rfl) e3.out Ad m.digs.length cd _ (by rfl) R3.out (cells_oneD m.digs) (by omega) (by omega) hb.out (Nat.le_refl _) ?_
        intro B3 C3 V' h' k' b'
        refine hK.out _ _ (HS.out _ b') (fun hHeld => ?_)
        clear hK K' hHeld
        try simp only [Act.put, List.setIfInBounds_toArray, List.set_cons_zero, List.set_cons_succ]
        have c := n3_4 V' B1 C1 B2 C2 B3 C3 N1 N2 N3 N4 (Lib.hid (b')) (Lib.hid (own_apart (Lib.hid k') (by decide) a1.out)) (Lib.hid (own_apart (Lib.hid k') (by decide) a2.out)) (Lib.hid (h')) (Lib.hid (own_apart (Lib.hid k') (by decide) e4.out))
        rw [hW] at c
        exact c
    have n2_3 : ∀ (V : World) (B1 : Option Addr) (C1 : Nat) (B2 : Option Addr) (C2 : Nat) (N1 : Nat) (N2 : Nat) (N3 : Nat), Hid (Below w.heap.size w V) → Hid (V.ownsRow w.heap.size 96 4 (.slice B1 m.rows.length C1) m.rows.length (m.rows.flatMap rowCells)) → Hid (V.ownsRow w.heap.size 66 3 (.slice B2 m.opn.length C2) m.opn.length (m.opn.flatMap pointCells)) → Hid (V.ownsRow w.heap.size 56 1 (.slice (some ⟨N3, 0, none⟩) 0 0) 0 []) → W 6 #[true, true, true, true, true, true, true, true, true, true, true, true, true, true, true, true, true, true, true, true, true, false, false, true, true, true, true, false, false, false, false] ⟨#[.pointer (some ⟨g, 0, none⟩), undef, .pointer none, .pointer (some ⟨g, 0, none⟩), .pointer (some ⟨g, 0, none⟩), .pointer (some ⟨g, 0, none⟩), .int .i64 m.at_, .slice (some ⟨N1, 0, none⟩) 0 0, .pointer (some ⟨g, 0, none⟩), .pointer (some ⟨g, 0, none⟩), .pointer (some ⟨g, 1, none⟩), .slice Ar m.rows.length cr, .slice B1 m.rows.length C1, .slice (some ⟨N2, 0, none⟩) 0 0, .pointer (some ⟨g, 0, none⟩), .pointer (some ⟨g, 0, none⟩), .pointer (some ⟨g, 2, none⟩), .slice Ao m.opn.length co, .slice B2 m.opn.length C2, .slice (some ⟨N3, 0, none⟩) 0 0, .pointer (some ⟨g, 0, none⟩), .pointer (some ⟨g, 0, none⟩), .pointer (some ⟨g, 3, none⟩), .slice Ad m.digs.length cd, undef, undef, .pointer (some ⟨g, 0, none⟩), .pointer (some ⟨g, 0, none⟩), .pointer (some ⟨g, 4, none⟩), .slice As m.seals.length cs, undef, undef, undef], []⟩ V := by
      intro V B1 C1 B2 C2 N1 N2 N3 hb a1 a2 e3
      rw [hW]
      refine wpAnyH_ready (rs := [21, 22]) (by kernel_rfl) (by simp) ?_
      refine AllReadyH.cons (o := ⟨some 24, _, _, _, _, _⟩) rfl (fun K' hK => ?_) (AllReadyH.cons (o := ⟨some 25, _, _, _, _, _⟩) rfl (fun K' hK => ?_) (AllReadyH.nil))
      · refine step_app (o := ⟨some 24, _, _, _, _, _⟩) rfl (.tmp 19) (.tmp 23) 28 rfl w.heap.size 56 i3 _ 1 8 Tryz.underlying28 hi3 hz30 hz31 hz32 rfl (by decide) _ (by rfl) e3.out Ad m.digs.length cd _ (by rfl) R3.out (cells_oneD m.digs) (by omega) (by omega) hb.out (Nat.le_refl _) ?_
        intro B3 C3 V' h' k' b'
        refine hK.out _ _ (HS.out _ b') (fun hHeld => ?_)
        clear hK K' hHeld
        try simp only [Act.put, List.setIfInBounds_toArray, List.set_cons_zero, List.set_cons_succ]
        have c := n3_ V' B1 C1 B2 C2 B3 C3 N1 N2 N3 (Lib.hid (b')) (Lib.hid (own_apart (Lib.hid k') (by decide) a1.out)) (Lib.hid (own_apart (Lib.hid k') (by decide) a2.out)) (Lib.hid (h'))
        rw [hW] at c
        exact c
      · go_simp
        refine hK.out _ _ (HS.out _ (below_alloc hb.out _)) (fun hHeld => ?_)
        clear hK K' hHeld
        try simp only [List.setIfInBounds_toArray, List.set_cons_zero, List.set_cons_succ]
        have c := n2_34 (V.alloc (.cells #[] 59)) B1 C1 B2 C2 N1 N2 N3 V.heap.size (Lib.hid (below_alloc hb.out _)) (Lib.hid (own_alloc a1.out _)) (Lib.hid (own_alloc a2.out _)) (Lib.hid (own_alloc e3.out _)) (Lib.hid (own_at rfl hb.out))
        rw [hW] at c
        exact c
    have n2_4 : ∀ (V : World) (B1 : Option Addr) (C1 : Nat) (B2 : Option Addr) (C2 : Nat) (N1 : Nat) (N2 : Nat) (N4 : Nat), Hid (Below w.heap.size w V) → Hid (V.ownsRow w.heap.size 96 4 (.slice B1 m.rows.length C1) m.rows.length (m.rows.flatMap rowCells)) → Hid (V.ownsRow w.heap.size 66 3 (.slice B2 m.opn.length C2) m.opn.length (m.opn.flatMap pointCells)) → Hid (V.ownsRow w.heap.size 59 2 (.slice (some ⟨N4, 0, none⟩) 0 0) 0 []) → W 6 #[true, true, true, true, true, true, true, true, true, true, true, true, true, true, true, true, false, true, true, true, true, false, true, true, true, true, true, false, false, false, false] ⟨#[.pointer (some ⟨g, 0, none⟩), undef, .pointer none, .pointer (some ⟨g, 0, none⟩), .pointer (some ⟨g, 0, none⟩), .pointer (some ⟨g, 0, none⟩), .int .i64 m.at_, .slice (some ⟨N1, 0, none⟩) 0 0, .pointer (some ⟨g, 0, none⟩), .pointer (some ⟨g, 0, none⟩), .pointer (some ⟨g, 1, none⟩), .slice Ar m.rows.length cr, .slice B1 m.rows.length C1, .slice (some ⟨N2, 0, none⟩) 0 0, .pointer (some ⟨g, 0, none⟩), .pointer (some ⟨g, 0, none⟩), .pointer (some ⟨g, 2, none⟩), .slice Ao m.opn.length co, .slice B2 m.opn.length C2, undef, .pointer (some ⟨g, 0, none⟩), .pointer (some ⟨g, 0, none⟩), .pointer (some ⟨g, 3, none⟩), .slice Ad m.digs.length cd, undef, .slice (some ⟨N4, 0, none⟩) 0 0, .pointer (some ⟨g, 0, none⟩), .pointer (some ⟨g, 0, none⟩), .pointer (some ⟨g, 4, none⟩), .slice As m.seals.length cs, undef, undef, undef], []⟩ V := by
      intro V B1 C1 B2 C2 N1 N2 N4 hb a1 a2 e4
      rw [hW]
      refine wpAnyH_ready (rs := [16]) (by kernel_rfl) (by simp) ?_
      refine AllReadyH.cons (o := ⟨some 19, _, _, _, _, _⟩) rfl (fun K' hK => ?_) (AllReadyH.nil)
      · go_simp
        refine hK.out _ _ (HS.out _ (below_alloc hb.out _)) (fun hHeld => ?_)
        clear hK K' hHeld
        try simp only [List.setIfInBounds_toArray, List.set_cons_zero, List.set_cons_succ]
        have c := n2_34 (V.alloc (.cells #[] 56)) B1 C1 B2 C2 N1 N2 V.heap.size N4 (Lib.hid (below_alloc hb.out _)) (Lib.hid (own_alloc a1.out _)) (Lib.hid (own_alloc a2.out _)) (Lib.hid (own_at rfl hb.out)) (Lib.hid (own_alloc e4.out _))
        rw [hW] at c
        exact c
    have n2_ : ∀ (V : World) (B1 : Option Addr) (C1 : Nat) (B2 : Option Addr) (C2 : Nat) (N1 : Nat) (N2 : Nat), Hid (Below w.heap.size w V) → Hid (V.ownsRow w.heap.size 96 4 (.slice B1 m.rows.length C1) m.rows.length (m.rows.flatMap rowCells)) → Hid (V.ownsRow w.heap.size 66 3 (.slice B2 m.opn.length C2) m.opn.length (m.opn.flatMap pointCells)) → W 7 #[true, true, true, true, true, true, true, true, true, true, true, true, true, true, true, true, false, true, true, true, true, false, false, true, true, true, true, false, false, false, false] ⟨#[.pointer (some ⟨g, 0, none⟩), undef, .pointer none, .pointer (some ⟨g, 0, none⟩), .pointer (some ⟨g, 0, none⟩), .pointer (some ⟨g, 0, none⟩), .int .i64 m.at_, .slice (some ⟨N1, 0, none⟩) 0 0, .pointer (some ⟨g, 0, none⟩), .pointer (some ⟨g, 0, none⟩), .pointer (some ⟨g, 1, none⟩), .slice Ar m.rows.length cr, .slice B1 m.rows.length C1, .slice (some ⟨N2, 0, none⟩) 0 0, .pointer (some ⟨g, 0, none⟩), .pointer (some ⟨g, 0, none⟩), .pointer (some ⟨g, 2, none⟩), .slice Ao m.opn.length co, .slice B2 m.opn.length C2, undef, .pointer (some ⟨g, 0, none⟩), .pointer (some ⟨g, 0, none⟩), .pointer (some ⟨g, 3, none⟩), .slice Ad m.digs.length cd, undef, undef, .pointer (some ⟨g, 0, none⟩), .pointer (some ⟨g, 0, none⟩), .pointer (some ⟨g, 4, none⟩), .slice As m.seals.length cs, undef, undef, undef], []⟩ V := by
      intro V B1 C1 B2 C2 N1 N2 hb a1 a2
      rw [hW]
      refine wpAnyH_ready (rs := [16, 22]) (by kernel_rfl) (by simp) ?_
      refine AllReadyH.cons (o := ⟨some 19, _, _, _, _, _⟩) rfl (fun K' hK => ?_) (AllReadyH.cons (o := ⟨some 25, _, _, _, _, _⟩) rfl (fun K' hK => ?_) (AllReadyH.nil))
      · go_simp
        refine hK.out _ _ (HS.out _ (below_alloc hb.out _)) (fun hHeld => ?_)
        clear hK K' hHeld
        try simp only [List.setIfInBounds_toArray, List.set_cons_zero, List.set_cons_succ]
        have c := n2_3 (V.alloc (.cells #[] 56)) B1 C1 B2 C2 N1 N2 V.heap.size (Lib.hid (below_alloc hb.out _)) (Lib.hid (own_alloc a1.out _)) (Lib.hid (own_alloc a2.out _)) (Lib.hid (own_at rfl hb.out))
        rw [hW] at c
        exact c
      · go_simp
        refine hK.out _ _ (HS.out _ (below_alloc hb.out _)) (fun hHeld => ?_)
        clear hK K' hHeld
        try simp only [List.setIfInBounds_toArray, List.set_cons_zero, List.set_cons_succ]
        have c := n2_4 (V.alloc (.cells #[] 59)) B1 C1 B2 C2 N1 N2 V.heap.size (Lib.hid (below_alloc hb.out _)) (Lib.hid (own_alloc a1.out _)) (Lib.hid (own_alloc a2.out _)) (Lib.hid (own_at rfl hb.out))
        rw [hW] at c
        exact c
    have n1_234 : ∀ (V : World) (B1 : Option Addr) (C1 : Nat) (N1 : Nat) (N2 : Nat) (N3 : Nat) (N4 : Nat), Hid (Below w.heap.size w V) → Hid (V.ownsRow w.heap.size 96 4 (.slice B1 m.rows.length C1) m.rows.length (m.rows.flatMap rowCells)) → Hid (V.ownsRow w.heap.size 66 3 (.slice (some ⟨N2, 0, none⟩) 0 0) 0 []) → Hid (V.ownsRow w.heap.size 56 1 (.slice (some ⟨N3, 0, none⟩) 0 0) 0 []) → Hid (V.ownsRow w.heap.size 59 2 (.slice (some ⟨N4, 0, none⟩) 0 0) 0 []) → W 6 #[true, true, true, true, true, true, true, true, true, true, true, true, true, true, true, false, true, true, true, true, true, false, true, true, true, true, true, false, false, false, false] ⟨#[.pointer (some ⟨g, 0, none⟩), undef, .pointer none, .pointer (some ⟨g, 0, none⟩), .pointer (some ⟨g, 0, none⟩), .pointer (some ⟨g, 0, none⟩), .int .i64 m.at_, .slice (some ⟨N1, 0, none⟩) 0 0, .pointer (some ⟨g, 0, none⟩), .pointer (some ⟨g, 0, none⟩), .pointer (some ⟨g, 1, none⟩), .slice Ar m.rows.length cr, .slice B1 m.rows.length C1, .slice (some ⟨N2, 0, none⟩) 0 0, .pointer (some ⟨g, 0, none⟩), .pointer (some ⟨g, 0, none⟩), .pointer (some ⟨g, 2, none⟩), .slice Ao m.opn.length co, undef, .slice (some ⟨N3, 0, none⟩) 0 0, .pointer (some ⟨g, 0, none⟩), .pointer (some ⟨g, 0, none⟩), .pointer (some ⟨g, 3, none⟩), .slice Ad m.digs.length cd, undef, .slice (some ⟨N4, 0, none⟩) 0 0, .pointer (some ⟨g, 0, none⟩), .pointer (some ⟨g, 0, none⟩), .pointer (some ⟨g, 4, none⟩), .slice As m.seals.length cs, undef, undef, undef], []⟩ V := by
      intro V B1 C1 N1 N2 N3 N4 hb a1 e2 e3 e4
      rw [hW]
      refine wpAnyH_ready (rs := [15]) (by kernel_rfl) (by simp) ?_
      refine AllReadyH.cons (o := ⟨some 18, _, _, _, _, _⟩) rfl (fun K' hK => ?_) (AllReadyH.nil)
      · refine step_app (o := ⟨some 18, _, _, _, _, _⟩) rfl (.tmp 13) (.tmp 17) 27 rfl w.heap.size 66 i2 _ 3 32 Tryz.underlying27 hi2 hz20 hz21 hz22 rfl (by decide) _ (by rfl) e2.out Ao m.opn.length co _ (by rfl) R2.out (cells_oneP m.opn) (by omega) (by omega) hb.out (Nat.le_refl _) ?_
        intro B2 C2 V' h' k' b'
        refine hK.out _ _ (HS.out _ b') (fun hHeld => ?_)
        clear hK K' hHeld
        try simp only [Act.put, List.setIfInBounds_toArray, List.set_cons_zero, List.set_cons_succ]
        have c := n2_34 V' B1 C1 B2 C2 N1 N2 N3 N4 (Lib.hid (b')) (Lib.hid (own_apart (Lib.hid k') (by decide) a1.out)) (Lib.hid (h')) (Lib.hid (own_apart (Lib.hid k') (by decide) e3.out)) (Lib.hid (own_apart (Lib.hid k') (by decide) e4.out))
        rw [hW] at c
        exact c
    have n1_23 : ∀ (V : World) (B1 : Option Addr) (C1 : Nat) (N1 : Nat) (N2 : Nat) (N3 : Nat), Hid (Below w.heap.size w V) → Hid (V.ownsRow w.heap.size 96 4 (.slice B1 m.rows.length C1) m.rows.length (m.rows.flatMap rowCells)) → Hid (V.ownsRow w.heap.size 66 3 (.slice (some ⟨N2, 0, none⟩) 0 0) 0 []) → Hid (V.ownsRow w.heap.size 56 1 (.slice (some ⟨N3, 0, none⟩) 0 0) 0 []) → W 7 #[true, true, true, true, true, true, true, true, true, true, true, true, true, true, true, false, true, true, true, true, true, false, false, true, true, true, true, false, false, false, false] ⟨#[.pointer (some ⟨g, 0, none⟩), undef, .pointer none, .pointer (some ⟨g, 0, none⟩), .pointer (some ⟨g, 0, none⟩), .pointer (some ⟨g, 0, none⟩), .int .i64 m.at_, .slice (some ⟨N1, 0, none⟩) 0 0, .pointer (some ⟨g, 0, none⟩), .pointer (some ⟨g, 0, none⟩), .pointer (some ⟨g, 1, none⟩), .slice Ar m.rows.length cr, .slice B1 m.rows.length C1, .slice (some ⟨N2, 0, none⟩) 0 0, .pointer (some ⟨g, 0, none⟩), .pointer (some ⟨g, 0, none⟩), .pointer (some ⟨g, 2, none⟩), .slice Ao m.opn.length co, undef, .slice (some ⟨N3, 0, none⟩) 0 0, .pointer (some ⟨g, 0, none⟩), .pointer (some ⟨g, 0, none⟩), .pointer (some ⟨g, 3, none⟩), .slice Ad m.digs.length cd, undef, undef, .pointer (some ⟨g, 0, none⟩), .pointer (some ⟨g, 0, none⟩), .pointer (some ⟨g, 4, none⟩), .slice As m.seals.length cs, undef, undef, undef], []⟩ V := by
      intro V B1 C1 N1 N2 N3 hb a1 e2 e3
      rw [hW]
      refine wpAnyH_ready (rs := [15, 22]) (by kernel_rfl) (by simp) ?_
      refine AllReadyH.cons (o := ⟨some 18, _, _, _, _, _⟩) rfl (fun K' hK => ?_) (AllReadyH.cons (o := ⟨some 25, _, _, _, _, _⟩) rfl (fun K' hK => ?_) (AllReadyH.nil))
      · refine step_app (o := ⟨some 18, _, _, _, _, _⟩) rfl (.tmp 13) (.tmp 17) 27 rfl w.heap.size 66 i2 _ 3 32 Tryz.underlying27 hi2 hz20 hz21 hz22 rfl (by decide) _ (by rfl) e2.out Ao m.opn.length co _ (by rfl) R2.out (cells_oneP m.opn) (by omega) (by omega) hb.out (Nat.le_refl _) ?_
        intro B2 C2 V' h' k' b'
        refine hK.out _ _ (HS.out _ b') (fun hHeld => ?_)
        clear hK K' hHeld
        try simp only [Act.put, List.setIfInBounds_toArray, List.set_cons_zero, List.set_cons_succ]
        have c := n2_3 V' B1 C1 B2 C2 N1 N2 N3 (Lib.hid (b')) (Lib.hid (own_apart (Lib.hid k') (by decide) a1.out)) (Lib.hid (h')) (Lib.hid (own_apart (Lib.hid k') (by decide) e3.out))
        rw [hW] at c
        exact c
      · go_simp
        refine hK.out _ _ (HS.out _ (below_alloc hb.out _)) (fun hHeld => ?_)
        clear hK K' hHeld
        try simp only [List.setIfInBounds_toArray, List.set_cons_zero, List.set_cons_succ]
        have c := n1_234 (V.alloc (.cells #[] 59)) B1 C1 N1 N2 N3 V.heap.size (Lib.hid (below_alloc hb.out _)) (Lib.hid (own_alloc a1.out _)) (Lib.hid (own_alloc e2.out _)) (Lib.hid (own_alloc e3.out _)) (Lib.hid (own_at rfl hb.out))
        rw [hW] at c
        exact c
    have n1_24 : ∀ (V : World) (B1 : Option Addr) (C1 : Nat) (N1 : Nat) (N2 : Nat) (N4 : Nat), Hid (Below w.heap.size w V) → Hid (V.ownsRow w.heap.size 96 4 (.slice B1 m.rows.length C1) m.rows.length (m.rows.flatMap rowCells)) → Hid (V.ownsRow w.heap.size 66 3 (.slice (some ⟨N2, 0, none⟩) 0 0) 0 []) → Hid (V.ownsRow w.heap.size 59 2 (.slice (some ⟨N4, 0, none⟩) 0 0) 0 []) → W 7 #[true, true, true, true, true, true, true, true, true, true, true, true, true, true, true, false, false, true, true, true, true, false, true, true, true, true, true, false, false, false, false] ⟨#[.pointer (some ⟨g, 0, none⟩), undef, .pointer none, .pointer (some ⟨g, 0, none⟩), .pointer (some ⟨g, 0, none⟩), .pointer (some ⟨g, 0, none⟩), .int .i64 m.at_, .slice (some ⟨N1, 0, none⟩) 0 0, .pointer (some ⟨g, 0, none⟩), .pointer (some ⟨g, 0, none⟩), .pointer (some ⟨g, 1, none⟩), .slice Ar m.rows.length cr, .slice B1 m.rows.length C1, .slice (some ⟨N2, 0, none⟩) 0 0, .pointer (some ⟨g, 0, none⟩), .pointer (some ⟨g, 0, none⟩), .pointer (some ⟨g, 2, none⟩), .slice Ao m.opn.length co, undef, undef, .pointer (some ⟨g, 0, none⟩), .pointer (some ⟨g, 0, none⟩), .pointer (some ⟨g, 3, none⟩), .slice Ad m.digs.length cd, undef, .slice (some ⟨N4, 0, none⟩) 0 0, .pointer (some ⟨g, 0, none⟩), .pointer (some ⟨g, 0, none⟩), .pointer (some ⟨g, 4, none⟩), .slice As m.seals.length cs, undef, undef, undef], []⟩ V := by
      intro V B1 C1 N1 N2 N4 hb a1 e2 e4
      rw [hW]
      refine wpAnyH_ready (rs := [15, 16]) (by kernel_rfl) (by simp) ?_
      refine AllReadyH.cons (o := ⟨some 18, _, _, _, _, _⟩) rfl (fun K' hK => ?_) (AllReadyH.cons (o := ⟨some 19, _, _, _, _, _⟩) rfl (fun K' hK => ?_) (AllReadyH.nil))
      · refine step_app (o := ⟨some 18, _, _, _, _, _⟩) rfl (.tmp 13) (.tmp 17) 27 rfl w.heap.size 66 i2 _ 3 32 Tryz.underlying27 hi2 hz20 hz21 hz22 rfl (by decide) _ (by rfl) e2.out Ao m.opn.length co _ (by rfl) R2.out (cells_oneP m.opn) (by omega) (by omega) hb.out (Nat.le_refl _) ?_
        intro B2 C2 V' h' k' b'
        refine hK.out _ _ (HS.out _ b') (fun hHeld => ?_)
        clear hK K' hHeld
        try simp only [Act.put, List.setIfInBounds_toArray, List.set_cons_zero, List.set_cons_succ]
        have c := n2_4 V' B1 C1 B2 C2 N1 N2 N4 (Lib.hid (b')) (Lib.hid (own_apart (Lib.hid k') (by decide) a1.out)) (Lib.hid (h')) (Lib.hid (own_apart (Lib.hid k') (by decide) e4.out))
        rw [hW] at c
        exact c
      · go_simp
        refine hK.out _ _ (HS.out _ (below_alloc hb.out _)) (fun hHeld => ?_)
        clear hK K' hHeld
        try simp only [List.setIfInBounds_toArray, List.set_cons_zero, List.set_cons_succ]
        have c := n1_234 (V.alloc (.cells #[] 56)) B1 C1 N1 N2 V.heap.size N4 (Lib.hid (below_alloc hb.out _)) (Lib.hid (own_alloc a1.out _)) (Lib.hid (own_alloc e2.out _)) (Lib.hid (own_at rfl hb.out)) (Lib.hid (own_alloc e4.out _))
        rw [hW] at c
        exact c
    have n1_34 : ∀ (V : World) (B1 : Option Addr) (C1 : Nat) (N1 : Nat) (N3 : Nat) (N4 : Nat), Hid (Below w.heap.size w V) → Hid (V.ownsRow w.heap.size 96 4 (.slice B1 m.rows.length C1) m.rows.length (m.rows.flatMap rowCells)) → Hid (V.ownsRow w.heap.size 56 1 (.slice (some ⟨N3, 0, none⟩) 0 0) 0 []) → Hid (V.ownsRow w.heap.size 59 2 (.slice (some ⟨N4, 0, none⟩) 0 0) 0 []) → W 7 #[true, true, true, true, true, true, true, true, true, true, false, true, true, true, true, false, true, true, true, true, true, false, true, true, true, true, true, false, false, false, false] ⟨#[.pointer (some ⟨g, 0, none⟩), undef, .pointer none, .pointer (some ⟨g, 0, none⟩), .pointer (some ⟨g, 0, none⟩), .pointer (some ⟨g, 0, none⟩), .int .i64 m.at_, .slice (some ⟨N1, 0, none⟩) 0 0, .pointer (some ⟨g, 0, none⟩), .pointer (some ⟨g, 0, none⟩), .pointer (some ⟨g, 1, none⟩), .slice Ar m.rows.length cr, .slice B1 m.rows.length C1, undef, .pointer (some ⟨g, 0, none⟩), .pointer (some ⟨g, 0, none⟩), .pointer (some ⟨g, 2, none⟩), .slice Ao m.opn.length co, undef, .slice (some ⟨N3, 0, none⟩) 0 0, .pointer (some ⟨g, 0, none⟩), .pointer (some ⟨g, 0, none⟩), .pointer (some ⟨g, 3, none⟩), .slice Ad m.digs.length cd, undef, .slice (some ⟨N4, 0, none⟩) 0 0, .pointer (some ⟨g, 0, none⟩), .pointer (some ⟨g, 0, none⟩), .pointer (some ⟨g, 4, none⟩), .slice As m.seals.length cs, undef, undef, undef], []⟩ V := by
      intro V B1 C1 N1 N3 N4 hb a1 e3 e4
      rw [hW]
      refine wpAnyH_ready (rs := [10]) (by kernel_rfl) (by simp) ?_
      refine AllReadyH.cons (o := ⟨some 13, _, _, _, _, _⟩) rfl (fun K' hK => ?_) (AllReadyH.nil)
      · go_simp
        refine hK.out _ _ (HS.out _ (below_alloc hb.out _)) (fun hHeld => ?_)
        clear hK K' hHeld
        try simp only [List.setIfInBounds_toArray, List.set_cons_zero, List.set_cons_succ]
        have c := n1_234 (V.alloc (.cells #[] 66)) B1 C1 N1 V.heap.size N3 N4 (Lib.hid (below_alloc hb.out _)) (Lib.hid (own_alloc a1.out _)) (Lib.hid (own_at rfl hb.out)) (Lib.hid (own_alloc e3.out _)) (Lib.hid (own_alloc e4.out _))
        rw [hW] at c
        exact c
    have n1_2 : ∀ (V : World) (B1 : Option Addr) (C1 : Nat) (N1 : Nat) (N2 : Nat), Hid (Below w.heap.size w V) → Hid (V.ownsRow w.heap.size 96 4 (.slice B1 m.rows.length C1) m.rows.length (m.rows.flatMap rowCells)) → Hid (V.ownsRow w.heap.size 66 3 (.slice (some ⟨N2, 0, none⟩) 0 0) 0 []) → W 8 #[true, true, true, true, true, true, true, true, true, true, true, true, true, true, true, false, false, true, true, true, true, false, false, true, true, true, true, false, false, false, false] ⟨#[.pointer (some ⟨g, 0, none⟩), undef, .pointer none, .pointer (some ⟨g, 0, none⟩), .pointer (some ⟨g, 0, none⟩), .pointer (some ⟨g, 0, none⟩), .int .i64 m.at_, .slice (some ⟨N1, 0, none⟩) 0 0, .pointer (some ⟨g, 0, none⟩), .pointer (some ⟨g, 0, none⟩), .pointer (some ⟨g, 1, none⟩), .slice Ar m.rows.length cr, .slice B1 m.rows.length C1, .slice (some ⟨N2, 0, none⟩) 0 0, .pointer (some ⟨g, 0, none⟩), .pointer (some ⟨g, 0, none⟩), .pointer (some ⟨g, 2, none⟩), .slice Ao m.opn.length co, undef, undef, .pointer (some ⟨g, 0, none⟩), .pointer (some ⟨g, 0, none⟩), .pointer (some ⟨g, 3, none⟩), .slice Ad m.digs.length cd, undef, undef, .pointer (some ⟨g, 0, none⟩), .pointer (some ⟨g, 0, none⟩), .pointer (some ⟨g, 4, none⟩), .slice As m.seals.length cs, undef, undef, undef], []⟩ V := by
      intro V B1 C1 N1 N2 hb a1 e2
      rw [hW]
      refine wpAnyH_ready (rs := [15, 16, 22]) (by kernel_rfl) (by simp) ?_
      refine AllReadyH.cons (o := ⟨some 18, _, _, _, _, _⟩) rfl (fun K' hK => ?_) (AllReadyH.cons (o := ⟨some 19, _, _, _, _, _⟩) rfl (fun K' hK => ?_) (AllReadyH.cons (o := ⟨some 25, _, _, _, _, _⟩) rfl (fun K' hK => ?_) (AllReadyH.nil)))
      · refine step_app (o := ⟨some 18, _, _, _, _, _⟩) rfl (.tmp 13) (.tmp 17) 27 rfl w.heap.size 66 i2 _ 3 32 Tryz.underlying27 hi2 hz20 hz21 hz22 rfl (by decide) _ (by rfl) e2.out Ao m.opn.length co _ (by rfl) R2.out (cells_oneP m.opn) (by omega) (by omega) hb.out (Nat.le_refl _) ?_
        intro B2 C2 V' h' k' b'
        refine hK.out _ _ (HS.out _ b') (fun hHeld => ?_)
        clear hK K' hHeld
        try simp only [Act.put, List.setIfInBounds_toArray, List.set_cons_zero, List.set_cons_succ]
        have c := n2_ V' B1 C1 B2 C2 N1 N2 (Lib.hid (b')) (Lib.hid (own_apart (Lib.hid k') (by decide) a1.out)) (Lib.hid (h'))
        rw [hW] at c
        exact c
      · go_simp
        refine hK.out _ _ (HS.out _ (below_alloc hb.out _)) (fun hHeld => ?_)
        clear hK K' hHeld
        try simp only [List.setIfInBounds_toArray, List.set_cons_zero, List.set_cons_succ]
        have c := n1_23 (V.alloc (.cells #[] 56)) B1 C1 N1 N2 V.heap.size (Lib.hid (below_alloc hb.out _)) (Lib.hid (own_alloc a1.out _)) (Lib.hid (own_alloc e2.out _)) (Lib.hid (own_at rfl hb.out))
        rw [hW] at c
        exact c
      · go_simp
        refine hK.out _ _ (HS.out _ (below_alloc hb.out _)) (fun hHeld => ?_)
        clear hK K' hHeld
        try simp only [List.setIfInBounds_toArray, List.set_cons_zero, List.set_cons_succ]
        have c := n1_24 (V.alloc (.cells #[] 59)) B1 C1 N1 N2 V.heap.size (Lib.hid (below_alloc hb.out _)) (Lib.hid (own_alloc a1.out _)) (Lib.hid (own_alloc e2.out _)) (Lib.hid (own_at rfl hb.out))
        rw [hW] at c
        exact c
    have n1_3 : ∀ (V : World) (B1 : Option Addr) (C1 : Nat) (N1 : Nat) (N3 : Nat), Hid (Below w.heap.size w V) → Hid (V.ownsRow w.heap.size 96 4 (.slice B1 m.rows.length C1) m.rows.length (m.rows.flatMap rowCells)) → Hid (V.ownsRow w.heap.size 56 1 (.slice (some ⟨N3, 0, none⟩) 0 0) 0 []) → W 8 #[true, true, true, true, true, true, true, true, true, true, false, true, true, true, true, false, true, true, true, true, true, false, false, true, true, true, true, false, false, false, false] ⟨#[.pointer (some ⟨g, 0, none⟩), undef, .pointer none, .pointer (some ⟨g, 0, none⟩), .pointer (some ⟨g, 0, none⟩), .pointer (some ⟨g, 0, none⟩), .int .i64 m.at_, .slice (some ⟨N1, 0, none⟩) 0 0, .pointer (some ⟨g, 0, none⟩), .pointer (some ⟨g, 0, none⟩), .pointer (some ⟨g, 1, none⟩), .slice Ar m.rows.length cr, .slice B1 m.rows.length C1, undef, .pointer (some ⟨g, 0, none⟩), .pointer (some ⟨g, 0, none⟩), .pointer (some ⟨g, 2, none⟩), .slice Ao m.opn.length co, undef, .slice (some ⟨N3, 0, none⟩) 0 0, .pointer (some ⟨g, 0, none⟩), .pointer (some ⟨g, 0, none⟩), .pointer (some ⟨g, 3, none⟩), .slice Ad m.digs.length cd, undef, undef, .pointer (some ⟨g, 0, none⟩), .pointer (some ⟨g, 0, none⟩), .pointer (some ⟨g, 4, none⟩), .slice As m.seals.length cs, undef, undef, undef], []⟩ V := by
      intro V B1 C1 N1 N3 hb a1 e3
      rw [hW]
      refine wpAnyH_ready (rs := [10, 22]) (by kernel_rfl) (by simp) ?_
      refine AllReadyH.cons (o := ⟨some 13, _, _, _, _, _⟩) rfl (fun K' hK => ?_) (AllReadyH.cons (o := ⟨some 25, _, _, _, _, _⟩) rfl (fun K' hK => ?_) (AllReadyH.nil))
      · go_simp
        refine hK.out _ _ (HS.out _ (below_alloc hb.out _)) (fun hHeld => ?_)
        clear hK K' hHeld
        try simp only [List.setIfInBounds_toArray, List.set_cons_zero, List.set_cons_succ]
        have c := n1_23 (V.alloc (.cells #[] 66)) B1 C1 N1 V.heap.size N3 (Lib.hid (below_alloc hb.out _)) (Lib.hid (own_alloc a1.out _)) (Lib.hid (own_at rfl hb.out)) (Lib.hid (own_alloc e3.out _))
        rw [hW] at c
        exact c
      · go_simp
        refine hK.out _ _ (HS.out _ (below_alloc hb.out _)) (fun hHeld => ?_)
        clear hK K' hHeld
        try simp only [List.setIfInBounds_toArray, List.set_cons_zero, List.set_cons_succ]
        have c := n1_34 (V.alloc (.cells #[] 59)) B1 C1 N1 N3 V.heap.size (Lib.hid (below_alloc hb.out _)) (Lib.hid (own_alloc a1.out _)) (Lib.hid (own_alloc e3.out _)) (Lib.hid (own_at rfl hb.out))
        rw [hW] at c
        exact c
    have n1_4 : ∀ (V : World) (B1 : Option Addr) (C1 : Nat) (N1 : Nat) (N4 : Nat), Hid (Below w.heap.size w V) → Hid (V.ownsRow w.heap.size 96 4 (.slice B1 m.rows.length C1) m.rows.length (m.rows.flatMap rowCells)) → Hid (V.ownsRow w.heap.size 59 2 (.slice (some ⟨N4, 0, none⟩) 0 0) 0 []) → W 8 #[true, true, true, true, true, true, true, true, true, true, false, true, true, true, true, false, false, true, true, true, true, false, true, true, true, true, true, false, false, false, false] ⟨#[.pointer (some ⟨g, 0, none⟩), undef, .pointer none, .pointer (some ⟨g, 0, none⟩), .pointer (some ⟨g, 0, none⟩), .pointer (some ⟨g, 0, none⟩), .int .i64 m.at_, .slice (some ⟨N1, 0, none⟩) 0 0, .pointer (some ⟨g, 0, none⟩), .pointer (some ⟨g, 0, none⟩), .pointer (some ⟨g, 1, none⟩), .slice Ar m.rows.length cr, .slice B1 m.rows.length C1, undef, .pointer (some ⟨g, 0, none⟩), .pointer (some ⟨g, 0, none⟩), .pointer (some ⟨g, 2, none⟩), .slice Ao m.opn.length co, undef, undef, .pointer (some ⟨g, 0, none⟩), .pointer (some ⟨g, 0, none⟩), .pointer (some ⟨g, 3, none⟩), .slice Ad m.digs.length cd, undef, .slice (some ⟨N4, 0, none⟩) 0 0, .pointer (some ⟨g, 0, none⟩), .pointer (some ⟨g, 0, none⟩), .pointer (some ⟨g, 4, none⟩), .slice As m.seals.length cs, undef, undef, undef], []⟩ V := by
      intro V B1 C1 N1 N4 hb a1 e4
      rw [hW]
      refine wpAnyH_ready (rs := [10, 16]) (by kernel_rfl) (by simp) ?_
      refine AllReadyH.cons (o := ⟨some 13, _, _, _, _, _⟩) rfl (fun K' hK => ?_) (AllReadyH.cons (o := ⟨some 19, _, _, _, _, _⟩) rfl (fun K' hK => ?_) (AllReadyH.nil))
      · go_simp
        refine hK.out _ _ (HS.out _ (below_alloc hb.out _)) (fun hHeld => ?_)
        clear hK K' hHeld
        try simp only [List.setIfInBounds_toArray, List.set_cons_zero, List.set_cons_succ]
        have c := n1_24 (V.alloc (.cells #[] 66)) B1 C1 N1 V.heap.size N4 (Lib.hid (below_alloc hb.out _)) (Lib.hid (own_alloc a1.out _)) (Lib.hid (own_at rfl hb.out)) (Lib.hid (own_alloc e4.out _))
        rw [hW] at c
        exact c
      · go_simp
        refine hK.out _ _ (HS.out _ (below_alloc hb.out _)) (fun hHeld => ?_)
        clear hK K' hHeld
        try simp only [List.setIfInBounds_toArray, List.set_cons_zero, List.set_cons_succ]
        have c := n1_34 (V.alloc (.cells #[] 56)) B1 C1 N1 V.heap.size N4 (Lib.hid (below_alloc hb.out _)) (Lib.hid (own_alloc a1.out _)) (Lib.hid (own_at rfl hb.out)) (Lib.hid (own_alloc e4.out _))
        rw [hW] at c
        exact c
    have n1_ : ∀ (V : World) (B1 : Option Addr) (C1 : Nat) (N1 : Nat), Hid (Below w.heap.size w V) → Hid (V.ownsRow w.heap.size 96 4 (.slice B1 m.rows.length C1) m.rows.length (m.rows.flatMap rowCells)) → W 9 #[true, true, true, true, true, true, true, true, true, true, false, true, true, true, true, false, false, true, true, true, true, false, false, true, true, true, true, false, false, false, false] ⟨#[.pointer (some ⟨g, 0, none⟩), undef, .pointer none, .pointer (some ⟨g, 0, none⟩), .pointer (some ⟨g, 0, none⟩), .pointer (some ⟨g, 0, none⟩), .int .i64 m.at_, .slice (some ⟨N1, 0, none⟩) 0 0, .pointer (some ⟨g, 0, none⟩), .pointer (some ⟨g, 0, none⟩), .pointer (some ⟨g, 1, none⟩), .slice Ar m.rows.length cr, .slice B1 m.rows.length C1, undef, .pointer (some ⟨g, 0, none⟩), .pointer (some ⟨g, 0, none⟩), .pointer (some ⟨g, 2, none⟩), .slice Ao m.opn.length co, undef, undef, .pointer (some ⟨g, 0, none⟩), .pointer (some ⟨g, 0, none⟩), .pointer (some ⟨g, 3, none⟩), .slice Ad m.digs.length cd, undef, undef, .pointer (some ⟨g, 0, none⟩), .pointer (some ⟨g, 0, none⟩), .pointer (some ⟨g, 4, none⟩), .slice As m.seals.length cs, undef, undef, undef], []⟩ V := by
      intro V B1 C1 N1 hb a1
      rw [hW]
      refine wpAnyH_ready (rs := [10, 16, 22]) (by kernel_rfl) (by simp) ?_
      refine AllReadyH.cons (o := ⟨some 13, _, _, _, _, _⟩) rfl (fun K' hK => ?_) (AllReadyH.cons (o := ⟨some 19, _, _, _, _, _⟩) rfl (fun K' hK => ?_) (AllReadyH.cons (o := ⟨some 25, _, _, _, _, _⟩) rfl (fun K' hK => ?_) (AllReadyH.nil)))
      · go_simp
        refine hK.out _ _ (HS.out _ (below_alloc hb.out _)) (fun hHeld => ?_)
        clear hK K' hHeld
        try simp only [List.setIfInBounds_toArray, List.set_cons_zero, List.set_cons_succ]
        have c := n1_2 (V.alloc (.cells #[] 66)) B1 C1 N1 V.heap.size (Lib.hid (below_alloc hb.out _)) (Lib.hid (own_alloc a1.out _)) (Lib.hid (own_at rfl hb.out))
        rw [hW] at c
        exact c
      · go_simp
        refine hK.out _ _ (HS.out _ (below_alloc hb.out _)) (fun hHeld => ?_)
        clear hK K' hHeld
        try simp only [List.setIfInBounds_toArray, List.set_cons_zero, List.set_cons_succ]
        have c := n1_3 (V.alloc (.cells #[] 56)) B1 C1 N1 V.heap.size (Lib.hid (below_alloc hb.out _)) (Lib.hid (own_alloc a1.out _)) (Lib.hid (own_at rfl hb.out))
        rw [hW] at c
        exact c
      · go_simp
        refine hK.out _ _ (HS.out _ (below_alloc hb.out _)) (fun hHeld => ?_)
        clear hK K' hHeld
        try simp only [List.setIfInBounds_toArray, List.set_cons_zero, List.set_cons_succ]
        have c := n1_4 (V.alloc (.cells #[] 59)) B1 C1 N1 V.heap.size (Lib.hid (below_alloc hb.out _)) (Lib.hid (own_alloc a1.out _)) (Lib.hid (own_at rfl hb.out))
        rw [hW] at c
        exact c
    have n0_1234 : ∀ (V : World) (N1 : Nat) (N2 : Nat) (N3 : Nat) (N4 : Nat), Hid (Below w.heap.size w V) → Hid (V.ownsRow w.heap.size 96 4 (.slice (some ⟨N1, 0, none⟩) 0 0) 0 []) → Hid (V.ownsRow w.heap.size 66 3 (.slice (some ⟨N2, 0, none⟩) 0 0) 0 []) → Hid (V.ownsRow w.heap.size 56 1 (.slice (some ⟨N3, 0, none⟩) 0 0) 0 []) → Hid (V.ownsRow w.heap.size 59 2 (.slice (some ⟨N4, 0, none⟩) 0 0) 0 []) → W 7 #[true, true, true, true, true, true, true, true, true, false, true, true, true, true, true, false, true, true, true, true, true, false, true, true, true, true, true, false, false, false, false] ⟨#[.pointer (some ⟨g, 0, none⟩), undef, .pointer none, .pointer (some ⟨g, 0, none⟩), .pointer (some ⟨g, 0, none⟩), .pointer (some ⟨g, 0, none⟩), .int .i64 m.at_, .slice (some ⟨N1, 0, none⟩) 0 0, .pointer (some ⟨g, 0, none⟩), .pointer (some ⟨g, 0, none⟩), .pointer (some ⟨g, 1, none⟩), .slice Ar m.rows.length cr, undef, .slice (some ⟨N2, 0, none⟩) 0 0, .pointer (some ⟨g, 0, none⟩), .pointer (some ⟨g, 0, none⟩), .pointer (some ⟨g, 2, none⟩), .slice Ao m.opn.length co, undef, .slice (some ⟨N3, 0, none⟩) 0 0, .pointer (some ⟨g, 0, none⟩), .pointer (some ⟨g, 0, none⟩), .pointer (some ⟨g, 3, none⟩), .slice Ad m.digs.length cd, undef, .slice (some ⟨N4, 0, none⟩) 0 0, .pointer (some ⟨g, 0, none⟩), .pointer (some ⟨g, 0, none⟩), .pointer (some ⟨g, 4, none⟩), .slice As m.seals.length cs, undef, undef, undef], []⟩ V := by
      intro V N1 N2 N3 N4 hb e1 e2 e3 e4
      rw [hW]
      refine wpAnyH_ready (rs := [9]) (by kernel_rfl) (by simp) ?_
      refine AllReadyH.cons (o := ⟨some 12, _, _, _, _, _⟩) rfl (fun K' hK => ?_) (AllReadyH.nil)
      · refine step_app (o := ⟨some 12, _, _, _, _, _⟩) rfl (.tmp 7) (.tmp 11) 26 rfl w.heap.size 96 i1 _ 4 32 Tryz.underlying26 hi1 hz10 hz11 hz12 rfl (by decide) _ (by rfl) e1.out Ar m.rows.length cr _ (by rfl) R1.out (rowCells_one m.rows) (by omega) (by omega) hb.out (Nat.le_refl _) ?_
        intro B1 C1 V' h' k' b'
        refine hK.out _ _ (HS.out _ b') (fun hHeld => ?_)
        clear hK K' hHeld
        try simp only [Act.put, List.setIfInBounds_toArray, List.set_cons_zero, List.set_cons_succ]
        have c := n1_234 V' B1 C1 N1 N2 N3 N4 (Lib.hid (b')) (Lib.hid (h')) (Lib.hid (own_apart (Lib.hid k') (by decide) e2.out)) (Lib.hid (own_apart (Lib.hid k') (by decide) e3.out)) (Lib.hid (own_apart (Lib.hid k') (by decide) e4.out))
        rw [hW] at c
        exact c
    have n0_123 : ∀ (V : World) (N1 : Nat) (N2 : Nat) (N3 : Nat), Hid (Below w.heap.size w V) → Hid (V.ownsRow w.heap.size 96 4 (.slice (some ⟨N1, 0, none⟩) 0 0) 0 []) → Hid (V.ownsRow w.heap.size 66 3 (.slice (some ⟨N2, 0, none⟩) 0 0) 0 []) → Hid (V.ownsRow w.heap.size 56 1 (.slice (some ⟨N3, 0, none⟩) 0 0) 0 []) → W 8 #[true, true, true, true, true, true, true, true, true, false, true, true, true, true, true, false, true, true, true, true, true, false, false, true, true, true, true, false, false, false, false] ⟨#[.pointer (some ⟨g, 0, none⟩), undef, .pointer none, .pointer (some ⟨g, 0, none⟩), .pointer (some ⟨g, 0, none⟩), .pointer (some ⟨g, 0, none⟩), .int .i64 m.at_, .slice (some ⟨N1, 0, none⟩) 0 0, .pointer (some ⟨g, 0, none⟩), .pointer (some ⟨g, 0, none⟩), .pointer (some ⟨g, 1, none⟩), .slice Ar m.rows.length cr, undef, .slice (some ⟨N2, 0, none⟩) 0 0, .pointer (some ⟨g, 0, none⟩), .pointer (some ⟨g, 0, none⟩), .pointer (some ⟨g, 2, none⟩), .slice Ao m.opn.length co, undef, .slice (some ⟨N3, 0, none⟩) 0 0, .pointer (some ⟨g, 0, none⟩), .pointer (some ⟨g, 0, none⟩), .pointer (some ⟨g, 3, none⟩), .slice Ad m.digs.length cd, undef, undef, .pointer (some ⟨g, 0, none⟩), .pointer (some ⟨g, 0, none⟩), .pointer (some ⟨g, 4, none⟩), .slice As m.seals.length cs, undef, undef, undef], []⟩ V := by
      intro V N1 N2 N3 hb e1 e2 e3
      rw [hW]
      refine wpAnyH_ready (rs := [9, 22]) (by kernel_rfl) (by simp) ?_
      refine AllReadyH.cons (o := ⟨some 12, _, _, _, _, _⟩) rfl (fun K' hK => ?_) (AllReadyH.cons (o := ⟨some 25, _, _, _, _, _⟩) rfl (fun K' hK => ?_) (AllReadyH.nil))
      · refine step_app (o := ⟨some 12, _, _, _, _, _⟩) rfl (.tmp 7) (.tmp 11) 26 rfl w.heap.size 96 i1 _ 4 32 Tryz.underlying26 hi1 hz10 hz11 hz12 rfl (by decide) _ (by rfl) e1.out Ar m.rows.length cr _ (by rfl) R1.out (rowCells_one m.rows) (by omega) (by omega) hb.out (Nat.le_refl _) ?_
        intro B1 C1 V' h' k' b'
        refine hK.out _ _ (HS.out _ b') (fun hHeld => ?_)
        clear hK K' hHeld
        try simp only [Act.put, List.setIfInBounds_toArray, List.set_cons_zero, List.set_cons_succ]
        have c := n1_23 V' B1 C1 N1 N2 N3 (Lib.hid (b')) (Lib.hid (h')) (Lib.hid (own_apart (Lib.hid k') (by decide) e2.out)) (Lib.hid (own_apart (Lib.hid k') (by decide) e3.out))
        rw [hW] at c
        exact c
      · go_simp
        refine hK.out _ _ (HS.out _ (below_alloc hb.out _)) (fun hHeld => ?_)
        clear hK K' hHeld
        try simp only [List.setIfInBounds_toArray, List.set_cons_zero, List.set_cons_succ]
        have c := n0_1234 (V.alloc (.cells #[] 59)) N1 N2 N3 V.heap.size (Lib.hid (below_alloc hb.out _)) (Lib.hid (own_alloc e1.out _)) (Lib.hid (own_alloc e2.out _)) (Lib.hid (own_alloc e3.out _)) (Lib.hid (own_at rfl hb.out))
        rw [hW] at c
        exact c
    have n0_124 : ∀ (V : World) (N1 : Nat) (N2 : Nat) (N4 : Nat), Hid (Below w.heap.size w V) → Hid (V.ownsRow w.heap.size 96 4 (.slice (some ⟨N1, 0, none⟩) 0 0) 0 []) → Hid (V.ownsRow w.heap.size 66 3 (.slice (some ⟨N2, 0, none⟩) 0 0) 0 []) → Hid (V.ownsRow w.heap.size 59 2 (.slice (some ⟨N4, 0, none⟩) 0 0) 0 []) → W 8 #[true, true, true, true, true, true, true, true, true, false, true, true, true, true, true, false, false, true, true, true, true, false, true, true, true, true, true, false, false, false, false] ⟨#[.pointer (some ⟨g, 0, none⟩), undef, .pointer none, .pointer (some ⟨g, 0, none⟩), .pointer (some ⟨g, 0, none⟩), .pointer (some ⟨g, 0, none⟩), .int .i64 m.at_, .slice (some ⟨N1, 0, none⟩) 0 0, .pointer (some ⟨g, 0, none⟩), .pointer (some ⟨g, 0, none⟩), .pointer (some ⟨g, 1, none⟩), .slice Ar m.rows.length cr, undef, .slice (some ⟨N2, 0, none⟩) 0 0, .pointer (some ⟨g, 0, none⟩), .pointer (some ⟨g, 0, none⟩), .pointer (some ⟨g, 2, none⟩), .slice Ao m.opn.length co, undef, undef, .pointer (some ⟨g, 0, none⟩), .pointer (some ⟨g, 0, none⟩), .pointer (some ⟨g, 3, none⟩), .slice Ad m.digs.length cd, undef, .slice (some ⟨N4, 0, none⟩) 0 0, .pointer (some ⟨g, 0, none⟩), .pointer (some ⟨g, 0, none⟩), .pointer (some ⟨g, 4, none⟩), .slice As m.seals.length cs, undef, undef, undef], []⟩ V := by
      intro V N1 N2 N4 hb e1 e2 e4
      rw [hW]
      refine wpAnyH_ready (rs := [9, 16]) (by kernel_rfl) (by simp) ?_
      refine AllReadyH.cons (o := ⟨some 12, _, _, _, _, _⟩) rfl (fun K' hK => ?_) (AllReadyH.cons (o := ⟨some 19, _, _, _, _, _⟩) rfl (fun K' hK => ?_) (AllReadyH.nil))
      · refine step_app (o := ⟨some 12, _, _, _, _, _⟩) rfl (.tmp 7) (.tmp 11) 26 rfl w.heap.size 96 i1 _ 4 32 Tryz.underlying26 hi1 hz10 hz11 hz12 rfl (by decide) _ (by rfl) e1.out Ar m.rows.length cr _ (by rfl) R1.out (rowCells_one m.rows) (by omega) (by omega) hb.out (Nat.le_refl _) ?_
        intro B1 C1 V' h' k' b'
        refine hK.out _ _ (HS.out _ b') (fun hHeld => ?_)
        clear hK K' hHeld
        try simp only [Act.put, List.setIfInBounds_toArray, List.set_cons_zero, List.set_cons_succ]
        have c := n1_24 V' B1 C1 N1 N2 N4 (Lib.hid (b')) (Lib.hid (h')) (Lib.hid (own_apart (Lib.hid k') (by decide) e2.out)) (Lib.hid (own_apart (Lib.hid k') (by decide) e4.out))
        rw [hW] at c
        exact c
      · go_simp
        refine hK.out _ _ (HS.out _ (below_alloc hb.out _)) (fun hHeld => ?_)
        clear hK K' hHeld
        try simp only [List.setIfInBounds_toArray, List.set_cons_zero, List.set_cons_succ]
        have c := n0_1234 (V.alloc (.cells #[] 56)) N1 N2 V.heap.size N4 (Lib.hid (below_alloc hb.out _)) (Lib.hid (own_alloc e1.out _)) (Lib.hid (own_alloc e2.out _)) (Lib.hid (own_at rfl hb.out)) (Lib.hid (own_alloc e4.out _))
        rw [hW] at c
        exact c
    have n0_134 : ∀ (V : World) (N1 : Nat) (N3 : Nat) (N4 : Nat), Hid (Below w.heap.size w V) → Hid (V.ownsRow w.heap.size 96 4 (.slice (some ⟨N1, 0, none⟩) 0 0) 0 []) → Hid (V.ownsRow w.heap.size 56 1 (.slice (some ⟨N3, 0, none⟩) 0 0) 0 []) → Hid (V.ownsRow w.heap.size 59 2 (.slice (some ⟨N4, 0, none⟩) 0 0) 0 []) → W 8 #[true, true, true, true, true, true, true, true, true, false, false, true, true, true, true, false, true, true, true, true, true, false, true, true, true, true, true, false, false, false, false] ⟨#[.pointer (some ⟨g, 0, none⟩), undef, .pointer none, .pointer (some ⟨g, 0, none⟩), .pointer (some ⟨g, 0, none⟩), .pointer (some ⟨g, 0, none⟩), .int .i64 m.at_, .slice (some ⟨N1, 0, none⟩) 0 0, .pointer (some ⟨g, 0, none⟩), .pointer (some ⟨g, 0, none⟩), .pointer (some ⟨g, 1, none⟩), .slice Ar m.rows.length cr, undef, undef, .pointer (some ⟨g, 0, none⟩), .pointer (some ⟨g, 0, none⟩), .pointer (some ⟨g, 2, none⟩), .slice Ao m.opn.length co, undef, .slice (some ⟨N3, 0, none⟩) 0 0, .pointer (some ⟨g, 0, none⟩), .pointer (some ⟨g, 0, none⟩), .pointer (some ⟨g, 3, none⟩), .slice Ad m.digs.length cd, undef, .slice (some ⟨N4, 0, none⟩) 0 0, .pointer (some ⟨g, 0, none⟩), .pointer (some ⟨g, 0, none⟩), .pointer (some ⟨g, 4, none⟩), .slice As m.seals.length cs, undef, undef, undef], []⟩ V := by
      intro V N1 N3 N4 hb e1 e3 e4
      rw [hW]
      refine wpAnyH_ready (rs := [9, 10]) (by kernel_rfl) (by simp) ?_
      refine AllReadyH.cons (o := ⟨some 12, _, _, _, _, _⟩) rfl (fun K' hK => ?_) (AllReadyH.cons (o := ⟨some 13, _, _, _, _, _⟩) rfl (fun K' hK => ?_) (AllReadyH.nil))
      · refine step_app (o := ⟨some 12, _, _, _, _, _⟩) rfl (.tmp 7) (.tmp 11) 26 rfl w.heap.size 96 i1 _ 4 32 Tryz.underlying26 hi1 hz10 hz11 hz12 rfl (by decide) _ (by rfl) e1.out Ar m.rows.length cr _ (by rfl) R1.out (rowCells_one m.rows) (by omega) (by omega) hb.out (Nat.le_refl _) ?_
        intro B1 C1 V' h' k' b'
        refine hK.out _ _ (HS.out _ b') (fun hHeld => ?_)
        clear hK K' hHeld
        try simp only [Act.put, List.setIfInBounds_toArray, List.set_cons_zero, List.set_cons_succ]
        have c := n1_34 V' B1 C1 N1 N3 N4 (Lib.hid (b')) (Lib.hid (h')) (Lib.hid (own_apart (Lib.hid k') (by decide) e3.out)) (Lib.hid (own_apart (Lib.hid k') (by decide) e4.out))
        rw [hW] at c
        exact c
      · go_simp
        refine hK.out _ _ (HS.out _ (below_alloc hb.out _)) (fun hHeld => ?_)
        clear hK K' hHeld
        try simp only [List.setIfInBounds_toArray, List.set_cons_zero, List.set_cons_succ]
        have c := n0_1234 (V.alloc (.cells #[] 66)) N1 V.heap.size N3 N4 (Lib.hid (below_alloc hb.out _)) (Lib.hid (own_alloc e1.out _)) (Lib.hid (own_at rfl hb.out)) (Lib.hid (own_alloc e3.out _)) (Lib.hid (own_alloc e4.out _))
        rw [hW] at c
        exact c
    have n0_234 : ∀ (V : World) (N2 : Nat) (N3 : Nat) (N4 : Nat), Hid (Below w.heap.size w V) → Hid (V.ownsRow w.heap.size 66 3 (.slice (some ⟨N2, 0, none⟩) 0 0) 0 []) → Hid (V.ownsRow w.heap.size 56 1 (.slice (some ⟨N3, 0, none⟩) 0 0) 0 []) → Hid (V.ownsRow w.heap.size 59 2 (.slice (some ⟨N4, 0, none⟩) 0 0) 0 []) → W 8 #[true, true, true, true, false, true, true, true, true, false, true, true, true, true, true, false, true, true, true, true, true, false, true, true, true, true, true, false, false, false, false] ⟨#[.pointer (some ⟨g, 0, none⟩), undef, .pointer none, .pointer (some ⟨g, 0, none⟩), .pointer (some ⟨g, 0, none⟩), .pointer (some ⟨g, 0, none⟩), .int .i64 m.at_, undef, .pointer (some ⟨g, 0, none⟩), .pointer (some ⟨g, 0, none⟩), .pointer (some ⟨g, 1, none⟩), .slice Ar m.rows.length cr, undef, .slice (some ⟨N2, 0, none⟩) 0 0, .pointer (some ⟨g, 0, none⟩), .pointer (some ⟨g, 0, none⟩), .pointer (some ⟨g, 2, none⟩), .slice Ao m.opn.length co, undef, .slice (some ⟨N3, 0, none⟩) 0 0, .pointer (some ⟨g, 0, none⟩), .pointer (some ⟨g, 0, none⟩), .pointer (some ⟨g, 3, none⟩), .slice Ad m.digs.length cd, undef, .slice (some ⟨N4, 0, none⟩) 0 0, .pointer (some ⟨g, 0, none⟩), .pointer (some ⟨g, 0, none⟩), .pointer (some ⟨g, 4, none⟩), .slice As m.seals.length cs, undef, undef, undef], []⟩ V := by
      intro V N2 N3 N4 hb e2 e3 e4
      rw [hW]
      refine wpAnyH_ready (rs := [4]) (by kernel_rfl) (by simp) ?_
      refine AllReadyH.cons (o := ⟨some 7, _, _, _, _, _⟩) rfl (fun K' hK => ?_) (AllReadyH.nil)
      · go_simp
        refine hK.out _ _ (HS.out _ (below_alloc hb.out _)) (fun hHeld => ?_)
        clear hK K' hHeld
        try simp only [List.setIfInBounds_toArray, List.set_cons_zero, List.set_cons_succ]
        have c := n0_1234 (V.alloc (.cells #[] 96)) V.heap.size N2 N3 N4 (Lib.hid (below_alloc hb.out _)) (Lib.hid (own_at rfl hb.out)) (Lib.hid (own_alloc e2.out _)) (Lib.hid (own_alloc e3.out _)) (Lib.hid (own_alloc e4.out _))
        rw [hW] at c
        exact c
    have n0_12 : ∀ (V : World) (N1 : Nat) (N2 : Nat), Hid (Below w.heap.size w V) → Hid (V.ownsRow w.heap.size 96 4 (.slice (some ⟨N1, 0, none⟩) 0 0) 0 []) → Hid (V.ownsRow w.heap.size 66 3 (.slice (some ⟨N2, 0, none⟩) 0 0) 0 []) → W 9 #[true, true, true, true, true, true, true, true, true, false, true, true, true, true, true, false, false, true, true, true, true, false, false, true, true, true, true, false, false, false, false] ⟨#[.pointer (some ⟨g, 0, none⟩), undef, .pointer none, .pointer (some ⟨g, 0, none⟩), .pointer (some ⟨g, 0, none⟩), .pointer (some ⟨g, 0, none⟩), .int .i64 m.at_, .slice (some ⟨N1, 0, none⟩) 0 0, .pointer (some ⟨g, 0, none⟩), .pointer (some ⟨g, 0, none⟩), .pointer (some ⟨g, 1, none⟩), .slice Ar m.rows.length cr, undef, .slice (some ⟨N2, 0, none⟩) 0 0, .pointer (some ⟨g, 0, none⟩), .pointer (some ⟨g, 0, none⟩), .pointer (some ⟨g, 2, none⟩), .slice Ao m.opn.length co, undef, undef, .pointer (some ⟨g, 0, none⟩), .pointer (some ⟨g, 0, none⟩), .pointer (some ⟨g, 3, none⟩), .slice Ad m.digs.length cd, undef, undef, .pointer (some ⟨g, 0, none⟩), .pointer (some ⟨g, 0, none⟩), .pointer (some ⟨g, 4, none⟩), .slice As m.seals.length cs, undef, undef, undef], []⟩ V := by
      intro V N1 N2 hb e1 e2
      rw [hW]
      refine wpAnyH_ready (rs := [9, 16, 22]) (by kernel_rfl) (by simp) ?_
      refine AllReadyH.cons (o := ⟨some 12, _, _, _, _, _⟩) rfl (fun K' hK => ?_) (AllReadyH.cons (o := ⟨some 19, _, _, _, _, _⟩) rfl (fun K' hK => ?_) (AllReadyH.cons (o := ⟨some 25, _, _, _, _, _⟩) rfl (fun K' hK => ?_) (AllReadyH.nil)))
      · refine step_app (o := ⟨some 12, _, _, _, _, _⟩) rfl (.tmp 7) (.tmp 11) 26 rfl w.heap.size 96 i1 _ 4 32 Tryz.underlying26 hi1 hz10 hz11 hz12 rfl (by decide) _ (by rfl) e1.out Ar m.rows.length cr _ (by rfl) R1.out (rowCells_one m.rows) (by omega) (by omega) hb.out (Nat.le_refl _) ?_
        intro B1 C1 V' h' k' b'
        refine hK.out _ _ (HS.out _ b') (fun hHeld => ?_)
        clear hK K' hHeld
        try simp only [Act.put, List.setIfInBounds_toArray, List.set_cons_zero, List.set_cons_succ]
        have c := n1_2 V' B1 C1 N1 N2 (Lib.hid (b')) (Lib.hid (h')) (Lib.hid (own_apart (Lib.hid k') (by decide) e2.out))
        rw [hW] at c
        exact c
      · go_simp
        refine hK.out _ _ (HS.out _ (below_alloc hb.out _)) (fun hHeld => ?_)
        clear hK K' hHeld
        try simp only [List.setIfInBounds_toArray, List.set_cons_zero, List.set_cons_succ]
        have c := n0_123 (V.alloc (.cells #[] 56)) N1 N2 V.heap.size (Lib.hid (below_alloc hb.out _)) (Lib.hid (own_alloc e1.out _)) (Lib.hid (own_alloc e2.out _)) (Lib.hid (own_at rfl hb.out))
        rw [hW] at c
        exact c
      · go_simp
        refine hK.out _ _ (HS.out _ (below_alloc hb.out _)) (fun hHeld => ?_)
        clear hK K' hHeld
        try simp only [List.setIfInBounds_toArray, List.set_cons_zero, List.set_cons_succ]
        have c := n0_124 (V.alloc (.cells #[] 59)) N1 N2 V.heap.size (Lib.hid (below_alloc hb.out _)) (Lib.hid (own_alloc e1.out _)) (Lib.hid (own_alloc e2.out _)) (Lib.hid (own_at rfl hb.out))
        rw [hW] at c
        exact c
    have n0_13 : ∀ (V : World) (N1 : Nat) (N3 : Nat), Hid (Below w.heap.size w V) → Hid (V.ownsRow w.heap.size 96 4 (.slice (some ⟨N1, 0, none⟩) 0 0) 0 []) → Hid (V.ownsRow w.heap.size 56 1 (.slice (some ⟨N3, 0, none⟩) 0 0) 0 []) → W 9 #[true, true, true, true, true, true, true, true, true, false, false, true, true, true, true, false, true, true, true, true, true, false, false, true, true, true, true, false, false, false, false] ⟨#[.pointer (some ⟨g, 0, none⟩), undef, .pointer none, .pointer (some ⟨g, 0, none⟩), .pointer (some ⟨g, 0, none⟩), .pointer (some ⟨g, 0, none⟩), .int .i64 m.at_, .slice (some ⟨N1, 0, none⟩) 0 0, .pointer (some ⟨g, 0, none⟩), .pointer (some ⟨g, 0, none⟩), .pointer (some ⟨g, 1, none⟩), .slice Ar m.rows.length cr, undef, undef, .pointer (some ⟨g, 0, none⟩), .pointer (some ⟨g, 0, none⟩), .pointer (some ⟨g, 2, none⟩), .slice Ao m.opn.length co, undef, .slice (some ⟨N3, 0, none⟩) 0 0, .pointer (some ⟨g, 0, none⟩), .pointer (some ⟨g, 0, none⟩), .pointer (some ⟨g, 3, none⟩), .slice Ad m.digs.length cd, undef, undef, .pointer (some ⟨g, 0, none⟩), .pointer (some ⟨g, 0, none⟩), .pointer (some ⟨g, 4, none⟩), .slice As m.seals.length cs, undef, undef, undef], []⟩ V := by
      intro V N1 N3 hb e1 e3
      rw [hW]
      refine wpAnyH_ready (rs := [9, 10, 22]) (by kernel_rfl) (by simp) ?_
      refine AllReadyH.cons (o := ⟨some 12, _, _, _, _, _⟩) rfl (fun K' hK => ?_) (AllReadyH.cons (o := ⟨some 13, _, _, _, _, _⟩) rfl (fun K' hK => ?_) (AllReadyH.cons (o := ⟨some 25, _, _, _, _, _⟩) rfl (fun K' hK => ?_) (AllReadyH.nil)))
      · refine step_app (o := ⟨some 12, _, _, _, _, _⟩) rfl (.tmp 7) (.tmp 11) 26 rfl w.heap.size 96 i1 _ 4 32 Tryz.underlying26 hi1 hz10 hz11 hz12 rfl (by decide) _ (by rfl) e1.out Ar m.rows.length cr _ (by rfl) R1.out (rowCells_one m.rows) (by omega) (by omega) hb.out (Nat.le_refl _) ?_
        intro B1 C1 V' h' k' b'
        refine hK.out _ _ (HS.out _ b') (fun hHeld => ?_)
        clear hK K' hHeld
        try simp only [Act.put, List.setIfInBounds_toArray, List.set_cons_zero, List.set_cons_succ]
        have c := n1_3 V' B1 C1 N1 N3 (Lib.hid (b')) (Lib.hid (h')) (Lib.hid (own_apart (Lib.hid k') (by decide) e3.out))
        rw [hW] at c
        exact c
      · go_simp
        refine hK.out _ _ (HS.out _ (below_alloc hb.out _)) (fun hHeld => ?_)
        clear hK K' hHeld
        try simp only [List.setIfInBounds_toArray, List.set_cons_zero, List.set_cons_succ]
        have c := n0_123 (V.alloc (.cells #[] 66)) N1 V.heap.size N3 (Lib.hid (below_alloc hb.out _)) (Lib.hid (own_alloc e1.out _)) (Lib.hid (own_at rfl hb.out)) (Lib.hid (own_alloc e3.out _))
        rw [hW] at c
        exact c
      · go_simp
        refine hK.out _ _ (HS.out _ (below_alloc hb.out _)) (fun hHeld => ?_)
        clear hK K' hHeld
        try simp only [List.setIfInBounds_toArray, List.set_cons_zero, List.set_cons_succ]
        have c := n0_134 (V.alloc (.cells #[] 59)) N1 N3 V.heap.size (Lib.hid (below_alloc hb.out _)) (Lib.hid (own_alloc e1.out _)) (Lib.hid (own_alloc e3.out _)) (Lib.hid (own_at rfl hb.out))
        rw [hW] at c
        exact c
    have n0_14 : ∀ (V : World) (N1 : Nat) (N4 : Nat), Hid (Below w.heap.size w V) → Hid (V.ownsRow w.heap.size 96 4 (.slice (some ⟨N1, 0, none⟩) 0 0) 0 []) → Hid (V.ownsRow w.heap.size 59 2 (.slice (some ⟨N4, 0, none⟩) 0 0) 0 []) → W 9 #[true, true, true, true, true, true, true, true, true, false, false, true, true, true, true, false, false, true, true, true, true, false, true, true, true, true, true, false, false, false, false] ⟨#[.pointer (some ⟨g, 0, none⟩), undef, .pointer none, .pointer (some ⟨g, 0, none⟩), .pointer (some ⟨g, 0, none⟩), .pointer (some ⟨g, 0, none⟩), .int .i64 m.at_, .slice (some ⟨N1, 0, none⟩) 0 0, .pointer (some ⟨g, 0, none⟩), .pointer (some ⟨g, 0, none⟩), .pointer (some ⟨g, 1, none⟩), .slice Ar m.rows.length cr, undef, undef, .pointer (some ⟨g, 0, none⟩), .pointer (some ⟨g, 0, none⟩), .pointer (some ⟨g, 2, none⟩), .slice Ao m.opn.length co, undef, undef, .pointer (some ⟨g, 0, none⟩), .pointer (some ⟨g, 0, none⟩), .pointer (some ⟨g, 3, none⟩), .slice Ad m.digs.length cd, undef, .slice (some ⟨N4, 0, none⟩) 0 0, .pointer (some ⟨g, 0, none⟩), .pointer (some ⟨g, 0, none⟩), .pointer (some ⟨g, 4, none⟩), .slice As m.seals.length cs, undef, undef, undef], []⟩ V := by
      intro V N1 N4 hb e1 e4
      rw [hW]
      refine wpAnyH_ready (rs := [9, 10, 16]) (by kernel_rfl) (by simp) ?_
      refine AllReadyH.cons (o := ⟨some 12, _, _, _, _, _⟩) rfl (fun K' hK => ?_) (AllReadyH.cons (o := ⟨some 13, _, _, _, _, _⟩) rfl (fun K' hK => ?_) (AllReadyH.cons (o := ⟨some 19, _, _, _, _, _⟩) rfl (fun K' hK => ?_) (AllReadyH.nil)))
      · refine step_app (o := ⟨some 12, _, _, _, _, _⟩) rfl (.tmp 7) (.tmp 11) 26 rfl w.heap.size 96 i1 _ 4 32 Tryz.underlying26 hi1 hz10 hz11 hz12 rfl (by decide) _ (by rfl) e1.out Ar m.rows.length cr _ (by rfl) R1.out (rowCells_one m.rows) (by omega) (by omega) hb.out (Nat.le_refl _) ?_
        intro B1 C1 V' h' k' b'
        refine hK.out _ _ (HS.out _ b') (fun hHeld => ?_)
        clear hK K' hHeld
        try simp only [Act.put, List.setIfInBounds_toArray, List.set_cons_zero, List.set_cons_succ]
        have c := n1_4 V' B1 C1 N1 N4 (Lib.hid (b')) (Lib.hid (h')) (Lib.hid (own_apart (Lib.hid k') (by decide) e4.out))
        rw [hW] at c
        exact c
      · go_simp
        refine hK.out _ _ (HS.out _ (below_alloc hb.out _)) (fun hHeld => ?_)
        clear hK K' hHeld
        try simp only [List.setIfInBounds_toArray, List.set_cons_zero, List.set_cons_succ]
        have c := n0_124 (V.alloc (.cells #[] 66)) N1 V.heap.size N4 (Lib.hid (below_alloc hb.out _)) (Lib.hid (own_alloc e1.out _)) (Lib.hid (own_at rfl hb.out)) (Lib.hid (own_alloc e4.out _))
        rw [hW] at c
        exact c
      · go_simp
        refine hK.out _ _ (HS.out _ (below_alloc hb.out _)) (fun hHeld => ?_)
        clear hK K' hHeld
        try simp only [List.setIfInBounds_toArray, List.set_cons_zero, List.set_cons_succ]
        have c := n0_134 (V.alloc (.cells #[] 56)) N1 V.heap.size N4 (Lib.hid (below_alloc hb.out _)) (Lib.hid (own_alloc e1.out _)) (Lib.hid (own_at rfl hb.out)) (Lib.hid (own_alloc e4.out _))
        rw [hW] at c
        exact c
    have n0_23 : ∀ (V : World) (N2 : Nat) (N3 : Nat), Hid (Below w.heap.size w V) → Hid (V.ownsRow w.heap.size 66 3 (.slice (some ⟨N2, 0, none⟩) 0 0) 0 []) → Hid (V.ownsRow w.heap.size 56 1 (.slice (some ⟨N3, 0, none⟩) 0 0) 0 []) → W 9 #[true, true, true, true, false, true, true, true, true, false, true, true, true, true, true, false, true, true, true, true, true, false, false, true, true, true, true, false, false, false, false] ⟨#[.pointer (some ⟨g, 0, none⟩), undef, .pointer none, .pointer (some ⟨g, 0, none⟩), .pointer (some ⟨g, 0, none⟩), .pointer (some ⟨g, 0, none⟩), .int .i64 m.at_, undef, .pointer (some ⟨g, 0, none⟩), .pointer (some ⟨g, 0, none⟩), .pointer (some ⟨g, 1, none⟩), .slice Ar m.rows.length cr, undef, .slice (some ⟨N2, 0, none⟩) 0 0, .pointer (some ⟨g, 0, none⟩), .pointer (some ⟨g, 0, none⟩), .pointer (some ⟨g, 2, none⟩), .slice Ao m.opn.length co, undef, .slice (some ⟨N3, 0, none⟩) 0 0, .pointer (some ⟨g, 0, none⟩), .pointer (some ⟨g, 0, none⟩), .pointer (some ⟨g, 3, none⟩), .slice Ad m.digs.length cd, undef, undef, .pointer (some ⟨g, 0, none⟩), .pointer (some ⟨g, 0, none⟩), .pointer (some ⟨g, 4, none⟩), .slice As m.seals.length cs, undef, undef, undef], []⟩ V := by
      intro V N2 N3 hb e2 e3
      rw [hW]
      refine wpAnyH_ready (rs := [4, 22]) (by kernel_rfl) (by simp) ?_
      refine AllReadyH.cons (o := ⟨some 7, _, _, _, _, _⟩) rfl (fun K' hK => ?_) (AllReadyH.cons (o := ⟨some 25, _, _, _, _, _⟩) rfl (fun K' hK => ?_) (AllReadyH.nil))
      · go_simp
        refine hK.out _ _ (HS.out _ (below_alloc hb.out _)) (fun hHeld => ?_)
        clear hK K' hHeld
        try simp only [List.setIfInBounds_toArray, List.set_cons_zero, List.set_cons_succ]
        have c := n0_123 (V.alloc (.cells #[] 96)) V.heap.size N2 N3 (Lib.hid (below_alloc hb.out _)) (Lib.hid (own_at rfl hb.out)) (Lib.hid (own_alloc e2.out _)) (Lib.hid (own_alloc e3.out _))
        rw [hW] at c
        exact c
      · go_simp
        refine hK.out _ _ (HS.out _ (below_alloc hb.out _)) (fun hHeld => ?_)
        clear hK K' hHeld
        try simp only [List.setIfInBounds_toArray, List.set_cons_zero, List.set_cons_succ]
        have c := n0_234 (V.alloc (.cells #[] 59)) N2 N3 V.heap.size (Lib.hid (below_alloc hb.out _)) (Lib.hid (own_alloc e2.out _)) (Lib.hid (own_alloc e3.out _)) (Lib.hid (own_at rfl hb.out))
        rw [hW] at c
        exact c
    have n0_24 : ∀ (V : World) (N2 : Nat) (N4 : Nat), Hid (Below w.heap.size w V) → Hid (V.ownsRow w.heap.size 66 3 (.slice (some ⟨N2, 0, none⟩) 0 0) 0 []) → Hid (V.ownsRow w.heap.size 59 2 (.slice (some ⟨N4, 0, none⟩) 0 0) 0 []) → W 9 #[true, true, true, true, false, true, true, true, true, false, true, true, true, true, true, false, false, true, true, true, true, false, true, true, true, true, true, false, false, false, false] ⟨#[.pointer (some ⟨g, 0, none⟩), undef, .pointer none, .pointer (some ⟨g, 0, none⟩), .pointer (some ⟨g, 0, none⟩), .pointer (some ⟨g, 0, none⟩), .int .i64 m.at_, undef, .pointer (some ⟨g, 0, none⟩), .pointer (some ⟨g, 0, none⟩), .pointer (some ⟨g, 1, none⟩), .slice Ar m.rows.length cr, undef, .slice (some ⟨N2, 0, none⟩) 0 0, .pointer (some ⟨g, 0, none⟩), .pointer (some ⟨g, 0, none⟩), .pointer (some ⟨g, 2, none⟩), .slice Ao m.opn.length co, undef, undef, .pointer (some ⟨g, 0, none⟩), .pointer (some ⟨g, 0, none⟩), .pointer (some ⟨g, 3, none⟩), .slice Ad m.digs.length cd, undef, .slice (some ⟨N4, 0, none⟩) 0 0, .pointer (some ⟨g, 0, none⟩), .pointer (some ⟨g, 0, none⟩), .pointer (some ⟨g, 4, none⟩), .slice As m.seals.length cs, undef, undef, undef], []⟩ V := by
      intro V N2 N4 hb e2 e4
      rw [hW]
      refine wpAnyH_ready (rs := [4, 16]) (by kernel_rfl) (by simp) ?_
      refine AllReadyH.cons (o := ⟨some 7, _, _, _, _, _⟩) rfl (fun K' hK => ?_) (AllReadyH.cons (o := ⟨some 19, _, _, _, _, _⟩) rfl (fun K' hK => ?_) (AllReadyH.nil))
      · go_simp
        refine hK.out _ _ (HS.out _ (below_alloc hb.out _)) (fun hHeld => ?_)
        clear hK K' hHeld
        try simp only [List.setIfInBounds_toArray, List.set_cons_zero, List.set_cons_succ]
        have c := n0_124 (V.alloc (.cells #[] 96)) V.heap.size N2 N4 (Lib.hid (below_alloc hb.out _)) (Lib.hid (own_at rfl hb.out)) (Lib.hid (own_alloc e2.out _)) (Lib.hid (own_alloc e4.out _))
        rw [hW] at c
        exact c
      · go_simp
        refine hK.out _ _ (HS.out _ (below_alloc hb.out _)) (fun hHeld => ?_)
        clear hK K' hHeld
        try simp only [List.setIfInBounds_toArray, List.set_cons_zero, List.set_cons_succ]
        have c := n0_234 (V.alloc (.cells #[] 56)) N2 V.heap.size N4 (Lib.hid (below_alloc hb.out _)) (Lib.hid (own_alloc e2.out _)) (Lib.hid (own_at rfl hb.out)) (Lib.hid (own_alloc e4.out _))
        rw [hW] at c
        exact c
    have n0_34 : ∀ (V : World) (N3 : Nat) (N4 : Nat), Hid (Below w.heap.size w V) → Hid (V.ownsRow w.heap.size 56 1 (.slice (some ⟨N3, 0, none⟩) 0 0) 0 []) → Hid (V.ownsRow w.heap.size 59 2 (.slice (some ⟨N4, 0, none⟩) 0 0) 0 []) → W 9 #[true, true, true, true, false, true, true, true, true, false, false, true, true, true, true, false, true, true, true, true, true, false, true, true, true, true, true, false, false, false, false] ⟨#[.pointer (some ⟨g, 0, none⟩), undef, .pointer none, .pointer (some ⟨g, 0, none⟩), .pointer (some ⟨g, 0, none⟩), .pointer (some ⟨g, 0, none⟩), .int .i64 m.at_, undef, .pointer (some ⟨g, 0, none⟩), .pointer (some ⟨g, 0, none⟩), .pointer (some ⟨g, 1, none⟩), .slice Ar m.rows.length cr, undef, undef, .pointer (some ⟨g, 0, none⟩), .pointer (some ⟨g, 0, none⟩), .pointer (some ⟨g, 2, none⟩), .slice Ao m.opn.length co, undef, .slice (some ⟨N3, 0, none⟩) 0 0, .pointer (some ⟨g, 0, none⟩), .pointer (some ⟨g, 0, none⟩), .pointer (some ⟨g, 3, none⟩), .slice Ad m.digs.length cd, undef, .slice (some ⟨N4, 0, none⟩) 0 0, .pointer (some ⟨g, 0, none⟩), .pointer (some ⟨g, 0, none⟩), .pointer (some ⟨g, 4, none⟩), .slice As m.seals.length cs, undef, undef, undef], []⟩ V := by
      intro V N3 N4 hb e3 e4
      rw [hW]
      refine wpAnyH_ready (rs := [4, 10]) (by kernel_rfl) (by simp) ?_
      refine AllReadyH.cons (o := ⟨some 7, _, _, _, _, _⟩) rfl (fun K' hK => ?_) (AllReadyH.cons (o := ⟨some 13, _, _, _, _, _⟩) rfl (fun K' hK => ?_) (AllReadyH.nil))
      · go_simp
        refine hK.out _ _ (HS.out _ (below_alloc hb.out _)) (fun hHeld => ?_)
        clear hK K' hHeld
        try simp only [List.setIfInBounds_toArray, List.set_cons_zero, List.set_cons_succ]
        have c := n0_134 (V.alloc (.cells #[] 96)) V.heap.size N3 N4 (Lib.hid (below_alloc hb.out _)) (Lib.hid (own_at rfl hb.out)) (Lib.hid (own_alloc e3.out _)) (Lib.hid (own_alloc e4.out _))
        rw [hW] at c
        exact c
      · go_simp
        refine hK.out _ _ (HS.out _ (below_alloc hb.out _)) (fun hHeld => ?_)
        clear hK K' hHeld
        try simp only [List.setIfInBounds_toArray, List.set_cons_zero, List.set_cons_succ]
        have c := n0_234 (V.alloc (.cells #[] 66)) V.heap.size N3 N4 (Lib.hid (below_alloc hb.out _)) (Lib.hid (own_at rfl hb.out)) (Lib.hid (own_alloc e3.out _)) (Lib.hid (own_alloc e4.out _))
        rw [hW] at c
        exact c
    have n0_1 : ∀ (V : World) (N1 : Nat), Hid (Below w.heap.size w V) → Hid (V.ownsRow w.heap.size 96 4 (.slice (some ⟨N1, 0, none⟩) 0 0) 0 []) → W 10 #[true, true, true, true, true, true, true, true, true, false, false, true, true, true, true, false, false, true, true, true, true, false, false, true, true, true, true, false, false, false, false] ⟨#[.pointer (some ⟨g, 0, none⟩), undef, .pointer none, .pointer (some ⟨g, 0, none⟩), .pointer (some ⟨g, 0, none⟩), .pointer (some ⟨g, 0, none⟩), .int .i64 m.at_, .slice (some ⟨N1, 0, none⟩) 0 0, .pointer (some ⟨g, 0, none⟩), .pointer (some ⟨g, 0, none⟩), .pointer (some ⟨g, 1, none⟩), .slice Ar m.rows.length cr, undef, undef, .pointer (some ⟨g, 0, none⟩), .pointer (some ⟨g, 0, none⟩), .pointer (some ⟨g, 2, none⟩), .slice Ao m.opn.length co, undef, undef, .pointer (some ⟨g, 0, none⟩), .pointer (some ⟨g, 0, none⟩), .pointer (some ⟨g, 3, none⟩), .slice Ad m.digs.length cd, undef, undef, .pointer (some ⟨g, 0, none⟩), .pointer (some ⟨g, 0, none⟩), .pointer (some ⟨g, 4, none⟩), .slice As m.seals.length cs, undef, undef, undef], []⟩ V := by
      intro V N1 hb e1
      rw [hW]
      refine wpAnyH_ready (rs := [9, 10, 16, 22]) (by kernel_rfl) (by simp) ?_
      refine AllReadyH.cons (o := ⟨some 12, _, _, _, _, _⟩) rfl (fun K' hK => ?_) (AllReadyH.cons (o := ⟨some 13, _, _, _, _, _⟩) rfl (fun K' hK => ?_) (AllReadyH.cons (o := ⟨some 19, _, _, _, _, _⟩) rfl (fun K' hK => ?_) (AllReadyH.cons (o := ⟨some 25, _, _, _, _, _⟩) rfl (fun K' hK => ?_) (AllReadyH.nil))))
      · refine step_app (o := ⟨some 12, _, _, _, _, _⟩) rfl (.tmp 7) (.tmp 11) 26 rfl w.heap.size 96 i1 _ 4 32 Tryz.underlying26 hi1 hz10 hz11 hz12 rfl (by decide) _ (by rfl) e1.out Ar m.rows.length cr _ (by rfl) R1.out (rowCells_one m.rows) (by omega) (by omega) hb.out (Nat.le_refl _) ?_
        intro B1 C1 V' h' k' b'
        refine hK.out _ _ (HS.out _ b') (fun hHeld => ?_)
        clear hK K' hHeld
        try simp only [Act.put, List.setIfInBounds_toArray, List.set_cons_zero, List.set_cons_succ]
        have c := n1_ V' B1 C1 N1 (Lib.hid (b')) (Lib.hid (h'))
        rw [hW] at c
        exact c
      · go_simp
        refine hK.out _ _ (HS.out _ (below_alloc hb.out _)) (fun hHeld => ?_)
        clear hK K' hHeld
        try simp only [List.setIfInBounds_toArray, List.set_cons_zero, List.set_cons_succ]
        have c := n0_12 (V.alloc (.cells #[] 66)) N1 V.heap.size (Lib.hid (below_alloc hb.out _)) (Lib.hid (own_alloc e1.out _)) (Lib.hid (own_at rfl hb.out))
        rw [hW] at c
        exact c
      · go_simp
        refine hK.out _ _ (HS.out _ (below_alloc hb.out _)) (fun hHeld => ?_)
        clear hK K' hHeld
        try simp only [List.setIfInBounds_toArray, List.set_cons_zero, List.set_cons_succ]
        have c := n0_13 (V.alloc (.cells #[] 56)) N1 V.heap.size (Lib.hid (below_alloc hb.out _)) (Lib.hid (own_alloc e1.out _)) (Lib.hid (own_at rfl hb.out))
        rw [hW] at c
        exact c
      · go_simp
        refine hK.out _ _ (HS.out _ (below_alloc hb.out _)) (fun hHeld => ?_)
        clear hK K' hHeld
        try simp only [List.setIfInBounds_toArray, List.set_cons_zero, List.set_cons_succ]
        have c := n0_14 (V.alloc (.cells #[] 59)) N1 V.heap.size (Lib.hid (below_alloc hb.out _)) (Lib.hid (own_alloc e1.out _)) (Lib.hid (own_at rfl hb.out))
        rw [hW] at c
        exact c
    have n0_2 : ∀ (V : World) (N2 : Nat), Hid (Below w.heap.size w V) → Hid (V.ownsRow w.heap.size 66 3 (.slice (some ⟨N2, 0, none⟩) 0 0) 0 []) → W 10 #[true, true, true, true, false, true, true, true, true, false, true, true, true, true, true, false, false, true, true, true, true, false, false, true, true, true, true, false, false, false, false] ⟨#[.pointer (some ⟨g, 0, none⟩), undef, .pointer none, .pointer (some ⟨g, 0, none⟩), .pointer (some ⟨g, 0, none⟩), .pointer (some ⟨g, 0, none⟩), .int .i64 m.at_, undef, .pointer (some ⟨g, 0, none⟩), .pointer (some ⟨g, 0, none⟩), .pointer (some ⟨g, 1, none⟩), .slice Ar m.rows.length cr, undef, .slice (some ⟨N2, 0, none⟩) 0 0, .pointer (some ⟨g, 0, none⟩), .pointer (some ⟨g, 0, none⟩), .pointer (some ⟨g, 2, none⟩), .slice Ao m.opn.length co, undef, undef, .pointer (some ⟨g, 0, none⟩), .pointer (some ⟨g, 0, none⟩), .pointer (some ⟨g, 3, none⟩), .slice Ad m.digs.length cd, undef, undef, .pointer (some ⟨g, 0, none⟩), .pointer (some ⟨g, 0, none⟩), .pointer (some ⟨g, 4, none⟩), .slice As m.seals.length cs, undef, undef, undef], []⟩ V := by
      intro V N2 hb e2
      rw [hW]
      refine wpAnyH_ready (rs := [4, 16, 22]) (by kernel_rfl) (by simp) ?_
      refine AllReadyH.cons (o := ⟨some 7, _, _, _, _, _⟩) rfl (fun K' hK => ?_) (AllReadyH.cons (o := ⟨some 19, _, _, _, _, _⟩) rfl (fun K' hK => ?_) (AllReadyH.cons (o := ⟨some 25, _, _, _, _, _⟩) rfl (fun K' hK => ?_) (AllReadyH.nil)))
      · go_simp
        refine hK.out _ _ (HS.out _ (below_alloc hb.out _)) (fun hHeld => ?_)
        clear hK K' hHeld
        try simp only [List.setIfInBounds_toArray, List.set_cons_zero, List.set_cons_succ]
        have c := n0_12 (V.alloc (.cells #[] 96)) V.heap.size N2 (Lib.hid (below_alloc hb.out _)) (Lib.hid (own_at rfl hb.out)) (Lib.hid (own_alloc e2.out _))
        rw [hW] at c
        exact c
      · go_simp
        refine hK.out _ _ (HS.out _ (below_alloc hb.out _)) (fun hHeld => ?_)
        clear hK K' hHeld
        try simp only [List.setIfInBounds_toArray, List.set_cons_zero, List.set_cons_succ]
        have c := n0_23 (V.alloc (.cells #[] 56)) N2 V.heap.size (Lib.hid (below_alloc hb.out _)) (Lib.hid (own_alloc e2.out _)) (Lib.hid (own_at rfl hb.out))
        rw [hW] at c
        exact c
      · go_simp
        refine hK.out _ _ (HS.out _ (below_alloc hb.out _)) (fun hHeld => ?_)
        clear hK K' hHeld
        try simp only [List.setIfInBounds_toArray, List.set_cons_zero, List.set_cons_succ]
        have c := n0_24 (V.alloc (.cells #[] 59)) N2 V.heap.size (Lib.hid (below_alloc hb.out _)) (Lib.hid (own_alloc e2.out _)) (Lib.hid (own_at rfl hb.out))
        rw [hW] at c
        exact c
    have n0_3 : ∀ (V : World) (N3 : Nat), Hid (Below w.heap.size w V) → Hid (V.ownsRow w.heap.size 56 1 (.slice (some ⟨N3, 0, none⟩) 0 0) 0 []) → W 10 #[true, true, true, true, false, true, true, true, true, false, false, true, true, true, true, false, true, true, true, true, true, false, false, true, true, true, true, false, false, false, false] ⟨#[.pointer (some ⟨g, 0, none⟩), undef, .pointer none, .pointer (some ⟨g, 0, none⟩), .pointer (some ⟨g, 0, none⟩), .pointer (some ⟨g, 0, none⟩), .int .i64 m.at_, undef, .pointer (some ⟨g, 0, none⟩), .pointer (some ⟨g, 0, none⟩), .pointer (some ⟨g, 1, none⟩), .slice Ar m.rows.length cr, undef, undef, .pointer (some ⟨g, 0, none⟩), .pointer (some ⟨g, 0, none⟩), .pointer (some ⟨g, 2, none⟩), .slice Ao m.opn.length co, undef, .slice (some ⟨N3, 0, none⟩) 0 0, .pointer (some ⟨g, 0, none⟩), .pointer (some ⟨g, 0, none⟩), .pointer (some ⟨g, 3, none⟩), .slice Ad m.digs.length cd, undef, undef, .pointer (some ⟨g, 0, none⟩), .pointer (some ⟨g, 0, none⟩), .pointer (some ⟨g, 4, none⟩), .slice As m.seals.length cs, undef, undef, undef], []⟩ V := by
      intro V N3 hb e3
      rw [hW]
      refine wpAnyH_ready (rs := [4, 10, 22]) (by kernel_rfl) (by simp) ?_
      refine AllReadyH.cons (o := ⟨some 7, _, _, _, _, _⟩) rfl (fun K' hK => ?_) (AllReadyH.cons (o := ⟨some 13, _, _, _, _, _⟩) rfl (fun K' hK => ?_) (AllReadyH.cons (o := ⟨some 25, _, _, _, _, _⟩) rfl (fun K' hK => ?_) (AllReadyH.nil)))
      · go_simp
        refine hK.out _ _ (HS.out _ (below_alloc hb.out _)) (fun hHeld => ?_)
        clear hK K' hHeld
        try simp only [List.setIfInBounds_toArray, List.set_cons_zero, List.set_cons_succ]
        have c := n0_13 (V.alloc (.cells #[] 96)) V.heap.size N3 (Lib.hid (below_alloc hb.out _)) (Lib.hid (own_at rfl hb.out)) (Lib.hid (own_alloc e3.out _))
        rw [hW] at c
        exact c
      · go_simp
        refine hK.out _ _ (HS.out _ (below_alloc hb.out _)) (fun hHeld => ?_)
        clear hK K' hHeld
        try simp only [List.setIfInBounds_toArray, List.set_cons_zero, List.set_cons_succ]
        have c := n0_23 (V.alloc (.cells #[] 66)) V.heap.size N3 (Lib.hid (below_alloc hb.out _)) (Lib.hid (own_at rfl hb.out)) (Lib.hid (own_alloc e3.out _))
        rw [hW] at c
        exact c
      · go_simp
        refine hK.out _ _ (HS.out _ (below_alloc hb.out _)) (fun hHeld => ?_)
        clear hK K' hHeld
        try simp only [List.setIfInBounds_toArray, List.set_cons_zero, List.set_cons_succ]
        have c := n0_34 (V.alloc (.cells #[] 59)) N3 V.heap.size (Lib.hid (below_alloc hb.out _)) (Lib.hid (own_alloc e3.out _)) (Lib.hid (own_at rfl hb.out))
        rw [hW] at c
        exact c
    have n0_4 : ∀ (V : World) (N4 : Nat), Hid (Below w.heap.size w V) → Hid (V.ownsRow w.heap.size 59 2 (.slice (some ⟨N4, 0, none⟩) 0 0) 0 []) → W 10 #[true, true, true, true, false, true, true, true, true, false, false, true, true, true, true, false, false, true, true, true, true, false, true, true, true, true, true, false, false, false, false] ⟨#[.pointer (some ⟨g, 0, none⟩), undef, .pointer none, .pointer (some ⟨g, 0, none⟩), .pointer (some ⟨g, 0, none⟩), .pointer (some ⟨g, 0, none⟩), .int .i64 m.at_, undef, .pointer (some ⟨g, 0, none⟩), .pointer (some ⟨g, 0, none⟩), .pointer (some ⟨g, 1, none⟩), .slice Ar m.rows.length cr, undef, undef, .pointer (some ⟨g, 0, none⟩), .pointer (some ⟨g, 0, none⟩), .pointer (some ⟨g, 2, none⟩), .slice Ao m.opn.length co, undef, undef, .pointer (some ⟨g, 0, none⟩), .pointer (some ⟨g, 0, none⟩), .pointer (some ⟨g, 3, none⟩), .slice Ad m.digs.length cd, undef, .slice (some ⟨N4, 0, none⟩) 0 0, .pointer (some ⟨g, 0, none⟩), .pointer (some ⟨g, 0, none⟩), .pointer (some ⟨g, 4, none⟩), .slice As m.seals.length cs, undef, undef, undef], []⟩ V := by
      intro V N4 hb e4
      rw [hW]
      refine wpAnyH_ready (rs := [4, 10, 16]) (by kernel_rfl) (by simp) ?_
      refine AllReadyH.cons (o := ⟨some 7, _, _, _, _, _⟩) rfl (fun K' hK => ?_) (AllReadyH.cons (o := ⟨some 13, _, _, _, _, _⟩) rfl (fun K' hK => ?_) (AllReadyH.cons (o := ⟨some 19, _, _, _, _, _⟩) rfl (fun K' hK => ?_) (AllReadyH.nil)))
      · go_simp
        refine hK.out _ _ (HS.out _ (below_alloc hb.out _)) (fun hHeld => ?_)
        clear hK K' hHeld
        try simp only [List.setIfInBounds_toArray, List.set_cons_zero, List.set_cons_succ]
        have c := n0_14 (V.alloc (.cells #[] 96)) V.heap.size N4 (Lib.hid (below_alloc hb.out _)) (Lib.hid (own_at rfl hb.out)) (Lib.hid (own_alloc e4.out _))
        rw [hW] at c
        exact c
      · go_simp
        refine hK.out _ _ (HS.out _ (below_alloc hb.out _)) (fun hHeld => ?_)
        clear hK K' hHeld
        try simp only [List.setIfInBounds_toArray, List.set_cons_zero, List.set_cons_succ]
        have c := n0_24 (V.alloc (.cells #[] 66)) V.heap.size N4 (Lib.hid (below_alloc hb.out _)) (Lib.hid (own_at rfl hb.out)) (Lib.hid (own_alloc e4.out _))
        rw [hW] at c
        exact c
      · go_simp
        refine hK.out _ _ (HS.out _ (below_alloc hb.out _)) (fun hHeld => ?_)
        clear hK K' hHeld
        try simp only [List.setIfInBounds_toArray, List.set_cons_zero, List.set_cons_succ]
        have c := n0_34 (V.alloc (.cells #[] 56)) V.heap.size N4 (Lib.hid (below_alloc hb.out _)) (Lib.hid (own_at rfl hb.out)) (Lib.hid (own_alloc e4.out _))
        rw [hW] at c
        exact c
    have n0_ : ∀ (V : World), Hid (Below w.heap.size w V) → W 11 #[true, true, true, true, false, true, true, true, true, false, false, true, true, true, true, false, false, true, true, true, true, false, false, true, true, true, true, false, false, false, false] ⟨#[.pointer (some ⟨g, 0, none⟩), undef, .pointer none, .pointer (some ⟨g, 0, none⟩), .pointer (some ⟨g, 0, none⟩), .pointer (some ⟨g, 0, none⟩), .int .i64 m.at_, undef, .pointer (some ⟨g, 0, none⟩), .pointer (some ⟨g, 0, none⟩), .pointer (some ⟨g, 1, none⟩), .slice Ar m.rows.length cr, undef, undef, .pointer (some ⟨g, 0, none⟩), .pointer (some ⟨g, 0, none⟩), .pointer (some ⟨g, 2, none⟩), .slice Ao m.opn.length co, undef, undef, .pointer (some ⟨g, 0, none⟩), .pointer (some ⟨g, 0, none⟩), .pointer (some ⟨g, 3, none⟩), .slice Ad m.digs.length cd, undef, undef, .pointer (some ⟨g, 0, none⟩), .pointer (some ⟨g, 0, none⟩), .pointer (some ⟨g, 4, none⟩), .slice As m.seals.length cs, undef, undef, undef], []⟩ V := by
      intro V hb
      rw [hW]
      refine wpAnyH_ready (rs := [4, 10, 16, 22]) (by kernel_rfl) (by simp) ?_
      refine AllReadyH.cons (o := ⟨some 7, _, _, _, _, _⟩) rfl (fun K' hK => ?_) (AllReadyH.cons (o := ⟨some 13, _, _, _, _, _⟩) rfl (fun K' hK => ?_) (AllReadyH.cons (o := ⟨some 19, _, _, _, _, _⟩) rfl (fun K' hK => ?_) (AllReadyH.cons (o := ⟨some 25, _, _, _, _, _⟩) rfl (fun K' hK => ?_) (AllReadyH.nil))))
      · go_simp
        refine hK.out _ _ (HS.out _ (below_alloc hb.out _)) (fun hHeld => ?_)
        clear hK K' hHeld
        try simp only [List.setIfInBounds_toArray, List.set_cons_zero, List.set_cons_succ]
        have c := n0_1 (V.alloc (.cells #[] 96)) V.heap.size (Lib.hid (below_alloc hb.out _)) (Lib.hid (own_at rfl hb.out))
        rw [hW] at c
        exact c
      · go_simp
        refine hK.out _ _ (HS.out _ (below_alloc hb.out _)) (fun hHeld => ?_)
        clear hK K' hHeld
        try simp only [List.setIfInBounds_toArray, List.set_cons_zero, List.set_cons_succ]
        have c := n0_2 (V.alloc (.cells #[] 66)) V.heap.size (Lib.hid (below_alloc hb.out _)) (Lib.hid (own_at rfl hb.out))
        rw [hW] at c
        exact c
      · go_simp
        refine hK.out _ _ (HS.out _ (below_alloc hb.out _)) (fun hHeld => ?_)
        clear hK K' hHeld
        try simp only [List.setIfInBounds_toArray, List.set_cons_zero, List.set_cons_succ]
        have c := n0_3 (V.alloc (.cells #[] 56)) V.heap.size (Lib.hid (below_alloc hb.out _)) (Lib.hid (own_at rfl hb.out))
        rw [hW] at c
        exact c
      · go_simp
        refine hK.out _ _ (HS.out _ (below_alloc hb.out _)) (fun hHeld => ?_)
        clear hK K' hHeld
        try simp only [List.setIfInBounds_toArray, List.set_cons_zero, List.set_cons_succ]
        have c := n0_4 (V.alloc (.cells #[] 59)) V.heap.size (Lib.hid (below_alloc hb.out _)) (Lib.hid (own_at rfl hb.out))
        rw [hW] at c
        exact c
    exact n0_ _ (Lib.hid ((Below.refl _ _).drew))
  case rest =>
    go_wp2_with fail
    go_ret
    exact hcut
end
end Go.Proofs.YtmnigoibbcigdaaGreat
