/- Joined texts: RmDuo, SameSums, SameFiles, SpoilPts, SpoilRows, SpoilFiles, RmSame. -/
import Derived.Test.YtmnigoibbcigdaaGreatK1
import Derived.Test.YtmnigoibbcigdaaGreatK13
import Derived.Test.YtmnigoibbcigdaaGreatK2
import Derived.Test.YtmnigoibbcigdaaGreatK3
import Derived.Test.YtmnigoibbcigdaaGreatProg
import Derived.Deep.QuietTactic
import Derived.BigQuiet
import Derived.Deep.RegionHeld3
/- The machine and the reference's machine, side by side in memory; what an entry does to both (chapter 11). -/
namespace Go.Proofs.YtmnigoibbcigdaaGreat
open Go.RowKit
set_option linter.unusedVariables false

/-- the machine ma at gm, the reference's machine mb at gr, no block of the one is the other's; F: the blocks of both -/
def Duo (w : World) (base gm : Nat) (ma : Ig.M) (gr : Nat) (mb : Ig.M) (F : Nat → Prop) : Prop :=
  ∃ ra oa da sa rb ob db sb, Mach w base gm ma ra oa da sa ∧ RMach w base gr mb rb ob db sb ∧ (∀ k, Foot gm ra oa da sa k → ¬ Foot gr rb ob db sb k) ∧ ∀ k, F k ↔ (Foot gm ra oa da sa k ∨ Foot gr rb ob db sb k)
theorem RMach.down {w : World} {base base' g : Nat} {m : Ig.M} {vr vo vd vs : Value} (h : RMach w base g m vr vo vd vs) (hb : base' ≤ base) : RMach w base' g m vr vo vd vs :=
  ⟨h.blk, Nat.le_trans hb h.low, own_down h.rows hb, own_down h.opn hb, own_down h.digs hb, own_down h.seals hb⟩
section
variable {w w' : World} {base gm gr : Nat} {ma mb : Ig.M} {F : Nat → Prop}
theorem Duo.lt (h : Duo w base gm ma gr mb F) {k : Nat} (hk : F k) : base ≤ k ∧ k < w.heap.size := by
  obtain ⟨ra, oa, da, sa, rb, ob, db, sb, h1, h2, hd, hF⟩ := h
  rcases (hF k).1 hk with q | q
  · exact h1.lt q
  · exact h2.lt q
theorem Duo.only (h : Duo w base gm ma gr mb F) {S : Nat → Prop} (ho : Only S w w') (hs : ∀ k, F k → ¬ S k) : Duo w' base gm ma gr mb F := by
  obtain ⟨ra, oa, da, sa, rb, ob, db, sb, h1, h2, hd, hF⟩ := h
  exact ⟨ra, oa, da, sa, rb, ob, db, sb, h1.only ho (fun k hk => hs k ((hF k).2 (.inl hk))), h2.only ho (fun k hk => hs k ((hF k).2 (.inr hk))), hd, hF⟩
theorem Duo.below (h : Duo w base gm ma gr mb F) (hb : Below w.heap.size w w') : Duo w' base gm ma gr mb F := h.only (Only.new (fun _ => False) hb) (fun _ _ q => q)
theorem Duo.down {base' : Nat} (h : Duo w base gm ma gr mb F) (hb : base' ≤ base) : Duo w base' gm ma gr mb F := by
  obtain ⟨ra, oa, da, sa, rb, ob, db, sb, h1, h2, hd, hF⟩ := h
  exact ⟨ra, oa, da, sa, rb, ob, db, sb, h1.down hb, h2.down hb, hd, hF⟩
theorem Duo.mach (h : Duo w base gm ma gr mb F) : MachX w base gm ma (fun _ => False) := by
  obtain ⟨ra, oa, da, sa, rb, ob, db, sb, h1, h2, hd, hF⟩ := h
  exact ⟨ra, oa, da, sa, h1, fun _ _ q => q⟩
def DuoPost (w : World) (base gm gr : Nat) (F : Nat → Prop) (ma mb : Ig.M) (x y : Int) (e : Ending) (w' : World) : Prop :=
  e = .returned (.tuple #[.int .i64 x, .int .i64 y]) ∧ ∃ F' : Nat → Prop, Duo w' base gm ma gr mb F' ∧ Only F w w' ∧ ∀ k, F' k → F k ∨ w.heap.size ≤ k
theorem duo_apply (h : Duo w base gm ma gr mb F) (hI : Ig.Inv ma) (v c s n : Int) (A : Option Addr) (d : Nat) (bs : List Pt.Point) (hr : Reads w w.heap.size 3 A bs.length (bs.flatMap pointCells)) (hwf : ∀ p ∈ bs, Pt.wf p) (hn : bs.length ≤ 140737488355328) (hA : 0 < bs.length → ∀ b off, A = some ⟨b, off, none⟩ → ¬ F b) (hbase : base ≤ w.heap.size) :
    Calls Tryz.prog 6 #[.pointer (some ⟨gm, 0, none⟩), .agg #[.int .i64 v, .int .i64 c, .int .i64 s, .int .i64 n, .slice A bs.length d]] w (DuoPost w base gm gr F (Ig.applyM ma v c s n bs).1 mb (Ig.applyM ma v c s n bs).2.1 (Ig.applyM ma v c s n bs).2.2) := by
  obtain ⟨ra, oa, da, sa, rb, ob, db, sb, h1, h2, hd, hF⟩ := h
  refine (apply_mach h1 hI v c s n A d bs hr (fun h0 b off e q => hA h0 b off e ((hF b).2 (.inl q))) hwf hn hbase).mono fun e w' h => ?_
  obtain ⟨vr', vo', vd', vs', he, hm', ho, hf⟩ := h
  refine ⟨he, fun k => Foot gm vr' vo' vd' vs' k ∨ Foot gr rb ob db sb k, ⟨vr', vo', vd', vs', rb, ob, db, sb, hm', h2.only ho (fun k hk q => hd k q hk), fun k hk q => ?_, fun k => Iff.rfl⟩, ho.mono fun k _ q => (hF k).2 (.inl q), fun k hk => ?_⟩
  · rcases hf k hk with z | z
    · exact hd k z q
    · have := (h2.lt q).2; omega
  · rcases hk with q | q
    · rcases hf k q with z | z
      · exact .inl ((hF k).2 (.inl z))
      · exact .inr z
    · exact .inl ((hF k).2 (.inr q))
theorem duo_rapply (h : Duo w base gm ma gr mb F) (hI : Ig.Inv mb) (v c s n : Int) (A : Option Addr) (d : Nat) (bs : List Pt.Point) (hr : Reads w w.heap.size 3 A bs.length (bs.flatMap pointCells)) (hwf : ∀ p ∈ bs, Pt.wf p) (hn : bs.length ≤ 140737488355328) (hA : 0 < bs.length → ∀ b off, A = some ⟨b, off, none⟩ → ¬ F b) (hbase : base ≤ w.heap.size) :
    Calls Tryz.prog 7 #[.pointer (some ⟨gr, 0, none⟩), .agg #[.int .i64 v, .int .i64 c, .int .i64 s, .int .i64 n, .slice A bs.length d]] w (DuoPost w base gm gr F ma (Ig.applyM mb v c s n bs).1 (Ig.applyM mb v c s n bs).2.1 (Ig.applyM mb v c s n bs).2.2) := by
  obtain ⟨ra, oa, da, sa, rb, ob, db, sb, h1, h2, hd, hF⟩ := h
  refine (rapply_mach h2 hI v c s n A d bs hr (fun h0 b off e q => hA h0 b off e ((hF b).2 (.inr q))) hwf hn hbase).mono fun e w' h => ?_
  obtain ⟨he, vr', vo', vd', vs', hm', ho, hf⟩ := h
  refine ⟨he, fun k => Foot gm ra oa da sa k ∨ Foot gr vr' vo' vd' vs' k, ⟨ra, oa, da, sa, vr', vo', vd', vs', h1.only ho (fun k hk q => hd k hk q), hm', fun k hk q => ?_, fun k => Iff.rfl⟩, ho.mono fun k _ q => (hF k).2 (.inr q), fun k hk => ?_⟩
  · rcases hf k q with z | z
    · exact hd k hk z
    · have := (h1.lt hk).2; omega
  · rcases hk with q | q
    · exact .inl ((hF k).2 (.inl q))
    · rcases hf k q with z | z
      · exact .inl ((hF k).2 (.inr z))
      · exact .inr z
/-- two machines that lie in new memory, the one behind the other -/
theorem Duo.new {w1 w2 : World} {va vb vc vd va' vb' vc' vd' : Value} (hs : w.heap.size ≤ w1.heap.size) (h1 : Mach w1 w.heap.size gm ma va vb vc vd) (h2 : RMach w2 w1.heap.size gr mb va' vb' vc' vd') (hb : Below w1.heap.size w1 w2) : ∃ F, Duo w2 w.heap.size gm ma gr mb F ∧ ∀ k, F k → w.heap.size ≤ k := by
  refine ⟨fun k => Foot gm va vb vc vd k ∨ Foot gr va' vb' vc' vd' k, ⟨va, vb, vc, vd, va', vb', vc', vd', h1.below hb, h2.down hs, fun k hk q => ?_, fun k => Iff.rfl⟩, fun k hk => ?_⟩
  · have := (h1.lt hk).2
    have := (h2.lt q).1
    omega
  · rcases hk with q | q
    · exact (h1.lt q).1
    · have := (h2.lt q).1; omega
end
end Go.Proofs.YtmnigoibbcigdaaGreat
/- The helpers of cachetlaw0 on slices (Same, Copy, Lend, Kept): what they answer where the lists are one. Printed by gen_same.py. -/
namespace Go.Proofs.YtmnigoibbcigdaaGreat
open Go.RowKit
set_option linter.unusedVariables false

set_option maxRecDepth 100000 in
set_option maxHeartbeats 400000 in
theorem sameSums_true (A B : Option Addr) (c d : Nat) (xs : List (Int)) (w : World) (b1 b2 : Nat) (hr : Reads w b1 1 A xs.length (xs.map (Value.int .u64))) (hq : Reads w b2 1 B xs.length (xs.map (Value.int .u64))) (hn : xs.length ≤ 140737488355328) :
    Calls Tryz.prog 35 #[.slice A xs.length c, .slice B xs.length d] w fun e w' => e = .returned (.bool true) ∧ ∃ n, w' = w.drewN n := by
  have hl : ((xs.length : Int) != (xs.length : Int)) = false := by simp
  go_enter Tryz.func35, Tryz.ntmps35
  go_wp2
  go_loopw [5] (fun i wr => ∃ k n : Nat, k ≤ xs.length ∧ i = .int .i64 (k : Int) ∧ wr = w.drewN n) (fun i _ => xs.length - (intOf i).toNat)
  case atStart => exact ⟨0, 0, Nat.zero_le _, rfl, rfl⟩
  case round =>
    obtain ⟨k, n, hk, rfl, rfl⟩ := hrel
    by_cases hlt : k < xs.length
    · obtain ⟨b, off, rfl, hbl, hc⟩ := hr.2 (by omega)
      obtain ⟨b', off', rfl, hbl', hc'⟩ := hq.2 (by omega)
      have hcell0 := hc k (Value.int .u64 xs[k]) (by simp [hlt])
      have hcelq0 := hc' k (Value.int .u64 xs[k]) (by simp [hlt])
      have hne : (xs[k] != xs[k]) = false := by simp
      clear hc hc' hr hq
      go_wp2
      go_quiet (fail)
      go_wp2
      go_roundw
      case rel => exact ⟨k + 1, n + nq, by omega, by go_num, rfl⟩
      case measure => simp [intOf]; omega
    · clear hr hq
      go_wp2
      go_ret
      exact ⟨rfl, _, rfl⟩

end Go.Proofs.YtmnigoibbcigdaaGreat
/- The helpers of cachetlaw0 on slices (Same, Copy, Lend, Kept): what they answer where the lists are one. Printed by gen_same.py. -/
namespace Go.Proofs.YtmnigoibbcigdaaGreat
open Go.RowKit
set_option linter.unusedVariables false

set_option maxRecDepth 100000 in
set_option maxHeartbeats 400000 in
theorem sameFiles_true (A B : Option Addr) (c d : Nat) (xs : List (Int × ByteArray)) (w : World) (b1 b2 : Nat) (hr : Reads w b1 2 A xs.length (xs.flatMap fileCells)) (hq : Reads w b2 2 B xs.length (xs.flatMap fileCells)) (hn : xs.length ≤ 140737488355328) :
    Calls Tryz.prog 36 #[.slice A xs.length c, .slice B xs.length d] w fun e w' => e = .returned (.bool true) ∧ ∃ n, w' = w.drewN n := by
  have hl : ((xs.length : Int) != (xs.length : Int)) = false := by simp
  go_enter Tryz.func36, Tryz.ntmps36
  go_wp2
  go_loopw [5] (fun i wr => ∃ k n : Nat, k ≤ xs.length ∧ i = .int .i64 (k : Int) ∧ wr = w.drewN n) (fun i _ => xs.length - (intOf i).toNat)
  case atStart => exact ⟨0, 0, Nat.zero_le _, rfl, rfl⟩
  case round =>
    obtain ⟨k, n, hk, rfl, rfl⟩ := hrel
    by_cases hlt : k < xs.length
    · obtain ⟨b, off, rfl, hbl, hc⟩ := hr.2 (by omega)
      obtain ⟨b', off', rfl, hbl', hc'⟩ := hq.2 (by omega)
      have hcell0 : w.cell? ⟨b, off + k * 2, none⟩ = some (.int .i64 xs[k].1) := by have := hc (k * 2 + 0) (.int .i64 xs[k].1) (by rw [flat_at fileCells 2 (fun _ => rfl) xs k 0 hlt (by omega)]; rfl); rwa [← Nat.add_assoc] at this
      have hcell1 : w.cell? ⟨b, off + k * 2 + 1, none⟩ = some (.string xs[k].2) := by have := hc (k * 2 + 1) (.string xs[k].2) (by rw [flat_at fileCells 2 (fun _ => rfl) xs k 1 hlt (by omega)]; rfl); rwa [← Nat.add_assoc] at this
      have hcelq0 : w.cell? ⟨b', off' + k * 2, none⟩ = some (.int .i64 xs[k].1) := by have := hc' (k * 2 + 0) (.int .i64 xs[k].1) (by rw [flat_at fileCells 2 (fun _ => rfl) xs k 0 hlt (by omega)]; rfl); rwa [← Nat.add_assoc] at this
      have hcelq1 : w.cell? ⟨b', off' + k * 2 + 1, none⟩ = some (.string xs[k].2) := by have := hc' (k * 2 + 1) (.string xs[k].2) (by rw [flat_at fileCells 2 (fun _ => rfl) xs k 1 hlt (by omega)]; rfl); rwa [← Nat.add_assoc] at this
      have tt := trivial
      clear hc hc' hr hq
      go_wp2
      go_quiet (fail)
      go_wp2
      go_roundw
      case rel => exact ⟨k + 1, n + nq, by omega, by go_num, rfl⟩
      case measure => simp [intOf]; omega
    · clear hr hq
      go_wp2
      go_ret
      exact ⟨rfl, _, rfl⟩

end Go.Proofs.YtmnigoibbcigdaaGreat
/- The walk through SpoilPoints. -/
namespace Go.Proofs.YtmnigoibbcigdaaGreat
open Go.RowKit
set_option linter.unusedVariables false

def SpoilOk (cur : Array Value) (n : Nat) : Prop := ∀ j, j < n → ∃ x, cur[j * 3 + 2]? = some (.int .i64 x)
theorem SpoilOk.set_ {cur : Array Value} {n k : Nat} (h : SpoilOk cur n) (hk : k < n) (y : Int) : SpoilOk (cur.setIfInBounds (k * 3 + 2) (.int .i64 y)) n := by
  intro j hj
  by_cases e : j = k
  · subst e
    obtain ⟨x, hx⟩ := h j hj
    have hlt := (Array.getElem?_eq_some_iff.1 hx).1
    exact ⟨y, by rw [Array.getElem?_setIfInBounds]; simp [hlt]⟩
  · obtain ⟨x, hx⟩ := h j hj
    exact ⟨x, by rw [Array.getElem?_setIfInBounds, if_neg (by omega)]; exact hx⟩
set_option maxRecDepth 100000 in
set_option maxHeartbeats 400000 in
theorem spoilPoints_any (A : Option Addr) (c : Nat) (ps : List Pt.Point) (w : World) (base : Nat) (hown : w.ownsRow base 66 3 (.slice A ps.length c) ps.length (ps.flatMap pointCells)) (hn : ps.length ≤ 140737488355328) :
    Calls Tryz.prog 37 #[.slice A ps.length c] w fun e w' => e = .returned (.tuple #[]) ∧ Only (fun k => Value.ownBlock (.slice A ps.length c) = some k) w w' := by
  rcases hown.2 with ⟨hv, h0⟩ | ⟨g, cap, cur, hv, hg, hh, hnc, hcm, hcs, hx⟩
  · injection hv with e1 e2 e3
    subst e1
    have hz : ps.length < 1 := by omega
    have hz0 : ¬ 0 < ps.length := by omega
    have hneg : decide ((0 : Int) < (ps.length : Int)) = false := decide_eq_false (by omega)
    clear hown h0 e2
    go_enter Tryz.func37, Tryz.ntmps37
    go_wp2
    go_loop [2] (fun i => i = .int .i64 0) (fun _ => 0)
    case atStart => rfl
    case round =>
      subst hrel
      go_wp2
      go_end0
      exact ⟨rfl, Only.refl _ _⟩
  · injection hv with e1 e2 e3
    subst e1; subst e3
    have hB : Blk w g 66 cur := hh
    have hS : SpoilOk cur ps.length := fun j hj => by
      have h1 := hown.cells (g := g) rfl (j * 3 + 2) (.int .i64 ps[j].2.2) (by rw [flat_at pointCells 3 (fun _ => rfl) ps j 2 hj (by omega)]; rfl)
      rw [add_mk, Nat.zero_add, hB.cell] at h1
      exact ⟨_, h1⟩
    have HB := Lib.hid hB
    have HS := Lib.hid hS
    clear hown hh hcs hx hB hS e2
    go_enter Tryz.func37, Tryz.ntmps37
    go_wp2
    go_loopw [2] (fun i wr => ∃ (k : Nat) (cs : Array Value), k ≤ ps.length ∧ i = .int .i64 (k : Int) ∧ Hid (Blk wr g 66 cs) ∧ Hid (SpoilOk cs ps.length) ∧ Hid (Only (fun k => k = g) w wr)) (fun i _ => ps.length - (intOf i).toNat)
    case atStart => exact ⟨0, cur, Nat.zero_le _, rfl, HB, HS, Lib.hid (Only.refl _ _)⟩
    case round =>
      obtain ⟨k, cs, hk, rfl, hb, hs, ho⟩ := hrel
      by_cases hlt : k < ps.length
      · obtain ⟨x, hxk⟩ := hs.out k hlt
        have hc : wr.cell? ⟨g, k * 3 + 2, none⟩ = some (.int .i64 x) := (hb.out.cell _).trans hxk
        have hf : wr.frozen? ⟨g, k * 3 + 2, none⟩ = false := hb.out.frozen _
        clear hxk
        go_wp2
        go_roundw
        case rel => exact ⟨k + 1, _, by omega, by go_num, Lib.hid (hb.out.set_ _ _), Lib.hid (hs.out.set_ hlt _), Lib.hid (ho.out.setCell (fun _ => rfl) _)⟩
        case measure => simp [intOf]; omega
      · go_wp2
        go_end0
        exact ⟨rfl, ho.out.mono (fun j _ e => by rw [e]; rfl)⟩

end Go.Proofs.YtmnigoibbcigdaaGreat
/- The walk through SpoilRows. -/
namespace Go.Proofs.YtmnigoibbcigdaaGreat
open Go.RowKit
set_option linter.unusedVariables false

def SpoilRowsOk (cur : Array Value) (n : Nat) : Prop := ∀ j, j < n → ∃ x, cur[j * 4 + 3]? = some (.int .i64 x)
theorem SpoilRowsOk.set_ {cur : Array Value} {n k : Nat} (h : SpoilRowsOk cur n) (hk : k < n) (y : Int) : SpoilRowsOk (cur.setIfInBounds (k * 4 + 3) (.int .i64 y)) n := by
  intro j hj
  by_cases e : j = k
  · subst e
    obtain ⟨x, hx⟩ := h j hj
    have hlt := (Array.getElem?_eq_some_iff.1 hx).1
    exact ⟨y, by rw [Array.getElem?_setIfInBounds]; simp [hlt]⟩
  · obtain ⟨x, hx⟩ := h j hj
    exact ⟨x, by rw [Array.getElem?_setIfInBounds, if_neg (by omega)]; exact hx⟩
set_option maxRecDepth 100000 in
set_option maxHeartbeats 400000 in
theorem spoilRows_any (A : Option Addr) (c : Nat) (ps : List Se.Row) (w : World) (base : Nat) (hown : w.ownsRow base 96 4 (.slice A ps.length c) ps.length (ps.flatMap rowCells)) (hn : ps.length ≤ 140737488355328) :
    Calls Tryz.prog 38 #[.slice A ps.length c] w fun e w' => e = .returned (.tuple #[]) ∧ Only (fun k => Value.ownBlock (.slice A ps.length c) = some k) w w' := by
  rcases hown.2 with ⟨hv, h0⟩ | ⟨g, cap, cur, hv, hg, hh, hnc, hcm, hcs, hx⟩
  · injection hv with e1 e2 e3
    subst e1
    have hz : ps.length < 1 := by omega
    have hz0 : ¬ 0 < ps.length := by omega
    have hneg : decide ((0 : Int) < (ps.length : Int)) = false := decide_eq_false (by omega)
    clear hown h0 e2
    go_enter Tryz.func38, Tryz.ntmps38
    go_wp2
    go_loop [2] (fun i => i = .int .i64 0) (fun _ => 0)
    case atStart => rfl
    case round =>
      subst hrel
      go_wp2
      go_end0
      exact ⟨rfl, Only.refl _ _⟩
  · injection hv with e1 e2 e3
    subst e1; subst e3
    have hB : Blk w g 96 cur := hh
    have hS : SpoilRowsOk cur ps.length := fun j hj => by
      have h1 := hown.cells (g := g) rfl (j * 4 + 3) (.int .i64 ps[j].2.2.2) (by rw [flat_at rowCells 4 (fun _ => rfl) ps j 3 hj (by omega)]; rfl)
      rw [add_mk, Nat.zero_add, hB.cell] at h1
      exact ⟨_, h1⟩
    have HB := Lib.hid hB
    have HS := Lib.hid hS
    clear hown hh hcs hx hB hS e2
    go_enter Tryz.func38, Tryz.ntmps38
    go_wp2
    go_loopw [2] (fun i wr => ∃ (k : Nat) (cs : Array Value), k ≤ ps.length ∧ i = .int .i64 (k : Int) ∧ Hid (Blk wr g 96 cs) ∧ Hid (SpoilRowsOk cs ps.length) ∧ Hid (Only (fun k => k = g) w wr)) (fun i _ => ps.length - (intOf i).toNat)
    case atStart => exact ⟨0, cur, Nat.zero_le _, rfl, HB, HS, Lib.hid (Only.refl _ _)⟩
    case round =>
      obtain ⟨k, cs, hk, rfl, hb, hs, ho⟩ := hrel
      by_cases hlt : k < ps.length
      · obtain ⟨x, hxk⟩ := hs.out k hlt
        have hc : wr.cell? ⟨g, k * 4 + 3, none⟩ = some (.int .i64 x) := (hb.out.cell _).trans hxk
        have hf : wr.frozen? ⟨g, k * 4 + 3, none⟩ = false := hb.out.frozen _
        clear hxk
        go_wp2
        go_roundw
        case rel => exact ⟨k + 1, _, by omega, by go_num, Lib.hid (hb.out.set_ _ _), Lib.hid (hs.out.set_ hlt _), Lib.hid (ho.out.setCell (fun _ => rfl) _)⟩
        case measure => simp [intOf]; omega
      · go_wp2
        go_end0
        exact ⟨rfl, ho.out.mono (fun j _ e => by rw [e]; rfl)⟩

end Go.Proofs.YtmnigoibbcigdaaGreat
/- The walk through SpoilFiles. -/
namespace Go.Proofs.YtmnigoibbcigdaaGreat
open Go.RowKit
set_option linter.unusedVariables false

def SpoilFilesOk (cur : Array Value) (k n : Nat) : Prop := ∀ j, k ≤ j → j < n → ∃ x, cur[j * 2 + 1]? = some (.string x) ∧ x.size ≤ 9223372036854775000
theorem SpoilFilesOk.set_ {cur : Array Value} {n k : Nat} (h : SpoilFilesOk cur k n) (y : Value) : SpoilFilesOk (cur.setIfInBounds (k * 2 + 1) y) (k + 1) n := by
  intro j hk hj
  obtain ⟨x, hx, hs⟩ := h j (by omega) hj
  exact ⟨x, by rw [Array.getElem?_setIfInBounds, if_neg (by omega)]; exact hx, hs⟩
set_option maxRecDepth 100000 in
set_option maxHeartbeats 400000 in
theorem spoilFiles_any (A : Option Addr) (c : Nat) (ps : List (Int × ByteArray)) (w : World) (base : Nat) (hown : w.ownsRow base 59 2 (.slice A ps.length c) ps.length (ps.flatMap fileCells)) (hn : ps.length ≤ 140737488355328) (hsz : ∀ f ∈ ps, f.2.size ≤ 9223372036854775000) :
    Calls Tryz.prog 39 #[.slice A ps.length c] w fun e w' => e = .returned (.tuple #[]) ∧ Only (fun k => Value.ownBlock (.slice A ps.length c) = some k) w w' := by
  rcases hown.2 with ⟨hv, h0⟩ | ⟨g, cap, cur, hv, hg, hh, hnc, hcm, hcs, hx⟩
  · injection hv with e1 e2 e3
    subst e1
    have hz : ps.length < 1 := by omega
    have hz0 : ¬ 0 < ps.length := by omega
    have hneg : decide ((0 : Int) < (ps.length : Int)) = false := decide_eq_false (by omega)
    clear hown h0 e2 hsz
    go_enter Tryz.func39, Tryz.ntmps39
    go_wp2
    go_loop [2] (fun i => i = .int .i64 0) (fun _ => 0)
    case atStart => rfl
    case round =>
      subst hrel
      go_wp2
      go_end0
      exact ⟨rfl, Only.refl _ _⟩
  · injection hv with e1 e2 e3
    subst e1; subst e3
    have hB : Blk w g 59 cur := hh
    have hS : SpoilFilesOk cur 0 ps.length := fun j _ hj => by
      have h1 := hown.cells (g := g) rfl (j * 2 + 1) (.string ps[j].2) (by rw [flat_at fileCells 2 (fun _ => rfl) ps j 1 hj (by omega)]; rfl)
      rw [add_mk, Nat.zero_add, hB.cell] at h1
      exact ⟨_, h1, hsz _ (List.getElem_mem hj)⟩
    have HB := Lib.hid hB
    have HS := Lib.hid hS
    clear hown hh hcs hx hB hS e2 hsz
    go_enter Tryz.func39, Tryz.ntmps39
    go_wp2
    go_loopw [2] (fun i wr => ∃ (k : Nat) (cs : Array Value), k ≤ ps.length ∧ i = .int .i64 (k : Int) ∧ Hid (Blk wr g 59 cs) ∧ Hid (SpoilFilesOk cs k ps.length) ∧ Hid (Only (fun k => k = g) w wr)) (fun i _ => ps.length - (intOf i).toNat)
    case atStart => exact ⟨0, cur, Nat.zero_le _, rfl, HB, HS, Lib.hid (Only.refl _ _)⟩
    case round =>
      obtain ⟨k, cs, hk, rfl, hb, hs, ho⟩ := hrel
      by_cases hlt : k < ps.length
      · obtain ⟨x, hxk, hxs⟩ := hs.out k (Nat.le_refl _) hlt
        have hc : wr.cell? ⟨g, k * 2 + 1, none⟩ = some (.string x) := (hb.out.cell _).trans hxk
        have hf : wr.frozen? ⟨g, k * 2 + 1, none⟩ = false := hb.out.frozen _
        have hno : ¬ 9223372036854775807 < (ByteArray.mk #[126]).size + x.size := by show ¬ 9223372036854775807 < 1 + x.size; omega
        have hno1 : ¬ 9223372036854775807 < 1 + x.size := by omega
        clear hxk
        go_wp2
        go_roundw
        case rel => exact ⟨k + 1, _, by omega, by go_num, Lib.hid (hb.out.set_ _ _), Lib.hid (hs.out.set_ _), Lib.hid (ho.out.setCell (fun _ => rfl) _)⟩
        case measure => simp [intOf]; omega
      · go_wp2
        go_end0
        exact ⟨rfl, ho.out.mono (fun j _ e => by rw [e]; rfl)⟩

end Go.Proofs.YtmnigoibbcigdaaGreat
/- The walk through Same of chapter 11's laws. -/
namespace Go.Proofs.YtmnigoibbcigdaaGreat
open Go.RowKit
set_option linter.unusedVariables false

theorem own_spoilt {w w' : World} {base b size size' n n' : Nat} {e e' : TypeId} {v u : Value} {xs ys : List Value} (h : w.ownsRow base e size v n xs) (hu : w.ownsRow b e' size' u n' ys) (hne : e ≠ e') (ho : Only (fun k => u.ownBlock = some k) w w') : w'.ownsRow base e size v n xs :=
  own_only h ho (fun k hk q => by
    rcases own_own_ne h hu hne with z | z
    · rw [z] at hk; cases hk
    · exact z (hk.trans q.symm))
set_option maxRecDepth 100000 in
set_option maxHeartbeats 2000000 in
theorem same_duo {w : World} {base gm gr : Nat} {m : Ig.M} {F : Nat → Prop} (h : Duo w base gm m gr m F) (hI : Ig.Inv m) (hz : Ig.Sz m) :
    Calls Tryz.prog 8 #[.pointer (some ⟨gm, 0, none⟩), .pointer (some ⟨gr, 0, none⟩)] w fun e w' => e = .returned (.bool true) ∧ Below w.heap.size w w' := by
  obtain ⟨ra, oa, da, sa, rb, ob, db, sb, h1, h2, hd, hF⟩ := h
  have hrl := Se.may_len hI.rows
  have hol := Ig.inv_len hI
  have hdl : m.digs.length ≤ 512 := by have := hI.dl; have := hI.at1; omega
  have hsl : m.seals.length ≤ 512 := by have h1 := hI.sl; have h2 := hI.at1; omega
  have KO := Lib.hid (fun W (hb : Below w.heap.size w W) => machOpen_any (h1.below hb) (by omega))
  have KR := Lib.hid (fun W (hb : Below w.heap.size w W) => machRows_any (h1.below hb) (by omega))
  have KD := Lib.hid (fun W (hb : Below w.heap.size w W) => machDigs_any (h1.below hb) (by omega))
  have KS := Lib.hid (fun W (hb : Below w.heap.size w W) => machSeals_any (h1.below hb) (by omega))
  have KA := Lib.hid (fun W (hb : Below w.heap.size w W) => machAt_any (h1.below hb))
  obtain ⟨Ar, cr, rfl, _, hr1⟩ := own_slice h2.rows
  obtain ⟨Ao, co, rfl, _, hr2⟩ := own_slice h2.opn
  obtain ⟨Ad, cd, rfl, _, hr3⟩ := own_slice h2.digs
  obtain ⟨As, cs, rfl, _, hr4⟩ := own_slice h2.seals
  have HC := Lib.hid (fun W (hb : Below w.heap.size w W) => (h2.below hb).cells)
  have R1 : Hid (∀ W, Below w.heap.size w W → Reads W w.heap.size 4 Ar m.rows.length (m.rows.flatMap rowCells)) := fun W hb => hr1.below hb
  have R2 : Hid (∀ W, Below w.heap.size w W → Reads W w.heap.size 3 Ao m.opn.length (m.opn.flatMap pointCells)) := fun W hb => hr2.below hb
  have R3 : Hid (∀ W, Below w.heap.size w W → Reads W w.heap.size 1 Ad m.digs.length (m.digs.map (Value.int .u64))) := fun W hb => by rw [← digs_map]; exact hr3.below hb
  have R4 : Hid (∀ W, Below w.heap.size w W → Reads W w.heap.size 2 As m.seals.length (m.seals.flatMap fileCells)) := fun W hb => hr4.below hb
  have HZ := Lib.hid (show ∀ f ∈ m.seals, f.2.size ≤ 9223372036854775000 from fun f hf => by have := hz f hf; omega)
  have hatn : (m.at_ != m.at_) = false := by simp
  clear h1 h2 hd hF hr1 hr2 hr3 hr4 hI hz
  go_enter Tryz.func8, Tryz.ntmps8
  go_wp2_with fail
  refine (KO.out _ (Below.refl _ _)).mono ?_
  rintro e w1 ⟨v1, rfl, hown1, hb1⟩
  obtain ⟨A1, c1, rfl, _, _⟩ := own_slice hown1
  have Hown1 := Lib.hid hown1
  have Hb1 := Lib.hid hb1
  clear hown1 hb1
  go_wp2_with fail
  refine (KR.out _ Hb1.out).mono ?_
  rintro e w2 ⟨v2, rfl, hown2, hb2⟩
  obtain ⟨A2, c2, rfl, _, _⟩ := own_slice hown2
  have Hown2 := Lib.hid (own_down hown2 Hb1.out.size)
  have Hown1 := Lib.hid (own_only Hown1.out (Only.new (fun _ => False) hb2) (fun _ _ h => h))
  have Hb2 : Hid (Below w.heap.size w w2) := Hb1.out.trans (hb2.mono Hb1.out.size)
  clear hown2 hb2 Hb1
  go_wp2_with fail
  refine (KD.out _ Hb2.out).mono ?_
  rintro e w3 ⟨v3, rfl, hown3, hb3⟩
  obtain ⟨A3, c3, rfl, _, _⟩ := own_slice hown3
  have Hown3 := Lib.hid (own_down hown3 Hb2.out.size)
  have Hown1 := Lib.hid (own_only Hown1.out (Only.new (fun _ => False) hb3) (fun _ _ h => h))
  have Hown2 := Lib.hid (own_only Hown2.out (Only.new (fun _ => False) hb3) (fun _ _ h => h))
  have Hb3 : Hid (Below w.heap.size w w3) := Hb2.out.trans (hb3.mono Hb2.out.size)
  clear hown3 hb3 Hb2
  go_wp2_with fail
  refine (KS.out _ Hb3.out).mono ?_
  rintro e w4 ⟨v4, rfl, hown4, hb4⟩
  obtain ⟨A4, c4, rfl, _, _⟩ := own_slice hown4
  have Hown4 := Lib.hid (own_down hown4 Hb3.out.size)
  have Hown1 := Lib.hid (own_only Hown1.out (Only.new (fun _ => False) hb4) (fun _ _ h => h))
  have Hown2 := Lib.hid (own_only Hown2.out (Only.new (fun _ => False) hb4) (fun _ _ h => h))
  have Hown3 := Lib.hid (own_only Hown3.out (Only.new (fun _ => False) hb4) (fun _ _ h => h))
  have Hb4 : Hid (Below w.heap.size w w4) := Hb3.out.trans (hb4.mono Hb3.out.size)
  clear hown4 hb4 Hb3
  have hs4 := Hb4.out.size
  have hq1 := Reads.of_own Hown1.out
  have hq2 := Reads.of_own Hown2.out
  have hq3 := Reads.of_own Hown3.out
  have hq4 := Reads.of_own Hown4.out
  rw [digs_map] at hq3
  have hbx := fun x : Aft w4.heap.size w4 => Hb4.out.trans (x.below.mono hs4)
  have m0 := fun x => (HC.out _ (hbx x)).1
  have m1 := fun x => (HC.out _ (hbx x)).2.1
  have m2 := fun x => (HC.out _ (hbx x)).2.2.1
  have m3 := fun x => (HC.out _ (hbx x)).2.2.2.1
  have m4 := fun x => (HC.out _ (hbx x)).2.2.2.2
  have HA := fun x : Aft w4.heap.size w4 => Lib.hid (KA.out _ (hbx x))
  have HP := fun x : Aft w4.heap.size w4 => Lib.hid (samePoints_true A1 Ao c1 co m.opn x.world _ _ (x.reads hq1) (R2.out _ (hbx x)) (by omega))
  have HR := fun x : Aft w4.heap.size w4 => Lib.hid (sameRows_true A2 Ar c2 cr m.rows x.world _ _ (x.reads hq2) (R1.out _ (hbx x)) (by omega))
  have HS := fun x : Aft w4.heap.size w4 => Lib.hid (sameSums_true A3 Ad c3 cd m.digs x.world _ _ (x.reads hq3) (R3.out _ (hbx x)) (by omega))
  have HFl := fun x : Aft w4.heap.size w4 => Lib.hid (sameFiles_true A4 As c4 cs m.seals x.world _ _ (x.reads hq4) (R4.out _ (hbx x)) (by omega))
  clear hq1 hq2 hq3 hq4 hbx
  go_wp2_with fail
  refine wp_region_aft w4.heap.size w4 (by kernel_rfl) (by kernel_rfl) (Below.refl _ _) ?_
  repeat (go_big_quiet_step (first
    | (go_at_call 32; with_reducible exact aft_same (Hid.out (HA _)))
    | (go_at_call 33; with_reducible exact aft_drew (Hid.out (HP _)))
    | (go_at_call 34; with_reducible exact aft_drew (Hid.out (HR _)))
    | (go_at_call 35; with_reducible exact aft_drew (Hid.out (HS _)))
    | (go_at_call 36; with_reducible exact aft_drew (Hid.out (HFl _)))))
  refine wpQuiet_nil ?_
  rintro _ ⟨x, rfl⟩
  have Hb5 : Hid (Below w.heap.size w x.world) := Hb4.out.trans (x.below.mono hs4)
  have Hown1 := Lib.hid (own_only Hown1.out (Only.new (fun _ => False) x.below) (fun _ _ h => h))
  have Hown2 := Lib.hid (own_only Hown2.out (Only.new (fun _ => False) x.below) (fun _ _ h => h))
  have Hown4 := Lib.hid (own_only Hown4.out (Only.new (fun _ => False) x.below) (fun _ _ h => h))
  clear m0 m1 m2 m3 m4 HA HP HR HS HFl Hb4 hs4 Hown3 KA KD KS R3 R4
  generalize x.world = w5 at *
  go_wp2_with fail
  refine (spoilPoints_any A1 c1 m.opn w5 w.heap.size Hown1.out (by omega)).mono ?_
  rintro e w6 ⟨rfl, ho6⟩
  have Hown2 := Lib.hid (own_spoilt Hown2.out Hown1.out (by decide) ho6)
  have Hown4 := Lib.hid (own_spoilt Hown4.out Hown1.out (by decide) ho6)
  have Hb6 : Hid (Below w.heap.size w w6) := Hb5.out.trans (ho6.below (fun k hk q => by have := (own_lt Hown1.out q).1; omega) Hb5.out.size)
  clear ho6 Hown1 Hb5
  go_wp2_with fail
  refine (spoilRows_any A2 c2 m.rows w6 w.heap.size Hown2.out (by omega)).mono ?_
  rintro e w7 ⟨rfl, ho7⟩
  have Hown4 := Lib.hid (own_spoilt Hown4.out Hown2.out (by decide) ho7)
  have Hb7 : Hid (Below w.heap.size w w7) := Hb6.out.trans (ho7.below (fun k hk q => by have := (own_lt Hown2.out q).1; omega) Hb6.out.size)
  clear ho7 Hown2 Hb6
  go_wp2_with fail
  refine (spoilFiles_any A4 c4 m.seals w7 w.heap.size Hown4.out (by omega) HZ.out).mono ?_
  rintro e w8 ⟨rfl, ho8⟩
  have Hb8 : Hid (Below w.heap.size w w8) := Hb7.out.trans (ho8.below (fun k hk q => by have := (own_lt Hown4.out q).1; omega) Hb7.out.size)
  clear ho8 Hown4 Hb7 HZ
  have HC2 : Hid (∀ W, Below w.heap.size w W → W.cell? ⟨gr, 1, none⟩ = some (.slice Ar m.rows.length cr) ∧ W.cell? ⟨gr, 2, none⟩ = some (.slice Ao m.opn.length co)) := fun W hb => ⟨(HC.out W hb).2.1, (HC.out W hb).2.2.1⟩
  clear HC
  go_wp2_with fail
  go_region_held3 (fun W => W.cell? ⟨gr, 1, none⟩ = some (.slice Ar m.rows.length cr) ∧ W.cell? ⟨gr, 2, none⟩ = some (.slice Ao m.opn.length co))
    (first | exact HC2.out _ Hbd.out | exact HC2.out _ Hbc.out | exact HC2.out _ Hbb.out | exact HC2.out _ Hba.out | exact HC2.out _ Hb8.out.drew)
    (first
      | (go_at_call 28; (with_reducible refine (KO.out _ (by exact Hb8.out.drew)).mono ?_); rintro e wa ⟨va, rfl, howna, hba⟩; obtain ⟨Aa, ca, rfl, _, hra⟩ := own_slice howna; have Hba : Hid (Below w.heap.size w wa) := Hb8.out.drew.trans (hba.mono Hb8.out.size); have Hra := Lib.hid hra; clear howna hba hra)
      | (go_at_call 33; (with_reducible refine (samePoints_true Aa Ao ca co m.opn _ _ _ Hra.out (R2.out _ Hba.out) (by omega)).mono ?_); rintro e wb' ⟨rfl, nb, rfl⟩; have Hbb := Lib.hid (below_drewN Hba.out nb))
      | (go_at_call 29; (with_reducible refine (KR.out _ (by exact Hbb.out)).mono ?_); rintro e wc ⟨vc, rfl, hownc, hbc⟩; obtain ⟨Ac, cc, rfl, _, hrc⟩ := own_slice hownc; have Hbc : Hid (Below w.heap.size w wc) := Hbb.out.trans (hbc.mono Hbb.out.size); have Hrc := Lib.hid hrc; clear hownc hbc hrc)
      | (go_at_call 34; (with_reducible refine (sameRows_true Ac Ar cc cr m.rows _ _ _ Hrc.out (R1.out _ Hbc.out) (by omega)).mono ?_); rintro e wd' ⟨rfl, nd, rfl⟩; have Hbd := Lib.hid (below_drewN Hbc.out nd)))
  all_goals
    go_wp2_with fail
    go_ret
    exact ⟨rfl, Hbd.out⟩
end Go.Proofs.YtmnigoibbcigdaaGreat
