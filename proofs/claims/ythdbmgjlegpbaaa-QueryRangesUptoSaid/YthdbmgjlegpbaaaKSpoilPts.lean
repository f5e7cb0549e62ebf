/- The walk through SpoilPoints. -/
import Derived.Test.YthdbmgjlegpbaaaK2
import Derived.Test.YthdbmgjlegpbaaaK1
namespace Go.Proofs.Ythdbmgjlegpbaaa
open Go.RowKit
set_option linter.unusedVariables false

def SpoilOk (cur : Array Value) (n : Nat) : Prop := ∀ j, j < n → ∃ x, cur[j * 3 + 2]? = some (.int .i64 x)
theorem SpoilOk.set_ {cur : Array Value} {n k : Nat} (h : SpoilOk cur n) (hk : k < n) (y : Int) : SpoilOk (cur.setIfInBounds (k * 3 + 2) (.int .i64 y)) n := by
  intro j hj
  by_cases e : j = k
  · subst e
    obtain ⟨x, hx⟩ := h j hj
    have hlt := (Array.getElem?_eq_some_iff.1 hx).1
    exact ⟨y, by rw [Array.getElem?_setIfInBounds]; simp [hlt]⟩
  · obtain ⟨x, hx⟩ := h j hj
    exact ⟨x, by rw [Array.getElem?_setIfInBounds, if_neg (by omega)]; exact hx⟩
set_option maxRecDepth 100000 in
set_option maxHeartbeats 400000 in
theorem spoilPoints_any (A : Option Addr) (c : Nat) (ps : List Pt.Point) (w : World) (base : Nat) (hown : w.ownsRow base 52 3 (.slice A ps.length c) ps.length (ps.flatMap pointCells)) (hn : ps.length ≤ 140737488355328) :
    Calls Try.prog 35 #[.slice A ps.length c] w fun e w' => e = .returned (.tuple #[]) ∧ Only (fun k => Value.ownBlock (.slice A ps.length c) = some k) w w' := by
  rcases hown.2 with ⟨hv, h0⟩ | ⟨g, cap, cur, hv, hg, hh, hnc, hcm, hcs, hx⟩
  · injection hv with e1 e2 e3
    subst e1
    have hz : ps.length < 1 := by omega
    have hz0 : ¬ 0 < ps.length := by omega
    have hneg : decide ((0 : Int) < (ps.length : Int)) = false := decide_eq_false (by omega)
    clear hown h0 e2
    go_enter Try.func35, Try.ntmps35
    go_wp2
    go_loop [2] (fun i => i = .int .i64 0) (fun _ => 0)
    case atStart => rfl
    case round =>
      subst hrel
      go_wp2
      go_end0
      exact ⟨rfl, Only.refl _ _⟩
  · injection hv with e1 e2 e3
    subst e1; subst e3
    have hB : Blk w g 52 cur := hh
    have hS : SpoilOk cur ps.length := fun j hj => by
      have h1 := hown.cells (g := g) rfl (j * 3 + 2) (.int .i64 ps[j].2.2) (by rw [flat_at pointCells 3 (fun _ => rfl) ps j 2 hj (by omega)]; rfl)
      rw [add_mk, Nat.zero_add, hB.cell] at h1
      exact ⟨_, h1⟩
    have HB := Lib.hid hB
    have HS := Lib.hid hS
    clear hown hh hcs hx hB hS e2
    go_enter Try.func35, Try.ntmps35
    go_wp2
    go_loopw [2] (fun i wr => ∃ (k : Nat) (cs : Array Value), k ≤ ps.length ∧ i = .int .i64 (k : Int) ∧ Hid (Blk wr g 52 cs) ∧ Hid (SpoilOk cs ps.length) ∧ Hid (Only (fun k => k = g) w wr)) (fun i _ => ps.length - (intOf i).toNat)
    case atStart => exact ⟨0, cur, Nat.zero_le _, rfl, HB, HS, Lib.hid (Only.refl _ _)⟩
    case round =>
      obtain ⟨k, cs, hk, rfl, hb, hs, ho⟩ := hrel
      by_cases hlt : k < ps.length
      · obtain ⟨x, hxk⟩ := hs.out k hlt
        have hc : wr.cell? ⟨g, k * 3 + 2, none⟩ = some (.int .i64 x) := (hb.out.cell _).trans hxk
        have hf : wr.frozen? ⟨g, k * 3 + 2, none⟩ = false := hb.out.frozen _
        clear hxk
        go_wp2
        go_roundw
        case rel => exact ⟨k + 1, _, by omega, by go_num, Lib.hid (hb.out.set_ _ _), Lib.hid (hs.out.set_ hlt _), Lib.hid (ho.out.setCell (fun _ => rfl) _)⟩
        case measure => simp [intOf]; omega
      · go_wp2
        go_end0
        exact ⟨rfl, ho.out.mono (fun j _ e => by rw [e]; rfl)⟩

end Go.Proofs.Ythdbmgjlegpbaaa
