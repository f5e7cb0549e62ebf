/- The walk through the reference's Merge. -/
import Derived.Test.YthdbmgjlegpbaaaKRfIns
import Derived.Test.YthdbmgjlegpbaaaK10
namespace Go.Proofs.Ythdbmgjlegpbaaa
open Go.RowKit
set_option linter.unusedVariables false

namespace Rf
open Ig
theorem set_sub {qs : List Pt.Point} {x : Pt.Point} (h : x ∈ setAll [] qs) : x ∈ qs := by
  have := (Qm.set_mem qs x).1 h
  exact (St.mem_fl.1 (List.mem_of_getLast? this)).1
theorem set_snoc (qs : List Pt.Point) (p : Pt.Point) : setAll [] (qs ++ [p]) = setP (setAll [] qs) p := by
  unfold setAll; rw [List.foldl_append]; rfl
end Rf
/-- one more point into the points so far -/
theorem ins_step (qs : List Pt.Point) (p : Pt.Point) (hn : qs.length + 3 ≤ 4398046511104) (hw : ∀ q ∈ qs, q.1.size ≤ 9223372036854775807) (hp : p.1.size ≤ 9223372036854775807) (A : Option Addr) (c : Nat) (W : World) (B : Nat) (hr : Reads W B 3 A (Ig.setAll [] qs).length ((Ig.setAll [] qs).flatMap pointCells)) (hB : B ≤ W.heap.size) :
    Calls Try.prog 61 #[.slice A (Ig.setAll [] qs).length c, .agg #[.string p.1, .int .i64 p.2.1, .int .i64 p.2.2]] W (PtsPost W (Ig.setAll [] (qs ++ [p]))) := by
  have hl := Ig.setAll_len [] qs
  rw [List.length_nil, Nat.zero_add] at hl
  have := rinsert_any A c (Ig.setAll [] qs) p W B hr hB (by omega) (fun q hq => hw q (Rf.set_sub hq)) hp
  rw [Rf.res_set p (Ig.setAll_sorted Ig.sorted_nil qs), ← Rf.set_snoc] at this
  exact this
set_option maxRecDepth 100000 in
set_option maxHeartbeats 4000000 in
theorem rmerge_any (A A' : Option Addr) (c c' : Nat) (a b : List Pt.Point) (w : World) (B : Nat) (hr : Reads w B 3 A a.length (a.flatMap pointCells)) (hq : Reads w B 3 A' b.length (b.flatMap pointCells)) (hB : B ≤ w.heap.size) (hn : a.length + b.length + 3 ≤ 4398046511104) (hwa : ∀ q ∈ a, q.1.size ≤ 9223372036854775807) (hwb : ∀ q ∈ b, q.1.size ≤ 9223372036854775807) :
    Calls Try.prog 36 #[.slice A a.length c, .slice A' b.length c'] w (PtsPost w (Qm.mergeP a b)) := by
  have HI1 := Lib.hid (fun (k : Nat) (p : Pt.Point) (hk : a[k]? = some p) => by
    have hkl := (List.getElem?_eq_some_iff.1 hk).1
    have hke := (List.getElem?_eq_some_iff.1 hk).2
    have h := ins_step (a.take k) p (by rw [List.length_take]; omega) (fun q hq => hwa q (List.mem_of_mem_take hq)) (hwa p (List.mem_of_getElem? hk))
    rw [show a.take k ++ [p] = a.take (k + 1) from by rw [List.take_succ_eq_append_getElem hkl, hke]] at h
    exact h)
  have HI2 := Lib.hid (fun (k : Nat) (p : Pt.Point) (hk : b[k]? = some p) => by
    have hkl := (List.getElem?_eq_some_iff.1 hk).1
    have hke := (List.getElem?_eq_some_iff.1 hk).2
    have h := ins_step (a ++ b.take k) p (by rw [List.length_append, List.length_take]; omega) (fun q hq => by
      rcases List.mem_append.1 hq with hq | hq
      · exact hwa q hq
      · exact hwb q (List.mem_of_mem_take hq)) (hwb p (List.mem_of_getElem? hk))
    rw [show a ++ b.take k ++ [p] = a ++ b.take (k + 1) from by rw [List.take_succ_eq_append_getElem hkl, hke, List.append_assoc]] at h
    exact h)
  have HF1 : Hid (Ig.setAll [] (a.take a.length) = Ig.setAll [] (a ++ b.take 0)) := by show _ = _; rw [List.take_length]; simp
  have HF2 : Hid (Ig.setAll [] (a ++ b.take b.length) = Qm.mergeP a b) := by show _ = _; rw [List.take_length]; rfl
  have HF0 : Hid (Ig.setAll [] (a.take 0) = []) := rfl
  generalize Qm.mergeP a b = res at *
  obtain ⟨F, hF⟩ : ∃ F : Nat → List Pt.Point, ∀ k, F k = Ig.setAll [] (a.take k) := ⟨fun k => Ig.setAll [] (a.take k), fun _ => rfl⟩
  obtain ⟨G, hG⟩ : ∃ G : Nat → List Pt.Point, ∀ k, G k = Ig.setAll [] (a ++ b.take k) := ⟨fun k => Ig.setAll [] (a ++ b.take k), fun _ => rfl⟩
  simp only [← hF, ← hG] at HI1 HI2 HF1 HF2 HF0
  have HR := Lib.hid hr
  have HQ := Lib.hid hq
  clear hr hq hwa hwb hF hG
  go_enter Try.func36, Try.ntmps36
  go_wp2_with fail
  go_loopw [5, 6] (fun vo i wr => ∃ (k : Nat), k ≤ a.length ∧ i = .int .i64 (k : Int) ∧ Hid (wr.ownsRow w.heap.size 52 3 vo (F k).length ((F k).flatMap pointCells)) ∧ Hid (Below w.heap.size w wr)) (fun _ i _ => a.length - (intOf i).toNat)
  case atStart => exact ⟨0, Nat.zero_le _, rfl, Lib.hid (by rw [HF0.out]; exact own_nil _ _ _ _), Lib.hid (Below.refl _ _)⟩
  case round =>
    obtain ⟨k, hk, rfl, hown, hbw⟩ := hrel
    have hsw := hbw.out.size
    by_cases hlt : k < a.length
    · have hltI : (k : Int) < (a.length : Int) := by omega
      obtain ⟨b0, off, rfl, hbl, hc⟩ := HR.out.2 (by omega)
      obtain ⟨p, hp⟩ : ∃ p, a[k]? = some p := ⟨_, List.getElem?_eq_getElem hlt⟩
      have hpe : a[k] = p := (List.getElem?_eq_some_iff.1 hp).2
      have hcp := pt_cells (wr := wr) hlt hc (fun p hp => hbw.out.cell (p := p) (by omega)) hbl
      rw [hpe] at hcp
      have HI := HI1.out k p hp
      clear hpe hp hc
      obtain ⟨pn, pt, pv⟩ := p
      dsimp only at hcp HI
      obtain ⟨q0, q1, q2⟩ := hcp
      obtain ⟨A5, c5, rfl, _, hr5⟩ := own_slice hown.out
      have HX := Lib.hid (HI A5 c5 wr wr.heap.size hr5 (Nat.le_refl _))
      clear HI hr5
      go_wp2_with fail
      refine HX.out.mono ?_
      rintro e w2 ⟨v, rfl, hown2, hb2⟩
      have Hown2 := Lib.hid (own_down hown2 hsw)
      have Hb2 : Hid (Below w.heap.size w w2) := hbw.out.trans (hb2.mono hsw)
      clear hown2 hb2 HX hown hbw
      go_wp2_with fail
      go_roundw
      case rel => exact ⟨k + 1, by omega, by go_num, Hown2, Hb2⟩
      case measure => simp [intOf]; omega
    · obtain rfl : k = a.length := by omega
      have hltI : ¬ (a.length : Int) < (a.length : Int) := by omega
      rw [HF1.out] at hown
      clear HI1 HF1 HF0
      generalize wr = wa at *
      go_wp2_with fail
      go_loopw [5, 7] (fun vo i wr => ∃ (k : Nat), k ≤ b.length ∧ i = .int .i64 (k : Int) ∧ Hid (wr.ownsRow w.heap.size 52 3 vo (G k).length ((G k).flatMap pointCells)) ∧ Hid (Below w.heap.size w wr)) (fun _ i _ => b.length - (intOf i).toNat)
      case atStart => exact ⟨0, Nat.zero_le _, rfl, hown, hbw⟩
      case round =>
        clear hown hbw hsw hltI hlt hk
        obtain ⟨k, hk, rfl, hown, hbw⟩ := hrel
        have hsw := hbw.out.size
        by_cases hlt : k < b.length
        · have hltI : (k : Int) < (b.length : Int) := by omega
          obtain ⟨b0, off, rfl, hbl, hc⟩ := HQ.out.2 (by omega)
          obtain ⟨p, hp⟩ : ∃ p, b[k]? = some p := ⟨_, List.getElem?_eq_getElem hlt⟩
          have hpe : b[k] = p := (List.getElem?_eq_some_iff.1 hp).2
          have hcp := pt_cells (wr := wr) hlt hc (fun p hp => hbw.out.cell (p := p) (by omega)) hbl
          rw [hpe] at hcp
          have HI := HI2.out k p hp
          clear hpe hp hc
          obtain ⟨pn, pt, pv⟩ := p
          dsimp only at hcp HI
          obtain ⟨q0, q1, q2⟩ := hcp
          obtain ⟨A5, c5, rfl, _, hr5⟩ := own_slice hown.out
          have HX := Lib.hid (HI A5 c5 wr wr.heap.size hr5 (Nat.le_refl _))
          clear HI hr5
          go_wp2_with fail
          refine HX.out.mono ?_
          rintro e w2 ⟨v, rfl, hown2, hb2⟩
          have Hown2 := Lib.hid (own_down hown2 hsw)
          have Hb2 : Hid (Below w.heap.size w w2) := hbw.out.trans (hb2.mono hsw)
          clear hown2 hb2 HX hown hbw
          go_wp2_with fail
          go_roundw
          case rel => exact ⟨k + 1, by omega, by go_num, Hown2, Hb2⟩
          case measure => simp [intOf]; omega
        · obtain rfl : k = b.length := by omega
          have hltI : ¬ (b.length : Int) < (b.length : Int) := by omega
          rw [HF2.out] at hown
          go_wp2_with fail
          go_ret
          exact ⟨_, rfl, hown.out, hbw.out⟩
end Go.Proofs.Ythdbmgjlegpbaaa
