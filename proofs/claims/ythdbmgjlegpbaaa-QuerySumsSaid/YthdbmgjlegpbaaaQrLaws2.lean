/- The walk through QueryAggregates. -/
import Derived.Test.YthdbmgjlegpbaaaQrLaws
namespace Go.Proofs.Ythdbmgjlegpbaaa
open Go.RowKit
set_option linter.unusedVariables false

theorem qr_wf_of {z : List Pt.Point} (h : ∀ p ∈ z, (Lit.int .i64 p.2.1).wf = true ∧ (Lit.int .i64 p.2.2).wf = true ∧ p.1.size ≤ maxLen) : ∀ p ∈ z, Pt.wf p := fun p hp => by
  exact ⟨wf_int (h p hp).1, wf_int (h p hp).2.1⟩
set_option maxRecDepth 100000 in
set_option maxHeartbeats 1000000 in
theorem queryAggregates_walk {w : World} (A0 : Option Addr) (c0 : Nat) (z0 : List Pt.Point) (a1 : Int) (rd0 : Reads w w.heap.size 3 A0 z0.length (z0.flatMap pointCells)) (wf0 : ∀ p ∈ z0, (Lit.int .i64 p.2.1).wf = true ∧ (Lit.int .i64 p.2.2).wf = true ∧ p.1.size ≤ maxLen) (nb0 : z0.length * 32 ≤ 140737488351232) (w1 : (Lit.int .i64 a1).wf = true) :
    Calls Try.prog 5 #[.slice A0 z0.length c0, .int .i64 a1] w fun e w' => e = .returned (.bool true) ∧ Below w.heap.size w w' := by
  have hwf := qr_wf_of wf0
  have HLd := Lib.hid (lendPoints_any A0 c0 z0 w w.heap.size rd0 (Nat.le_refl _) nb0)
  have HRp := fun W (hb : Below w.heap.size w W) => Lib.hid (raggregate_any A0 c0 z0 a1 W w.heap.size (rd0.below hb) hb.size (by omega) hwf)
  have HPg := fun g cap (W : World) (hr : Reads W W.heap.size 3 (some ⟨g, 0, none⟩) z0.length (z0.flatMap pointCells)) => Lib.hid (aggregate_any (some ⟨g, 0, none⟩) cap z0 a1 W W.heap.size hr (Nat.le_refl _) (by omega) hwf)
  have Hrd1 := Lib.hid rd0
  unfold AggPost at HRp HPg
  generalize Qr.aggR z0 a1 = X at *
  obtain ⟨V, O, E⟩ := X
  simp only at HRp HPg
  have hvv : (V == V) = true := by simp
  have hoo : (O == O) = true := by simp
  have hee : (E == E) = true := by simp
  clear wf0 hwf rd0 w1
  go_enter Try.func5, Try.ntmps5
  go_wp2_with fail
  refine HLd.out.mono ?_
  rintro e w1 ⟨g, cap, rfl, hg, hcap, hmax, hown1, hb1⟩
  have hrX := Reads.of_own hown1
  have hrH := hrX.head (xs := z0.flatMap pointCells) (ys := roomPoints) (flat_length pointCells 3 (fun _ => rfl) z0)
  have HP := HPg g cap w1 hrH
  have HK := fun W (hx : Below w1.heap.size w1 W) (hw : Below w.heap.size w W) => Lib.hid (keptPoints_true A0 g c0 cap z0 W w1.heap.size w.heap.size (hrX.below hx) (Hrd1.out.below hw) hcap (by omega))
  have Hb1 := Lib.hid hb1
  have hs1 := hb1.size
  clear hown1 hb1 hrX hrH HLd Hrd1 hg hmax HPg
  go_wp2_with fail
  refine HP.out.mono ?_
  rintro e w2 ⟨rfl, hb2⟩
  have Hb2 := Lib.hid hb2
  clear hb2
  go_wp2_with fail
  refine (HRp w2 (Hb1.out.trans (Hb2.out.mono hs1))).out.mono ?_
  rintro e w3 ⟨rfl, hb3⟩
  have Hb3 : Hid (Below w1.heap.size w1 w3) := Hb2.out.trans (hb3.mono Hb2.out.size)
  have hs3 := Hb3.out.size
  have Hb03 : Hid (Below w.heap.size w w3) := Hb1.out.trans (Hb3.out.mono hs1)
  clear hb3 Hb2
  go_wp2_with fail
  refine (errno_any _ _).mono ?_
  rintro e w' ⟨rfl, rfl⟩
  go_wp2_with fail
  refine (HK w3 Hb3.out Hb03.out).out.mono ?_
  rintro e w7 ⟨rfl, n7, rfl⟩
  go_wp2_with fail
  refine (awake15 _).mono ?_
  rintro e w11 ⟨rfl, hb11⟩
  have Hb11 : Hid (Below w.heap.size w w11) := (below_drewN Hb03.out n7).trans (hb11.mono (below_drewN Hb03.out n7).size)
  clear hb11
  go_wp2_with fail
  go_ret
  exact ⟨rfl, Hb11.out⟩
end Go.Proofs.Ythdbmgjlegpbaaa
