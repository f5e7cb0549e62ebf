/- The walk through the law SealRanges (chapter 14). -/
import Derived.Test.YtapdlmiioljpgaaK14
namespace Go.Proofs.Ytapdlmiioljpgaa
open Go.RowKit
set_option linter.unusedVariables false

def Sv.madeE (k : Nat) : Array Value := madeCells #[.int .i64 0, .int .i64 0, .int .i64 0, .int .i64 0, .slice none 0 0] (k * 5)
theorem Sv.made_at (k j : Nat) (hj : j < k * 5) (u : Value) (hu : ((List.replicate k Sv.e0).flatMap entCells)[j]? = some u) : (Sv.madeE k)[j]? = some u := by
  have hl : (List.replicate k Sv.e0).length = k := List.length_replicate
  have hq : j / 5 < (List.replicate k Sv.e0).length := by rw [hl]; omega
  have hs : j = j / 5 * 5 + j % 5 := by omega
  have hf := flat_at entCells 5 (fun _ => rfl) (List.replicate k Sv.e0) (j / 5) (j % 5) hq (by omega)
  rw [← hs, hu, List.getElem_replicate] at hf
  unfold Sv.madeE madeCells
  rw [Array.getElem?_map, Array.getElem?_range, if_pos hj]
  simp only [Option.map_some]
  rcases (by omega : j % 5 = 0 ∨ j % 5 = 1 ∨ j % 5 = 2 ∨ j % 5 = 3 ∨ j % 5 = 4) with h | h | h | h | h <;>
  · rw [h] at hf
    have hz : (#[Value.int .i64 0, .int .i64 0, .int .i64 0, .int .i64 0, .slice none 0 0] : Array Value).size = 5 := rfl
    rw [hz, h]
    rw [hf]
    rfl
theorem Sv.made_ok {W : World} {g k : Nat} (h : Blk W g 43 (Sv.madeE k)) : LogOk W (some ⟨g, 0, none⟩) (List.replicate k Sv.e0) := by
  refine Sv.zeros_ok ⟨by rw [flat_length entCells 5 (fun _ => rfl), List.length_replicate], fun _ => ⟨g, 0, rfl, h.lt, fun j u hu => ?_⟩⟩
  have hj : j < k * 5 := by
    have := (List.getElem?_eq_some_iff.1 hu).1
    rwa [flat_length entCells 5 (fun _ => rfl), List.length_replicate] at this
  rw [Nat.zero_add, h.cell j]
  exact Sv.made_at k j hj u hu
theorem Sv.seg_base {base r : Int} {es : List Ent} (h : base = 3 ∨ base = 8) : Sv.segR base ⟨#[120]⟩ es r = (⟨#[]⟩, 1401) := by
  rcases h with rfl | rfl
  · exact Sv.seg_no (fun h => by have := h.2; omega)
  · refine Sv.seg_none ?_
    exact Sv.start_none (by omega) ig_a4
set_option maxRecDepth 100000 in
set_option maxHeartbeats 4000000 in
theorem sealRanges_walk (a0 a1 : Int) (w0 : (Lit.int .i64 a0).wf = true) (w1 : (Lit.int .i64 a1).wf = true) (w : World) :
    Calls Try.prog 10 #[.int .i64 a0, .int .i64 a1] w fun e w' => e = .returned (.bool true) ∧ Below w.heap.size w w' := by
  obtain ⟨i0, hi, hz0, hz1, hz2⟩ := info_parts info_entry
  obtain ⟨k, hk, hand⟩ := and_low a0 63 (by omega)
  rw [show ((63 : Nat) : Int) = 63 from rfl] at hand
  have hmk := fun W : World => run_make_rowN (P := Try.prog) 66 43 i0 _ Try.underlying66 hi hz0 .i64 .i64 k k (Nat.le_refl _) (by rw [hz2]; omega) (by omega) W
  rw [hz1] at hmk
  have hmk2 : ∀ W : World, (Instr.makeSlice 66 (.int .i64 (k : Int)) (.int .i64 (k : Int))).run Try.prog W = .ok (.slice (some ⟨W.heap.size, 0, none⟩) k k) (W.alloc (.cells (Sv.madeE k) 43)) := hmk
  clear hmk
  have hx := Int.tmod_lt_of_pos a1 (b := 12) (by omega)
  have hx2 : -12 < a1.tmod 12 := Int.lt_tmod_of_pos a1 (by omega)
  obtain ⟨x, hxx⟩ : ∃ x, a1.tmod 12 = x := ⟨_, rfl⟩
  rw [hxx] at hx hx2
  go_enter Try.func10, Try.ntmps10
  go_wp2_with fail
  refine (awake14 _).mono ?_
  rintro e w1 ⟨rfl, hb1⟩
  have Hb1 := Lib.hid hb1
  have hs1 := hb1.size
  clear hb1
  have hb2 : Below w1.heap.size w1 (w1.alloc (.cells (Sv.madeE k) 43)) := (Below.refl _ _).alloc (Nat.le_refl _) _
  have hlg := Sv.made_ok (Blk.new w1 43 (Sv.madeE k))
  have hlen : (List.replicate k Sv.e0).length = k := List.length_replicate
  have HSeg : Hid (∀ (base : Int) (snap : ByteArray), snap.size ≤ maxLen → ∀ W, Below (w1.alloc (.cells (Sv.madeE k) 43)).heap.size (w1.alloc (.cells (Sv.madeE k) 43)) W → Calls Try.prog 52 #[.agg #[.int .i64 base, .string snap, .slice (some ⟨w1.heap.size, 0, none⟩) k k], .int .i64 x] W fun e w' => e = .returned (.tuple #[.string (Sv.segR base snap (List.replicate k Sv.e0) x).1, .int .i64 (Sv.segR base snap (List.replicate k Sv.e0) x).2]) ∧ Below W.heap.size W w') := fun base snap hs W hb => by
    have := segment_any base snap (some ⟨w1.heap.size, 0, none⟩) k (List.replicate k Sv.e0) x W (hlg.below hb) hs (by rw [hlen]; omega) (by rw [hlen]; omega) (by omega)
    rw [hlen] at this
    exact this
  have Hb2 : Hid (Below w.heap.size w (w1.alloc (.cells (Sv.madeE k) 43))) := Hb1.out.trans (hb2.mono hs1)
  have H3 := Lib.hid (@Sv.seg_base 3 x (List.replicate k Sv.e0) (.inl rfl))
  have H8 := Lib.hid (@Sv.seg_base 8 x (List.replicate k Sv.e0) (.inr rfl))
  have HG := Lib.hid (fun h1 h2 => @Sv.zeros_good k x h1 h2 (by omega))
  have HBd := Lib.hid (fun h => @Sv.zeros_bad k x h (by omega))
  clear hb2 hlg hlen
  have hcs : x < 1 ∨ (¬ x < 1 ∧ (k : Int) < x * 8) ∨ (¬ x < 1 ∧ ¬ (k : Int) < x * 8) := by omega
  rcases hcs with c1 | ⟨c1, c2⟩ | ⟨c1, c2⟩
  · have HS := HSeg.out 0 ⟨#[]⟩ (by decide)
    rw [HBd.out (.inl c1)] at HS
    clear HSeg H3 H8 HG HBd
    go_wp2_with fail
    refine (HS _ (Below.refl _ _)).mono ?_
    rintro e w3 ⟨rfl, hb3⟩
    have Hb3 : Hid (Below w.heap.size w w3) := Hb2.out.trans (hb3.mono Hb2.out.size)
    clear HS hb3
    go_wp2_with fail
    refine (errno_any _ _).mono ?_
    rintro e w' ⟨rfl, rfl⟩
    go_wp2_with fail
    go_ret
    exact ⟨rfl, Hb3.out⟩
  · have HS := HSeg.out 0 ⟨#[]⟩ (by decide)
    rw [HBd.out (.inr c2)] at HS
    have hd2 : decide ((k : Int) < x * 8) = true := decide_eq_true c2
    clear HSeg H3 H8 HG HBd
    go_wp2_with fail
    refine (HS _ (Below.refl _ _)).mono ?_
    rintro e w3 ⟨rfl, hb3⟩
    have Hb3 : Hid (Below w.heap.size w w3) := Hb2.out.trans (hb3.mono Hb2.out.size)
    clear HS hb3
    go_wp2_with fail
    refine (errno_any _ _).mono ?_
    rintro e w' ⟨rfl, rfl⟩
    go_wp2_with fail
    go_ret
    exact ⟨rfl, Hb3.out⟩
  · have HS := HSeg.out 0 ⟨#[]⟩ (by decide)
    have HS3 := HSeg.out 3 ⟨#[120]⟩ (by decide)
    have HS8 := HSeg.out 8 ⟨#[120]⟩ (by decide)
    obtain ⟨g1, g2⟩ := HG.out (by omega) (by omega)
    rw [g2] at HS
    rw [H3.out] at HS3
    rw [H8.out] at HS8
    have hd2 : decide ((k : Int) < x * 8) = false := decide_eq_false c2
    clear HSeg H3 H8 HG HBd g2
    generalize (Sv.segR 0 ⟨#[]⟩ (List.replicate k Sv.e0) x).1 = tx at *
    have hg2 : decide ((12 : Int) < (tx.size : Int)) = true := decide_eq_true (by omega)
    go_wp2_with fail
    refine (HS _ (Below.refl _ _)).mono ?_
    rintro e w3 ⟨rfl, hb3⟩
    have HS3' := HS3 w3 hb3
    have HS8' := HS8 w3 hb3
    have Hb3 : Hid (Below w.heap.size w w3) := Hb2.out.trans (hb3.mono Hb2.out.size)
    have HX8 := fun W (hb : Below w3.heap.size w3 W) => HS8 W (hb3.trans (hb.mono hb3.size))
    clear HS HS3 HS8 HS8' hb3
    go_wp2_with fail
    refine HS3'.mono ?_
    rintro e w4 ⟨rfl, hb4⟩
    have HX := HX8 w4 hb4
    have Hb4 : Hid (Below w.heap.size w w4) := Hb3.out.trans (hb4.mono Hb3.out.size)
    clear HX8 HS3' hb4
    go_wp2_with fail
    refine HX.mono ?_
    rintro e w5 ⟨rfl, hb5⟩
    have Hb5 : Hid (Below w.heap.size w w5) := Hb4.out.trans (hb5.mono Hb4.out.size)
    clear HX hb5
    go_wp2_with fail
    refine (errno_any _ _).mono ?_
    rintro e w' ⟨rfl, rfl⟩
    go_wp2_with fail
    refine (errno_any _ _).mono ?_
    rintro e w' ⟨rfl, rfl⟩
    go_wp2_with fail
    refine (errno_any _ _).mono ?_
    rintro e w' ⟨rfl, rfl⟩
    go_wp2_with fail
    go_ret
    exact ⟨rfl, Hb5.out⟩
end Go.Proofs.Ytapdlmiioljpgaa
