/- The walk through the law IngestMany (chapter 11). -/
import Derived.Test.YtfopbkgbegeffaaK12
namespace Go.Proofs.Ytfopbkgbegeffaa
open Go.RowKit
set_option linter.unusedVariables false

def Ig.down (k : Nat) : List Pt.Point := (List.range k).map fun (i : Nat) => Ig.pt (100 - (i : Int)) (i : Int)
theorem Ig.down_len (k : Nat) : (Ig.down k).length = k := by simp [Ig.down]
theorem Ig.down_get (k i : Nat) (h : i < (Ig.down k).length) : (Ig.down k)[i] = Ig.pt (100 - (i : Int)) (i : Int) := by simp [Ig.down]
theorem Ig.down_set : ∀ k : Fin 9, Ig.setAll [] (Ig.down k.1) = (Ig.down k.1).reverse := by decide +kernel
theorem Ig.down_may (k : Nat) (h : k ≤ 8) : ∀ p ∈ Ig.down k, Pt.mayB p = true := fun p hp => by
  unfold Ig.down at hp
  rw [List.mem_map] at hp
  obtain ⟨i, hi, rfl⟩ := hp
  rw [List.mem_range] at hi
  exact Ig.pt_may (by omega) (by omega)
theorem Ig.down_batch (k : Nat) (h : k ≤ 8) : Pt.batchB (Ig.down k) = true := by
  unfold Pt.batchB
  rw [List.all_eq_true.2 (Ig.down_may k h), Ig.down_len]
  simpa using h
theorem own_reads_only {w w' : World} {base n c : Nat} {e : TypeId} {size : Nat} {A : Option Addr} {xs : List Value} {S T : Nat → Prop} (h : w.ownsRow base e size (.slice A n c) n xs) (ho : Only S w w') (hT : ∀ k, S k → T k) (hs : ∀ g, Value.ownBlock (.slice A n c) = some g → ¬ S g) : Reads w' w'.heap.size size A n xs := Reads.of_own (own_only h ho hs)
def Ig.mn (k : Nat) : Ig.M := ⟨2, [(1, 1, 2, 2)], (Ig.down k).reverse, [], []⟩
theorem Ig.mn_eq (k : Nat) (h : k ≤ 8) : Ig.applyM Ig.m1 0 0 1 1 (Ig.down k) = (Ig.mn k, 2, 0) := by
  rw [Ig.apply_open _ _ _ _ _ (by decide) (by decide), Ig.take_write (m := Ig.up Ig.m1) rfl (by omega) (by omega) (by omega) (Ig.down_batch k h) (by decide)]
  have := Ig.down_set ⟨k, by omega⟩
  simp only at this
  show ((⟨2, [(1, 1, 2, 2)], Ig.setAll [] (Ig.down k), [], []⟩ : Ig.M), (2 : Int), (0 : Int)) = _
  rw [this]; rfl
theorem Ig.down_cells (k : Nat) : (Ig.down (k + 1)).flatMap pointCells = (Ig.down k).flatMap pointCells ++ [.string ⟨#[115]⟩, .int .i64 (100 - (k : Int)), .int .i64 (k : Int)] := by
  unfold Ig.down
  rw [List.range_succ, List.map_append, List.flatMap_append]; rfl
set_option maxRecDepth 100000 in
set_option maxHeartbeats 2000000 in
theorem ingestMany_walk (a0 : Int) (w0 : (Lit.int .i64 a0).wf = true) (w : World) :
    Calls Try.prog 8 #[.int .i64 a0] w fun e w' => e = .returned (.bool true) ∧ Below w.heap.size w w' := by
  obtain ⟨i0, hi, hz0, hz1, hz2⟩ := info_parts info_cloneP
  obtain ⟨c, hc, hand⟩ := and_low a0 7 (by omega)
  rw [show ((7 : Nat) : Int) = 7 from rfl] at hand
  have HT1 := Lib.hid (Ig.mn_eq (1 + c) (by omega))
  have HD := Lib.hid Ig.down_cells
  have HL := Lib.hid Ig.down_len
  clear w0
  go_enter Try.func8, Try.ntmps8
  go_wp2_with fail
  refine (awake11 _).mono ?_
  rintro e w1 ⟨rfl, hb1⟩
  have Hb1 := Lib.hid hb1
  have hs1 := hb1.size
  clear hb1
  go_wp2_with fail
  refine (begun_any w1).mono ?_
  rintro e w2 ⟨rfl, hm2, hb2⟩
  have HM2 := Lib.hid hm2
  have Hb2 : Hid (Below w1.heap.size w1 w2) := hb2
  have hs2 := hb2.size
  clear hm2 hb2
  go_wp2_with fail
  clear hand
  go_loopw [5, 6] (fun v i wr => ∃ j : Nat, j ≤ 1 + c ∧ i = .int .i64 (j : Int) ∧ Hid (wr.ownsRow w2.heap.size 58 3 v j ((Ig.down j).flatMap pointCells)) ∧ Hid (Below w2.heap.size w2 wr)) (fun _ i _ => 1 + c - (intOf i).toNat)
  case atStart => exact ⟨0, Nat.zero_le _, rfl, Lib.hid (by show World.ownsRow _ _ _ _ _ _ _; exact own_nil w2 w2.heap.size 58 3), Lib.hid (Below.refl _ _)⟩
  case round =>
    obtain ⟨j, hj, rfl, hown, hbw⟩ := hrel
    have hsw := hbw.out.size
    by_cases hlt : j < 1 + c
    · have Hc := Lib.hid (HD.out j)
      go_wp2_with (at_builtin; refine wpList_push wr rfl _ _ 22 rfl w2.heap.size 58 i0 _ 3 32 Try.underlying22 hi hz0 hz1 hz2 rfl (by decide) _ j _ (by rfl) hown.out [.string ⟨#[115]⟩, .int .i64 (100 - (j : Int)), .int .i64 (j : Int)] (by rfl) rfl (by simp [Value.oneCell']) (by unfold maxLen; omega) (by omega) w2 hbw.out hsw ?_; intro v8 w8 hown8 hb8)
      have Hown8 : Hid (w8.ownsRow w2.heap.size 58 3 v8 (j + 1) ((Ig.down (j + 1)).flatMap pointCells)) := by show World.ownsRow _ _ _ _ _ _ _; rw [Hc.out]; exact hown8
      have Hb8 := Lib.hid hb8
      clear hown8 hb8
      go_roundw
      case rel => exact ⟨j + 1, by omega, by go_num, Hown8, Hb8⟩
      case measure => simp [intOf]; omega
    · obtain rfl : j = 1 + c := by omega
      obtain ⟨A, cp, rfl, hnc, hrd⟩ := own_slice hown.out
      have hmx := HM2.out.more (Y := fun k => w2.heap.size ≤ k ∧ k < wr.heap.size) hbw.out (fun k q => .inr q.1)
      have hAb : ∀ b off, A = some ⟨b, off, none⟩ → w2.heap.size ≤ b ∧ b < wr.heap.size := fun b off e => by
        subst e
        obtain ⟨g, hg, h1, h2⟩ := own_some hown.out (by omega)
        injection hg with hg; injection hg with hg _ _
        subst hg; exact ⟨h1, h2⟩
      have HA := Lib.hid (applyX hmx Ig.inv1 0 0 1 1 A cp (1 + c) (Ig.down (1 + c)) (HL.out _) (by rw [HL.out]; exact hrd) (fun p hp => Ig.wf_of (Ig.down_may _ (by omega) p hp)) (by rw [HL.out]; omega) (fun k q => q.2) (fun b off e => .inl (hAb b off e)) (by omega))
      rw [HT1.out] at HA
      have Hrd := Lib.hid hrd
      have Hb1' : Hid (Below w1.heap.size w1 wr) := Hb2.out.trans (hbw.out.mono hs2)
      have hs1' := Hb1'.out.size
      clear hmx hAb hrd
      go_wp2_with fail
      refine HA.out.mono ?_
      rintro e w3 ⟨rfl, hm3, ho3⟩
      have Hb3 : Hid (Below w1.heap.size w1 w3) := Hb1'.out.trans (ho3.below (fun k hk q => by omega) hs1')
      have Hr3 : Hid (Reads w3 w3.heap.size 3 A (1 + c) ((Ig.down (1 + c)).flatMap pointCells)) := (own_reads_only (T := fun _ => True) hown.out ho3 (fun _ _ => trivial) (fun g hg q => q.2 (own_lt hown.out hg)))
      have hs3 := Hb3.out.size
      have Hop := Lib.hid (openX hm3 (by show (Ig.down (1 + c)).reverse.length ≤ _; rw [List.length_reverse, HL.out]; omega))
      clear hm3 ho3 HA Hb1'
      simp only
      go_wp2_with fail
      refine Hop.out.mono ?_
      rintro e w4 ⟨v4, rfl, hown4, hb4⟩
      obtain ⟨A4, c4, rfl, _, hr4⟩ := own_slice hown4
      have hlo : (Ig.mn (1 + c)).opn.length = 1 + c := by show (Ig.down (1 + c)).reverse.length = _; rw [List.length_reverse, HL.out]
      have Hr4 : Hid (Reads w4 w4.heap.size 3 A4 (1 + c) ((Ig.down (1 + c)).reverse.flatMap pointCells)) := by have := hr4; rw [hlo] at this; exact this
      have Hr3' : Hid (Reads w4 w4.heap.size 3 A (1 + c) ((Ig.down (1 + c)).flatMap pointCells)) := (Hr3.out.below hb4).more hb4.size
      have Hb4 : Hid (Below w.heap.size w w4) := Hb1.out.trans ((Hb3.out.trans (hb4.mono hs3)).mono hs1)
      rw [hlo]
      clear hown4 hb4 hr4 hlo Hop Hb3 Hr3 Hrd hown hbw HD
      have hnn : ((1 : Int) + (c : Int) != 1 + (c : Int)) = false := by simp
      have hnn2 : (((1 + c : Nat) : Int) != 1 + (c : Int)) = false := by simp
      go_wp2_with fail
      obtain ⟨b4, o4, rfl, hb4, hc4⟩ := Hr4.out.2 (by omega)
      obtain ⟨b3, o3, rfl, hb3, hc3⟩ := Hr3'.out.2 (by omega)
      have hlr : (Ig.down (1 + c)).reverse.length = 1 + c := by rw [List.length_reverse, HL.out]
      have Hc4 : Hid (∀ j (h : j < 1 + c), w4.cell? ⟨b4, o4 + j * 3, none⟩ = some (.string ⟨#[115]⟩) ∧ w4.cell? ⟨b4, o4 + j * 3 + 1, none⟩ = some (.int .i64 (100 - ((c - j : Nat) : Int))) ∧ w4.cell? ⟨b4, o4 + j * 3 + 2, none⟩ = some (.int .i64 ((c - j : Nat) : Int))) := fun j h => by
        have := pt_cells (wr := w4) (k := j) (by rw [hlr]; exact h) hc4 (fun p hp => rfl) hb4
        rw [List.getElem_reverse, Ig.down_get] at this
        rw [show (Ig.down (1 + c)).length - 1 - j = c - j from by rw [HL.out]; omega] at this
        exact this
      have Hc3 : Hid (∀ j (h : j < 1 + c), w4.cell? ⟨b3, o3 + j * 3, none⟩ = some (.string ⟨#[115]⟩) ∧ w4.cell? ⟨b3, o3 + j * 3 + 1, none⟩ = some (.int .i64 (100 - (j : Int))) ∧ w4.cell? ⟨b3, o3 + j * 3 + 2, none⟩ = some (.int .i64 (j : Int))) := fun j h => by
        have := pt_cells (wr := w4) (k := j) (by rw [HL.out]; exact h) hc3 (fun p hp => rfl) hb3
        rw [Ig.down_get] at this
        exact this
      clear hc3 hc4 Hr4 Hr3' hnn hnn2 HL HT1
      go_loopw [10] (fun i wr => ∃ j n : Nat, j ≤ 1 + c ∧ i = .int .i64 (j : Int) ∧ wr = w4.drewN n) (fun i _ => 1 + c - (intOf i).toNat)
      case atStart => exact ⟨0, 0, Nat.zero_le _, rfl, rfl⟩
      case round =>
        obtain ⟨j, n, hj, rfl, rfl⟩ := hrel
        by_cases hlt : j < 1 + c
        · obtain ⟨x0, x1, x2⟩ := Hc4.out j hlt
          obtain ⟨y0, y1, y2⟩ := Hc3.out (c - j) (by omega)
          have hd : ((c - j : Nat) : Int) = (c : Int) - (j : Int) := by omega
          have w1' : IntKind.i64.wrap (1 + (c : Int) - 1) = (c : Int) := by rw [show 1 + (c : Int) - 1 = (c : Int) from by omega]; exact IntWalk.i64_in _ (by omega)
          have w2' : IntKind.i64.wrap ((c : Int) - (j : Int)) = ((c - j : Nat) : Int) := by rw [← hd]; exact IntWalk.i64_in _ (by omega)
          clear hd
          have e0 : (0 : Int) ≤ ((c - j : Nat) : Int) := by omega
          have e1 : ((c - j : Nat) : Int) < 1 + (c : Int) := by omega
          have e2 : (0 : Int) ≤ (j : Int) := by omega
          have e3 : (j : Int) < 1 + (c : Int) := by omega
          generalize c - j = d at *
          go_wp2_with fail
          go_quiet (fail)
          go_wp2_with fail
          go_roundw
          case rel => exact ⟨j + 1, n + nq, by omega, by go_num, by simp⟩
          case measure => simp [intOf]; omega
        · go_wp2_with fail
          go_ret
          exact ⟨rfl, below_drewN Hb4.out _⟩
end Go.Proofs.Ytfopbkgbegeffaa
