/- The walk through the reference's rises; three rows beside one another. -/
import Derived.Test.YthdbmgjlegpbaaaSgMay
import Derived.Test.YthdbmgjlegpbaaaClTexts2
namespace Go.Proofs.Ythdbmgjlegpbaaa
open Go.RowKit
set_option linter.unusedVariables false

set_option maxRecDepth 100000 in
set_option maxHeartbeats 1600000 in
theorem rrises_any (A : Option Addr) (c : Nat) (ps : List Pt.Point) (w : World) (B : Nat) (hr : Reads w B 3 A ps.length (ps.flatMap pointCells)) (hB : B ≤ w.heap.size) (hn : ps.length ≤ 140737488355328) (hwf : ∀ p ∈ ps, Pt.wf p) (hsz : ∀ p ∈ ps, p.1.size ≤ 9223372036854775807) :
    Calls Try.prog 62 #[.slice A ps.length c] w fun e w' => e = .returned (.bool (Sg.riseB ps)) ∧ Below w.heap.size w w' := by
  have HW := Lib.hid hwf
  have HR := Lib.hid hr
  have HZ := Lib.hid hsz
  have HSt := Lib.hid (fun k hk h => @range_stop ps k hk h)
  have HDef : Hid (Sg.riseB ps = (decide (ps.length ≤ 64) && (List.range ps.length).all (Sg.okAt ps))) := rfl
  clear hwf hr hsz
  generalize Sg.riseB ps = res at *
  go_enter Try.func62, Try.ntmps62
  go_wp2_with fail
  go_loopw [3] (fun i wr => ∃ k : Nat, k ≤ ps.length ∧ i = .int .i64 (k : Int) ∧ Hid ((List.range k).all (Sg.okAt ps) = true) ∧ Hid (Below w.heap.size w wr)) (fun i _ => ps.length - (intOf i).toNat)
  case atStart => exact ⟨0, Nat.zero_le _, rfl, Lib.hid (by simp), Lib.hid (Below.refl _ _)⟩
  case round =>
    obtain ⟨k, hk, rfl, ha, hbw⟩ := hrel
    by_cases hlt : k < ps.length
    · obtain ⟨b, off, rfl, hbl, hc⟩ := HR.out.2 (by omega)
      have hpx := fun x : Aft wr.heap.size wr => pt_cells (wr := x.world) hlt hc (fun p hp => (x.below.cell (p := p) (by have := hbw.out.size; omega)).trans (hbw.out.cell (p := p) (by omega))) hbl
      have hx0 := fun x => (hpx x).1
      have hx1 := fun x => (hpx x).2.1
      have hx2 := fun x => (hpx x).2.2
      clear hpx
      have hM := fun W => Lib.hid (rmay_any ps[k] W (HW.out _ (List.getElem_mem _)))
      have hok := okAt_eq hlt
      have HGo := Lib.hid (fun h => range_step ha.out h)
      have HS := Lib.hid (fun h => HSt.out k hlt h)
      have hsw := hbw.out.size
      have hj0 : (0 : Int) ≤ (k : Int) := by omega
      have hj1 : (k : Int) < (ps.length : Int) := by omega
      cases hm : Pt.mayB ps[k]
      · have HRf : Hid (res = false) := HS.out (by rw [hok, hm]; rfl)
        rw [hm] at hM
        clear hok hm HGo HS ha hc HSt HDef
        generalize hp1 : ps[k].1 = nm at *
        generalize hp2 : ps[k].2.1 = t at *
        generalize hp3 : ps[k].2.2 = v at *
        clear hp1 hp2 hp3
        go_wp2_with fail
        refine wp_region_aft wr.heap.size wr (by kernel_rfl) (by kernel_rfl) (Below.refl _ _) ?_
        repeat (go_big_quiet_step (first | (go_at_call 86; with_reducible exact aft_new (Nat.le_refl _) (Hid.out (hM _)))))
        refine wpQuiet_nil ?_
        rintro _ ⟨x, rfl⟩
        have Hx : Hid (Below w.heap.size w x.world) := hbw.out.trans (x.below.mono hbw.out.size)
        clear hx0 hx1 hx2
        generalize x.world = w3 at *
        go_wp2_with fail
        go_ret
        exact ⟨ret_bool HRf.out.symm, Hx.out⟩
      · rw [hm] at hM hok
        rw [Bool.true_and] at hok
        by_cases hk0 : k = 0
        · have HOk := Lib.hid (HGo.out (by rw [hok, decide_eq_true hk0]; rfl))
          have hk1 : k ≤ 0 := by omega
          clear hk0 hok hm HGo HS ha hc HSt HDef
          have d0 : decide ((0 : Int) < (k : Int)) = false := decide_eq_false (by omega)
          have d1 : decide (0 < k) = false := decide_eq_false (by omega)
          generalize hp1 : ps[k].1 = nm at *
          generalize hp2 : ps[k].2.1 = t at *
          generalize hp3 : ps[k].2.2 = v at *
          clear hp1 hp2 hp3
          go_wp2_with fail
          refine wp_region_aft wr.heap.size wr (by kernel_rfl) (by kernel_rfl) (Below.refl _ _) ?_
          repeat (go_big_quiet_step (first | (go_at_call 86; with_reducible exact aft_new (Nat.le_refl _) (Hid.out (hM _)))))
          refine wpQuiet_nil ?_
          rintro _ ⟨x, rfl⟩
          have Hx : Hid (Below w.heap.size w x.world) := hbw.out.trans (x.below.mono hbw.out.size)
          clear hx0 hx1 hx2
          generalize x.world = w3 at *
          go_wp2_with fail
          go_roundw
          case rel => exact ⟨k + 1, by omega, by go_num, HOk, Hx⟩
          case measure => simp [intOf]; omega
        · obtain ⟨j, rfl⟩ : ∃ j, k = j + 1 := ⟨k - 1, by omega⟩
          have hjl : j < ps.length := by omega
          rw [decide_eq_false hk0, Bool.false_or, show j + 1 - 1 = j from by omega, getD_lt hjl] at hok
          have hpv := fun x : Aft wr.heap.size wr => pt_cells (wr := x.world) hjl hc (fun p hp => (x.below.cell (p := p) (by omega)).trans (hbw.out.cell (p := p) (by omega))) hbl
          have hy0 := fun x => (hpv x).1
          have hy1 := fun x => (hpv x).2.1
          have hy2 := fun x => (hpv x).2.2
          have hL := fun W => Lib.hid (rless_any ps[j] ps[j + 1] W (HZ.out _ (List.getElem_mem _)) (HZ.out _ (List.getElem_mem _)))
          have hOk := Lib.hid (fun h => HGo.out (by rw [hok]; exact h))
          have hNo := Lib.hid (fun h => HS.out (by rw [hok]; exact h))
          clear hok hm HGo HS ha hc HSt HDef hk0 hpv
          generalize Pt.lessB ps[j] ps[j + 1] = bl at *
          generalize hp1 : ps[j + 1].1 = nm at *
          generalize hp2 : ps[j + 1].2.1 = t at *
          generalize hp3 : ps[j + 1].2.2 = v at *
          generalize hp4 : ps[j].1 = nm' at *
          generalize hp5 : ps[j].2.1 = t' at *
          generalize hp6 : ps[j].2.2 = v' at *
          clear hp1 hp2 hp3 hp4 hp5 hp6
          go_wp2_with fail
          have hi0 : (0 : Int) ≤ (j : Int) := by omega
          have hi1 : (j : Int) < (ps.length : Int) := by omega
          have hi2 : (0 : Int) ≤ (j : Int) + 1 := by omega
          have hi3 : (j : Int) + 1 < (ps.length : Int) := by omega
          have hi4 : ((j : Int) + 1).toNat = j + 1 := by omega
          have d1 : decide ((0 : Int) < (j : Int) + 1) = true := decide_eq_true (by omega)
          have d2 : decide (0 < j + 1) = true := decide_eq_true (by omega)
          have hw1 : IntKind.i64.wrap ((j : Int) + 1 - 1) = (j : Int) := by rw [show (j : Int) + 1 - 1 = (j : Int) from by omega]; exact IntWalk.i64_in _ (by omega)
          have hw2 : IntKind.i64.wrap (j : Int) = (j : Int) := IntWalk.i64_in _ (by omega)
          refine wp_region_aft wr.heap.size wr (by kernel_rfl) (by kernel_rfl) (Below.refl _ _) ?_
          repeat (go_big_quiet_step (first | (go_at_call 86; with_reducible exact aft_new (Nat.le_refl _) (Hid.out (hM _))) | (go_at_call 85; with_reducible exact aft_new (Nat.le_refl _) (Hid.out (hL _)))))
          refine wpQuiet_nil ?_
          rintro _ ⟨x, rfl⟩
          have Hx : Hid (Below w.heap.size w x.world) := hbw.out.trans (x.below.mono hbw.out.size)
          clear hx0 hx1 hx2 hy0 hy1 hy2 hw1 hw2 hi4
          generalize x.world = w3 at *
          cases bl
          · have HRf : Hid (res = false) := hNo.out rfl
            go_wp2_with fail
            go_ret
            exact ⟨ret_bool HRf.out.symm, Hx.out⟩
          · have HOk := Lib.hid (hOk.out rfl)
            go_wp2_with fail
            go_roundw
            case rel => exact ⟨j + 1 + 1, by omega, by go_num, HOk, Hx⟩
            case measure => simp [intOf]; omega
    · have HRf : Hid (res = decide (ps.length ≤ 64)) := by
        show _ = _
        have e : k = ps.length := by omega
        have := ha.out
        rw [e] at this
        rw [HDef.out, this]; simp
      clear ha HSt HDef
      go_wp2_with fail
      go_ret
      exact ⟨ret_bool (by rw [HRf.out]; first | rfl | (rw [decide_eq_decide]; omega)), hbw.out⟩
end Go.Proofs.Ythdbmgjlegpbaaa
