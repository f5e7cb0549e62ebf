/- Which points may be a segment's: plain, and the walks through segment.may and the reference's rises. -/
import Derived.Test.YthdbmgjlegpbaaaPtLess
import Derived.Test.YthdbmgjlegpbaaaPtMay
import Derived.Test.YthdbmgjlegpbaaaAft
import Derived.BigQuiet
namespace Go.Proofs.Ythdbmgjlegpbaaa
open Go.RowKit
set_option linter.unusedVariables false

def Sg.z0 : Pt.Point := (⟨#[]⟩, 0, 0)
def Sg.okAt (ps : List Pt.Point) (i : Nat) : Bool := Pt.mayB (ps.getD i Sg.z0) && (decide (i = 0) || Pt.lessB (ps.getD (i - 1) Sg.z0) (ps.getD i Sg.z0))
def Sg.riseB (ps : List Pt.Point) : Bool := decide (ps.length ≤ 64) && (List.range ps.length).all (Sg.okAt ps)
theorem okAt_eq {ps : List Pt.Point} {k : Nat} (hk : k < ps.length) : Sg.okAt ps k = (Pt.mayB ps[k] && (decide (k = 0) || Pt.lessB (ps.getD (k - 1) Sg.z0) ps[k])) := by
  unfold Sg.okAt
  have e : ps.getD k Sg.z0 = ps[k] := by rw [List.getD_eq_getElem?_getD, List.getElem?_eq_getElem hk]; rfl
  rw [e]
theorem getD_lt {ps : List Pt.Point} {k : Nat} (hk : k < ps.length) : ps.getD k Sg.z0 = ps[k] := by
  rw [List.getD_eq_getElem?_getD, List.getElem?_eq_getElem hk]; rfl
theorem range_step {ps : List Pt.Point} {k : Nat} (ha : (List.range k).all (Sg.okAt ps) = true) (h : Sg.okAt ps k = true) : (List.range (k + 1)).all (Sg.okAt ps) = true := by
  rw [List.range_succ, List.all_append, ha]; simp [h]
theorem range_stop {ps : List Pt.Point} {k : Nat} (hk : k < ps.length) (h : Sg.okAt ps k = false) : Sg.riseB ps = false := by
  unfold Sg.riseB
  have : (List.range ps.length).all (Sg.okAt ps) = false := by
    rw [List.all_eq_false]
    exact ⟨k, by simp [hk], by rw [h]; simp⟩
  rw [this]; simp

set_option maxRecDepth 100000 in
set_option maxHeartbeats 1600000 in
theorem sgmay_any (A : Option Addr) (c : Nat) (ps : List Pt.Point) (w : World) (B : Nat) (hr : Reads w B 3 A ps.length (ps.flatMap pointCells)) (hB : B ≤ w.heap.size) (hn : ps.length ≤ 140737488355328) (hwf : ∀ p ∈ ps, Pt.wf p) :
    Calls Try.prog 101 #[.slice A ps.length c] w fun e w' => e = .returned (.bool (Sg.riseB ps)) ∧ Below w.heap.size w w' := by
  have HW := Lib.hid hwf
  have HR := Lib.hid hr
  have HSt := Lib.hid (fun k hk h => @range_stop ps k hk h)
  have HDef : Hid (Sg.riseB ps = (decide (ps.length ≤ 64) && (List.range ps.length).all (Sg.okAt ps))) := rfl
  clear hwf hr
  generalize Sg.riseB ps = res at *
  by_cases h64 : ps.length ≤ 64
  · go_enter Try.func101, Try.ntmps101
    go_wp2_with fail
    go_loopw [3, 4, 10] (fun _ _ i wr => ∃ k : Nat, k ≤ ps.length ∧ i = .int .i64 (k : Int) ∧ Hid ((List.range k).all (Sg.okAt ps) = true) ∧ Hid (Below w.heap.size w wr)) (fun _ _ i _ => ps.length - (intOf i).toNat)
    case atStart => exact ⟨0, Nat.zero_le _, rfl, Lib.hid (by simp), Lib.hid (Below.refl _ _)⟩
    case round =>
      obtain ⟨k, hk, rfl, ha, hbw⟩ := hrel
      by_cases hlt : k < ps.length
      · obtain ⟨b, off, rfl, hbl, hc⟩ := HR.out.2 (by omega)
        obtain ⟨hc0, hc1, hc2⟩ := pt_cells (wr := wr) hlt hc (fun p hp => hbw.out.cell (p := p) (by omega)) hbl
        have hM := fun W => Lib.hid (may_any ps[k] W (HW.out _ (List.getElem_mem _)))
        have hok := okAt_eq hlt
        have HGo := Lib.hid (fun h => range_step ha.out h)
        have HS := Lib.hid (fun h => HSt.out k hlt h)
        have hsw := hbw.out.size
        cases hm : Pt.mayB ps[k]
        · have HRf : Hid (res = false) := HS.out (by rw [hok, hm]; rfl)
          rw [hm] at hM
          clear hok hm HGo HS ha hc HSt HDef
          generalize hp1 : ps[k].1 = nm at *
          generalize hp2 : ps[k].2.1 = t at *
          generalize hp3 : ps[k].2.2 = v at *
          clear hp1 hp2 hp3
          go_wp2_with fail
          have hP := Blk.new wr 52 #[.string nm, .int .i64 t, .int .i64 v]
          have hb2 : Below w.heap.size w (wr.alloc (.cells #[.string nm, .int .i64 t, .int .i64 v] 52)) := hbw.out.alloc hsw _
          have HP := Lib.hid hP
          have Hb2 := Lib.hid hb2
          clear hP hb2 hc0 hc1 hc2
          generalize wr.alloc (.cells #[.string nm, .int .i64 t, .int .i64 v] 52) = w2 at *
          generalize wr.heap.size = h at *
          have hx := fun x : Aft w2.heap.size w2 => pt3_of (Blk.below HP.out x.below HP.out.lt)
          have hx0 := fun x => (hx x).1
          have hx1 := fun x => (hx x).2.1
          have hx2 := fun x => (hx x).2.2
          clear hx
          refine wp_region_aft w2.heap.size w2 (by kernel_rfl) (by kernel_rfl) (Below.refl _ _) ?_
          repeat (go_big_quiet_step (first | (go_at_call 104; with_reducible exact aft_new (Nat.le_refl _) (Hid.out (hM _)))))
          refine wpQuiet_nil ?_
          rintro _ ⟨x, rfl⟩
          have Hx := Lib.hid x.below
          clear hx0 hx1 hx2
          generalize x.world = w3 at *
          go_wp2_with fail
          go_ret
          exact ⟨ret_bool HRf.out.symm, Hb2.out.trans (Hx.out.mono Hb2.out.size)⟩
        · rw [hm] at hM hok
          rw [Bool.true_and] at hok
          by_cases hk0 : k = 0
          · have HOk := Lib.hid (HGo.out (by rw [hok, decide_eq_true hk0]; rfl))
            have hk1 : k ≤ 0 := by omega
            clear hk0 hok hm HGo HS ha hc HSt HDef
            have d0 : decide ((0 : Int) < (k : Int)) = false := decide_eq_false (by omega)
            have d1 : decide (0 < k) = false := decide_eq_false (by omega)
            generalize hp1 : ps[k].1 = nm at *
            generalize hp2 : ps[k].2.1 = t at *
            generalize hp3 : ps[k].2.2 = v at *
            clear hp1 hp2 hp3
            go_wp2_with fail
            have hP := Blk.new wr 52 #[.string nm, .int .i64 t, .int .i64 v]
            have hb2 : Below w.heap.size w (wr.alloc (.cells #[.string nm, .int .i64 t, .int .i64 v] 52)) := hbw.out.alloc hsw _
            have HP := Lib.hid hP
            have Hb2 := Lib.hid hb2
            clear hP hb2 hc0 hc1 hc2
            generalize wr.alloc (.cells #[.string nm, .int .i64 t, .int .i64 v] 52) = w2 at *
            generalize wr.heap.size = h at *
            have hx := fun x : Aft w2.heap.size w2 => pt3_of (Blk.below HP.out x.below HP.out.lt)
            have hx0 := fun x => (hx x).1
            have hx1 := fun x => (hx x).2.1
            have hx2 := fun x => (hx x).2.2
            clear hx
            refine wp_region_aft w2.heap.size w2 (by kernel_rfl) (by kernel_rfl) (Below.refl _ _) ?_
            repeat (go_big_quiet_step (first | (go_at_call 104; with_reducible exact aft_new (Nat.le_refl _) (Hid.out (hM _)))))
            refine wpQuiet_nil ?_
            rintro _ ⟨x, rfl⟩
            have Hx : Hid (Below w.heap.size w x.world) := Hb2.out.trans (x.below.mono Hb2.out.size)
            clear hx0 hx1 hx2
            generalize x.world = w3 at *
            go_wp2_with fail
            go_roundw
            case rel => exact ⟨k + 1, by omega, by go_num, HOk, Hx⟩
            case measure => simp [intOf]; omega
          · obtain ⟨j, rfl⟩ : ∃ j, k = j + 1 := ⟨k - 1, by omega⟩
            have hjl : j < ps.length := by omega
            rw [decide_eq_false hk0, Bool.false_or, show j + 1 - 1 = j from by omega, getD_lt hjl] at hok
            have hpv := fun x : Aft wr.heap.size wr => pt_cells (wr := x.world) hjl hc (fun p hp => (x.below.cell (p := p) (by omega)).trans (hbw.out.cell (p := p) (by omega))) hbl
            have hL := fun W => Lib.hid (less_any ps[j] ps[j + 1] W)
            have hOk := Lib.hid (fun h => HGo.out (by rw [hok]; exact h))
            have hNo := Lib.hid (fun h => HS.out (by rw [hok]; exact h))
            clear hok hm HGo HS ha hc HSt HDef hk0
            generalize Pt.lessB ps[j] ps[j + 1] = bl at *
            generalize hp1 : ps[j + 1].1 = nm at *
            generalize hp2 : ps[j + 1].2.1 = t at *
            generalize hp3 : ps[j + 1].2.2 = v at *
            generalize hp4 : ps[j].1 = nm' at *
            generalize hp5 : ps[j].2.1 = t' at *
            generalize hp6 : ps[j].2.2 = v' at *
            clear hp1 hp2 hp3 hp4 hp5 hp6
            go_wp2_with fail
            have hP := Blk.new wr 52 #[.string nm, .int .i64 t, .int .i64 v]
            have hb2 : Below w.heap.size w (wr.alloc (.cells #[.string nm, .int .i64 t, .int .i64 v] 52)) := hbw.out.alloc hsw _
            have hbr : Below wr.heap.size wr (wr.alloc (.cells #[.string nm, .int .i64 t, .int .i64 v] 52)) := (Below.refl _ _).alloc (Nat.le_refl _) _
            have HP := Lib.hid hP
            have Hb2 := Lib.hid hb2
            have Hbr := Lib.hid hbr
            have Hpv := Lib.hid hpv
            clear hP hb2 hbr hc0 hc1 hc2 hpv
            have hrs := Hbr.out.size
            generalize wr.alloc (.cells #[.string nm, .int .i64 t, .int .i64 v] 52) = w2 at *
            have hx := fun x : Aft w2.heap.size w2 => pt3_of (Blk.below HP.out x.below HP.out.lt)
            have hy := fun x : Aft w2.heap.size w2 => Hpv.out ⟨x.world, Hbr.out.trans (x.below.mono hrs)⟩
            have hx0 := fun x => (hx x).1
            have hx1 := fun x => (hx x).2.1
            have hx2 := fun x => (hx x).2.2
            have hy0 := fun x => (hy x).1
            have hy1 := fun x => (hy x).2.1
            have hy2 := fun x => (hy x).2.2
            simp only at hy0 hy1 hy2
            clear hx hy Hpv
            generalize wr.heap.size = h at *
            have hi0 : (0 : Int) ≤ (j : Int) := by omega
            have hi1 : (j : Int) < (ps.length : Int) := by omega
            have d1 : decide ((0 : Int) < (j : Int) + 1) = true := decide_eq_true (by omega)
            have d2 : decide (0 < j + 1) = true := decide_eq_true (by omega)
            have hw1 : IntKind.i64.wrap ((j : Int) + 1 - 1) = (j : Int) := by rw [show (j : Int) + 1 - 1 = (j : Int) from by omega]; exact IntWalk.i64_in _ (by omega)
            have hw2 : IntKind.i64.wrap (j : Int) = (j : Int) := IntWalk.i64_in _ (by omega)
            refine wp_region_aft w2.heap.size w2 (by kernel_rfl) (by kernel_rfl) (Below.refl _ _) ?_
            repeat (go_big_quiet_step (first | (go_at_call 104; with_reducible exact aft_new (Nat.le_refl _) (Hid.out (hM _))) | (go_at_call 105; with_reducible exact aft_new (Nat.le_refl _) (Hid.out (hL _)))))
            refine wpQuiet_nil ?_
            rintro _ ⟨x, rfl⟩
            have Hx : Hid (Below w.heap.size w x.world) := Hb2.out.trans (x.below.mono Hb2.out.size)
            clear hx0 hx1 hx2 hy0 hy1 hy2 hw1 hw2
            generalize x.world = w3 at *
            cases bl
            · have HRf : Hid (res = false) := hNo.out rfl
              go_wp2_with fail
              go_ret
              exact ⟨ret_bool HRf.out.symm, Hx.out⟩
            · have HOk := Lib.hid (hOk.out rfl)
              go_wp2_with fail
              go_roundw
              case rel => exact ⟨j + 1 + 1, by omega, by go_num, HOk, Hx⟩
              case measure => simp [intOf]; omega
      · have HRf : Hid (res = true) := by
          show _ = _
          have e : k = ps.length := by omega
          have := ha.out
          rw [e] at this
          rw [HDef.out, this]; simp [h64]
        clear ha HSt HDef
        go_wp2_with fail
        go_ret
        exact ⟨ret_bool HRf.out.symm, hbw.out⟩
  · have HRf : Hid (res = false) := by show _ = _; rw [HDef.out]; simp [h64]
    go_enter Try.func101, Try.ntmps101
    go_wp2_with fail
    go_ret
    exact ⟨ret_bool HRf.out.symm, Below.refl _ _⟩
end Go.Proofs.Ythdbmgjlegpbaaa
