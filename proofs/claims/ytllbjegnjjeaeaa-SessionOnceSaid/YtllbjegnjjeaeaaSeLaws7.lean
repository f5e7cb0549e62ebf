/- The walk through SessionOnce. -/
import Derived.Test.YtllbjegnjjeaeaaSeLaws4
import Derived.Test.YtllbjegnjjeaeaaSeOnce
namespace Go.Proofs.Ytllbjegnjjeaeaa
open Go.RowKit
set_option linter.unusedVariables false

def Se.zeros : List Int := List.replicate 64 0
def Se.doneRow (done : List Int) : Array Value := (done.map (Value.int .i64)).toArray
theorem done_cell {w : World} {g : Nat} {done : List Int} (h : Blk w g 3 (Se.doneRow done)) (k : Nat) (hk : k < done.length) : w.cell? ⟨g, k, none⟩ = some (.int .i64 (done.getD k 0)) := by
  rw [h.cell]
  simp [Se.doneRow, hk, List.getD_eq_getElem?_getD]
theorem done_set (done : List Int) (k : Nat) (x : Int) : (Se.doneRow done).setIfInBounds k (.int .i64 x) = Se.doneRow (done.set k x) := by
  unfold Se.doneRow
  rw [List.map_set, ← List.setIfInBounds_toArray]
theorem done_make : ∀ w : World, (Instr.makeSlice 44 (.int .i64 64) (.int .i64 64)).run Try.prog w = .ok (.slice (some ⟨w.heap.size, 0, none⟩) 64 64) (w.alloc (.cells (Se.doneRow Se.zeros) 3)) := by
  intro w; kernel_rfl
set_option maxRecDepth 100000 in
set_option maxHeartbeats 4000000 in
theorem sessionOnce_walk {w : World} (A0 : Option Addr) (c0 : Nat) (z0 : List Int) (rd0 : Reads w w.heap.size 1 A0 z0.length (z0.map (Value.int .i64))) (wf0 : ∀ n ∈ z0, (Lit.int .i64 n).wf = true) (nb0 : z0.length * 8 ≤ 140737488351232) :
    Calls Try.prog 5 #[.slice A0 z0.length c0] w fun e w' => e = .returned (.bool true) ∧ Below w.heap.size w w' := by
  have Hr0 := Lib.hid rd0
  have hmk := done_make
  clear rd0
  have Hwf := Lib.hid wf0
  clear wf0
  go_enter Try.func5, Try.ntmps5
  go_wp2_with fail
  refine (awake10 _).mono ?_
  rintro e w1 ⟨rfl, hb1⟩
  have Hb1 := Lib.hid hb1
  have hs1 := hb1.size
  clear hb1
  go_wp2_with fail
  have hD := Blk.new w1 3 (Se.doneRow Se.zeros)
  have hb2 : Below w1.heap.size w1 (w1.alloc (.cells (Se.doneRow Se.zeros) 3)) := (Below.refl _ _).alloc (Nat.le_refl _) _
  have hs2 : w1.heap.size + 1 ≤ (w1.alloc (.cells (Se.doneRow Se.zeros) 3)).heap.size := by simp
  have HD := Lib.hid hD
  have Hb2 := Lib.hid hb2
  clear hD hb2 hmk
  generalize w1.alloc (.cells (Se.doneRow Se.zeros) 3) = w2 at *
  generalize hgd : w1.heap.size = gd at *
  have Hgd := Lib.hid hgd
  clear hgd
  go_loopw [3, 4, 6, 7, 8, 9, 10, 11, 12] (fun v t o i _ _ _ _ _ wr => ∃ (k : Nat) (rows : List Se.Row) (own : Int) (done : List Int), k ≤ z0.length ∧ k ≤ 100 ∧ i = .int .i64 (k : Int) ∧ t = .int .i64 (k : Int) ∧ o = .int .i64 own ∧ Hid (Se.OnceI (k : Int) own rows done) ∧ Hid (done.length = 64) ∧ Hid (wr.ownsRow (gd + 1) 49 4 v rows.length (rows.flatMap rowCells)) ∧ Hid (Blk wr gd 3 (Se.doneRow done)) ∧ Hid (Below gd w1 wr)) (fun _ _ _ i _ _ _ _ _ _ => 100 - (intOf i).toNat)
  case atStart => exact ⟨0, [], 0, Se.zeros, Nat.zero_le _, by omega, rfl, rfl, rfl, Lib.hid Se.once_start, Lib.hid rfl, Lib.hid (own_nil _ _ _ _), HD, Hb2⟩
  case round =>
    obtain ⟨k, rows, own, done, hk, hk1, rfl, rfl, rfl, hI, hdl, hown, hDn, hbw⟩ := hrel
    have hgl := hDn.out.lt
    have h4 := Se.may_len hI.out.may
    obtain ⟨A, c, rfl, hnc, hrd⟩ := own_slice hown.out
    by_cases hlt : k < z0.length ∧ k < 100
    · obtain ⟨hl1, hl2⟩ := hlt
      obtain ⟨bb, off, rfl, hbb, hc⟩ := Hr0.out.2 (by omega)
      have hsw := hbw.out.size
      have hcell : wr.cell? ⟨bb, off + k, none⟩ = some (.int .i64 z0[k]) := ((hbw.out.cell (p := ⟨bb, off + k, none⟩) (show bb < gd by omega)).trans (Hb1.out.cell (p := ⟨bb, off + k, none⟩) hbb)).trans (hc k _ (by simp [hl1]))
      obtain ⟨m, hm, hpm⟩ := and_low z0[k] 7 (by omega)
      obtain ⟨m2, hm2, hpm2⟩ := and_low (wrap64 (z0[k].tdiv 8)) 31 (by omega)
      rw [show ((7 : Nat) : Int) = 7 from rfl] at hpm
      rw [show ((31 : Nat) : Int) = 31 from rfl] at hpm2
      have hd : decide ((k : Int) < 100) = true := decide_eq_true (by omega)
      have hpos := hI.out.pos
      have HA := Lib.hid (fun es en Wx (hb : Below wr.heap.size wr Wx) => apply_any A c rows 0 0 es en ((k : Int) + 1) none 0 0 Wx wr.heap.size (hrd.below hb) hb.size (by omega))
      clear hc hrd
      generalize z0[k] = zk at *
      unfold entryCells at *
      have hcell2 := cell_keep (.cells #[.int .i64 0, .int .i64 0, .int .i64 0, .int .i64 0, .slice none 0 0] 25) hcell
      have hbE : Below wr.heap.size wr (wr.alloc (.cells #[.int .i64 0, .int .i64 0, .int .i64 0, .int .i64 0, .slice none 0 0] 25)) := (Below.refl _ _).alloc (Nat.le_refl _) _
      have HbE := Lib.hid hbE
      clear hbE
      by_cases hopen : own = 0 ∨ m = 0
      · obtain ⟨ho1, ho2⟩ := Se.once_open hI.out
        have HA0 := fun Wx hb => Lib.hid (HA.out 0 0 Wx hb)
        rw [ho1] at HA0
        generalize Se.openR rows ((k : Int) + 1) = rows2 at *
        have Ho2 := Lib.hid ho2
        have hkk : (((k : Int) + 1) != (k : Int) + 1) = false := by simp
        clear ho1 ho2
        have hcase : (own = 0 ∧ decide (0 < own) = false ∧ (own == 0) = true) ∨ (own ≠ 0 ∧ decide (0 < own) = true ∧ (own == 0) = false ∧ decide ((0 : Int) < (m : Int)) = false ∧ decide (0 < m) = false) := by
          by_cases h0 : own = 0
          · exact .inl ⟨h0, decide_eq_false (by omega), by simp [h0]⟩
          · exact .inr ⟨h0, decide_eq_true (by omega), by simp [h0], decide_eq_false (by rcases hopen with h | h; exact absurd h h0; omega), decide_eq_false (by rcases hopen with h | h; exact absurd h h0; omega)⟩
        clear hopen
        rcases hcase with ⟨h0, d1, d2⟩ | ⟨h0, d1, d2, d3, d4⟩
        all_goals
          first | rw [if_pos h0] at Ho2 | rw [if_neg h0] at Ho2
          clear h0
          go_wp2_with fail
          refine (HA0 _ HbE.out).out.mono ?_
          rintro e w3 ⟨v3, rfl, hown3, hb3⟩
          simp only at hown3
          have hbr3 : Below wr.heap.size wr w3 := HbE.out.trans (hb3.mono HbE.out.size)
          have Hown3 := Lib.hid (own_down hown3 (show gd + 1 ≤ _ by rw [World.size_alloc]; omega))
          have HD3 := Lib.hid (Blk.below hDn.out hbr3 hgl)
          have Hb3 : Hid (Below gd w1 w3) := hbw.out.trans (hbr3.mono (by omega))
          clear hown3 hb3 hbr3 hcell hcell2 HA HA0
          simp only
          go_wp2_with fail
          go_roundw
          case rel => exact ⟨k + 1, rows2, _, done, by omega, by omega, by go_num, by go_num, by first | rfl | go_num, by simpa using Ho2, hdl, Hown3, HD3, Hb3⟩
          case measure => simp [intOf]; omega
      · have h0 : own ≠ 0 := fun h => hopen (.inl h)
        have hm0 : m ≠ 0 := fun h => hopen (.inr h)
        have d1 : decide (0 < own) = true := decide_eq_true (by omega)
        have d2 : (own == 0) = false := by simp [h0]
        have d3 : decide ((0 : Int) < (m : Int)) = true := decide_eq_true (by omega)
        have d4 : decide (0 < m) = true := decide_eq_true (by omega)
        obtain ⟨e1, e2⟩ := Se.once_entry hI.out h0 (1 + m2) (by omega) (by rw [hdl.out]; omega)
        rw [show ((1 + m2 : Nat) : Int) = 1 + (m2 : Int) from by omega] at e1 e2
        have HAx := fun Wx hb => Lib.hid (HA.out own (1 + (m2 : Int)) Wx hb)
        generalize Se.applyR rows own (1 + (m2 : Int)) ((k : Int) + 1) = q at *
        obtain ⟨q1, q2, q3⟩ := q
        simp only at e1 e2
        have E1 := Lib.hid e1
        have E2 := Lib.hid e2
        have d5 : (((1 : Int) + (m2 : Int)) == 0) = false := by
          rw [beq_eq_false_iff_ne]; omega
        have hdc := done_cell hDn.out (1 + m2) (by rw [hdl.out]; omega)
        clear hopen h0 hm0 HA e1 e2
        have htn : ((1 : Int) + (m2 : Int)).toNat = 1 + m2 := by omega
        have hbF : Below wr.heap.size wr (wr.alloc (.cells #[.int .i64 0, .int .i64 0, .int .i64 own, .int .i64 (1 + (m2 : Int)), .slice none 0 0] 25)) := (Below.refl _ _).alloc (Nat.le_refl _) _
        have HbF := Lib.hid hbF
        have Hdl := hdl
        clear hbF hdc
        cases q3
        · obtain ⟨f1, f2⟩ := E2.out rfl
          clear E1 E2
          by_cases hq : 0 < q2
          · have f1' := f1 hq
            subst f1'
            have dq : decide (0 < done.getD (1 + m2) 0) = true := decide_eq_true hq
            have dn : (done.getD (1 + m2) 0 != done.getD (1 + m2) 0) = false := by simp
            have F2 := Lib.hid f2
            clear f1 f2
            go_wp2_with fail
            refine (HAx _ HbF.out).out.mono ?_
            rintro e w3 ⟨v3, rfl, hown3, hb3⟩
            simp only at hown3
            have hbr3 : Below wr.heap.size wr w3 := HbF.out.trans (hb3.mono HbF.out.size)
            have Hown3 := Lib.hid (own_down hown3 (show gd + 1 ≤ _ by rw [World.size_alloc]; omega))
            have HD3 := Lib.hid (Blk.below hDn.out hbr3 hgl)
            have hdc := done_cell HD3.out (1 + m2) (by rw [Hdl.out]; omega)
            have Hb3 : Hid (Below gd w1 w3) := hbw.out.trans (hbr3.mono (by omega))
            clear hown3 hb3 hbr3 hcell hcell2 HAx
            generalize done.getD (1 + m2) 0 = D at *
            simp only
            go_wp2_with fail
            go_roundw
            case rel => exact ⟨k + 1, q1, own, done, by omega, by omega, by go_num, by go_num, rfl, by simpa using F2, hdl, Hown3, HD3, Hb3⟩
            case measure => simp [intOf]; omega
          · have dq : decide (0 < q2) = false := decide_eq_false hq
            have F2 := Lib.hid f2
            clear f1 f2
            go_wp2_with fail
            refine (HAx _ HbF.out).out.mono ?_
            rintro e w3 ⟨v3, rfl, hown3, hb3⟩
            simp only at hown3
            have hbr3 : Below wr.heap.size wr w3 := HbF.out.trans (hb3.mono HbF.out.size)
            have Hown3 := Lib.hid (own_down hown3 (show gd + 1 ≤ _ by rw [World.size_alloc]; omega))
            have HD3 := Lib.hid (Blk.below hDn.out hbr3 hgl)
            have Hb3 : Hid (Below gd w1 w3) := hbw.out.trans (hbr3.mono (by omega))
            clear hown3 hb3 hbr3 hcell hcell2 HAx
            simp only
            go_wp2_with fail
            go_roundw
            case rel => exact ⟨k + 1, q1, own, done, by omega, by omega, by go_num, by go_num, rfl, by simpa using F2, hdl, Hown3, HD3, Hb3⟩
            case measure => simp [intOf]; omega
        · obtain ⟨f0, f1, f2⟩ := E1.out rfl
          subst f1
          have F2 := Lib.hid f2
          have F0 := Lib.hid f0
          have hkk : (((k : Int) + 1) != (k : Int) + 1) = false := by simp
          clear f0 f2 E1 E2
          go_wp2_with fail
          refine (HAx _ HbF.out).out.mono ?_
          rintro e w3 ⟨v3, rfl, hown3, hb3⟩
          simp only at hown3
          have hbr3 : Below wr.heap.size wr w3 := HbF.out.trans (hb3.mono HbF.out.size)
          have hown3' := own_down hown3 (show gd + 1 ≤ _ by rw [World.size_alloc]; omega)
          have Hown3 := Lib.hid hown3'
          have HD3 := Lib.hid (Blk.below hDn.out hbr3 hgl)
          have hdc := done_cell HD3.out (1 + m2) (by rw [Hdl.out]; omega)
          rw [F0.out] at hdc
          have hdf := HD3.out.frozen (1 + m2)
          have Hb3 : Hid (Below gd w1 w3) := hbw.out.trans (hbr3.mono (by omega))
          have HD4 : Hid (Blk (w3.setCell ⟨gd, 1 + m2, none⟩ (.int .i64 ((k : Int) + 1))) gd 3 (Se.doneRow (done.set (1 + m2) ((k : Int) + 1)))) := by
            show Blk _ _ _ _; rw [← done_set]; exact HD3.out.set_ _ _
          have Hown4 : Hid ((w3.setCell ⟨gd, 1 + m2, none⟩ (.int .i64 ((k : Int) + 1))).ownsRow (gd + 1) 49 4 v3 q1.length (q1.flatMap rowCells)) := own_only Hown3.out ((Only.refl (fun k => k = gd) w3).setCell (fun _ => rfl) _) (fun g hg e => by have := (own_lt Hown3.out hg).1; omega)
          have Hb4 : Hid (Below gd w1 (w3.setCell ⟨gd, 1 + m2, none⟩ (.int .i64 ((k : Int) + 1)))) := Hb3.out.setCell (p := ⟨gd, _, none⟩) (Nat.le_refl _) _
          clear hown3 hown3' hb3 hbr3 hcell hcell2 HAx
          simp only
          go_wp2_with fail
          go_roundw
          case rel => exact ⟨k + 1, q1, own, done.set (1 + m2) ((k : Int) + 1), by omega, by omega, by go_num, by go_num, rfl, by simpa using F2, Lib.hid (by show _ = _; rw [List.length_set]; exact Hdl.out), Hown4, HD4, Hb4⟩
          case measure => simp [intOf]; omega
    · have hws : k < z0.length → decide ((k : Int) < 100) = false := fun h => decide_eq_false (by omega)
      have h4' : (rows.length : Int) ≤ 4 := by omega
      clear hrd
      by_cases hl1 : k < z0.length
      all_goals
        (try have hl1' := hws hl1)
        clear hws hlt
        go_wp2_with fail
        go_ret
        exact ⟨by first | rfl | (simp; omega), Hb1.out.trans (hbw.out.mono hs1)⟩
end Go.Proofs.Ytllbjegnjjeaeaa
