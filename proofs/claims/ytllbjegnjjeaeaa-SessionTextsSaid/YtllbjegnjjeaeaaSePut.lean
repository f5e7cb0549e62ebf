/- The walks through session.Put and session.Ask (chapter 10). -/
import Derived.Test.YtllbjegnjjeaeaaSeMay
import Derived.Test.YtllbjegnjjeaeaaBuild
import Derived.Test.YtllbjegnjjeaeaaWireWalks
namespace Go.Proofs.Ytllbjegnjjeaeaa
open Go.RowKit
set_option linter.unusedVariables false

def Se.fld (r : Se.Row) (j : Nat) : Int := [r.1, r.2.1, r.2.2.1, r.2.2.2].getD j 0
def Se.partL (r : Se.Row) (j : Nat) : List UInt8 := (List.range j).flatMap fun i => Wr.putL (Se.fld r i)
theorem part_four (r : Se.Row) : Se.partL r 4 = Se.rowL r := by
  simp [Se.partL, Se.rowL, List.range, List.range.loop, Se.fld]
theorem part_step (r : Se.Row) (j : Nat) : Se.partL r (j + 1) = Se.partL r j ++ Wr.putL (Se.fld r j) := by
  unfold Se.partL; rw [List.range_succ, List.flatMap_append]; simp
theorem fits_fld {r : Se.Row} (h : ∀ j, j < 4 → Wr.isNum (Se.fld r j) = true) : Se.fitsB r = true := by
  have h0 := h 0 (by omega); have h1 := h 1 (by omega); have h2 := h 2 (by omega); have h3 := h 3 (by omega)
  unfold Se.fld at h0 h1 h2 h3
  simp only [List.getD_eq_getElem?_getD, List.getElem?_cons_zero, List.getElem?_cons_succ, Option.getD_some] at h0 h1 h2 h3
  unfold Se.fitsB; rw [h0, h1, h2, h3]; rfl
theorem fits_not {r : Se.Row} {j : Nat} (hj : j < 4) (h : Wr.isNum (Se.fld r j) = false) : Se.fitsB r = false := by
  unfold Se.fitsB
  unfold Se.fld at h
  obtain rfl | rfl | rfl | rfl : j = 0 ∨ j = 1 ∨ j = 2 ∨ j = 3 := by omega
  all_goals
    simp only [List.getD_eq_getElem?_getD, List.getElem?_cons_zero, List.getElem?_cons_succ, Option.getD_some] at h
    rw [h]; simp
theorem all_stop {ps : List Se.Row} {k : Nat} (hk : k < ps.length) (h : Se.fitsB ps[k] = false) : ps.all Se.fitsB = false := by
  rw [List.all_eq_false]; exact ⟨ps[k], List.getElem_mem _, by rw [h]; simp⟩
theorem all_step {ps : List Se.Row} {k : Nat} (hk : k < ps.length) (ha : (ps.take k).all Se.fitsB = true) (h : Se.fitsB ps[k] = true) : (ps.take (k + 1)).all Se.fitsB = true := by
  rw [List.take_succ_eq_append_getElem hk, List.all_append, ha]; simp [h]
theorem four_cell {w : World} {g : Nat} {r : Se.Row} (h : Blk w g 3 #[.int .i64 r.1, .int .i64 r.2.1, .int .i64 r.2.2.1, .int .i64 r.2.2.2]) (j : Nat) (hj : j < 4) : w.cell? ⟨g, j, none⟩ = some (.int .i64 (Se.fld r j)) := by
  rw [h.cell]
  obtain rfl | rfl | rfl | rfl : j = 0 ∨ j = 1 ∨ j = 2 ∨ j = 3 := by omega
  all_goals rfl
theorem putL_of_num {x : Int} : (Wr.putB x).data.toList = Wr.putL x := Wr.putB_list x
def PutPost (w : World) (q : ByteArray × Int) (e : Ending) (w' : World) : Prop := e = .returned (.tuple #[.string q.1, .int .i64 q.2]) ∧ Below w.heap.size w w'

set_option maxRecDepth 100000 in
set_option maxHeartbeats 2000000 in
theorem seput_any (A : Option Addr) (c : Nat) (ps : List Se.Row) (w : World) (B : Nat) (hr : Reads w B 4 A ps.length (ps.flatMap rowCells)) (hB : B ≤ w.heap.size) :
    Calls Try.prog 17 #[.slice A ps.length c] w (PutPost w (Se.putR ps)) := by
  have HM := Lib.hid (semay_any A c ps w B hr)
  have HOk := Lib.hid (fun h1 h2 => @Se.put_ok ps h1 h2)
  have HNo := Lib.hid (@Se.put_no ps)
  generalize Se.putR ps = res at *
  cases hm : Se.mayB ps
  · rw [hm] at HM
    have Hres := Lib.hid (HNo.out (.inl hm))
    clear hr hm HOk HNo
    go_enter Try.func17, Try.ntmps17
    go_wp2_with fail
    refine HM.out.mono ?_
    rintro e w1 ⟨rfl, n1, rfl⟩
    go_wp2_with fail
    go_ret2
    exact ⟨by rw [Hres.out]; rfl, below_drewN (Below.refl _ _) _⟩
  · rw [hm] at HM
    have h4 := Se.may_len hm
    have HRd := Lib.hid hr
    have HOk' := Lib.hid (fun h => HOk.out hm h)
    have HNo' := Lib.hid (fun h => HNo.out (.inr h))
    have HPN := fun W => Lib.hid (putNum_any (ps.length : Int) W (by omega))
    have HPL := Lib.hid (Wr.putB_list (ps.length : Int))
    have hpl : (Wr.putL (ps.length : Int)).length ≤ 8 := Wr.putL_len _
    have hpn : (Wr.putB (ps.length : Int)).size ≤ 8 := by rw [Wr.putB_size]; exact Wr.putL_len _
    clear hr hm HOk HNo
    go_enter Try.func17, Try.ntmps17
    go_wp2_with fail
    refine HM.out.mono ?_
    rintro e w1' ⟨rfl, n1, rfl⟩
    have Hb1 : Hid (Below w.heap.size w (w.drewN n1)) := below_drewN (Below.refl _ _) _
    have hs1 : w.heap.size ≤ (w.drewN n1).heap.size := Nat.le_refl _
    generalize w.drewN n1 = w1 at *
    go_wp2_with fail
    have hbn := bld_new w1
    have hsz : w1.heap.size < (w1.alloc (.cells #[.pointer none, .slice none 0 0] 60)).heap.size := by simp
    have hba : Below w1.heap.size w1 (w1.alloc (.cells #[.pointer none, .slice none 0 0] 60)) := (Below.refl _ _).alloc (Nat.le_refl _) _
    generalize hbe : w1.heap.size = b at *
    have Hbe := Lib.hid hbe
    clear hbe
    generalize w1.alloc (.cells #[.pointer none, .slice none 0 0] 60) = w2 at *
    have Hbn := Lib.hid hbn
    have Hba := Lib.hid hba
    clear hbn hba
    refine (HPN _).out.mono ?_
    rintro e w3 ⟨rfl, hb3⟩
    have Hb3 := Lib.hid hb3
    have hs3 := hb3.size
    clear hb3
    go_wp2_with fail
    refine (write_any b b [] (Wr.putB (ps.length : Int)) w3 (bld_below Hbn.out Hb3.out) (by simp; omega) (by omega)).mono ?_
    rintro e w4 ⟨rfl, hB4, hb4, _⟩
    rw [HPL.out, List.nil_append] at hB4
    have HB4 := Lib.hid hB4
    have Hb4 : Hid (Below b w1 w4) := Hba.out.trans ((Hb3.out.mono (by omega)).trans hb4)
    clear hB4 hb4 Hb3 Hbn Hba HPL HPN
    generalize Wr.putB (ps.length : Int) = PB at *
    go_wp2_with fail
    go_loopw [6, 8, 18] (fun _ _ i wr => ∃ (k : Nat) (l : List UInt8), k ≤ ps.length ∧ i = .int .i64 (k : Int) ∧ Hid (l = Wr.putL (ps.length : Int) ++ (ps.take k).flatMap Se.rowL) ∧ l.length ≤ 8 + 32 * k ∧ Hid ((ps.take k).all Se.fitsB = true) ∧ Hid (Bld b b (Lib.byteCells l) wr) ∧ Hid (Below b w1 wr)) (fun _ _ i _ => ps.length - (intOf i).toNat)
    case atStart => exact ⟨0, _, Nat.zero_le _, rfl, Lib.hid (by simp), by omega, Lib.hid (by simp), HB4, Hb4⟩
    case round =>
      obtain ⟨k, l, hk, rfl, hl, hll, hfa, hBl, hbl⟩ := hrel
      by_cases hlt : k < ps.length
      · obtain ⟨bb, off, rfl, hbb, hc⟩ := HRd.out.2 (by omega)
        obtain ⟨hc0, hc1, hc2, hc3⟩ := row_cells (wr := wr) hlt hc (fun p hp => (hbl.out.cell (p := p) (show p.block < b by omega)).trans (Hb1.out.cell (p := p) (by omega))) hbb
        have HSt := Lib.hid (fun h => HNo'.out (all_stop hlt h))
        have HGo := Lib.hid (fun h => all_step hlt hfa.out h)
        have Hsn : Hid ((ps.take (k + 1)).flatMap Se.rowL = (ps.take k).flatMap Se.rowL ++ Se.rowL ps[k]) := by
          show _ = _; rw [List.take_succ_eq_append_getElem hlt, List.flatMap_append]; simp
        clear hc hfa
        generalize ps[k] = r at *
        obtain ⟨a0, a1, a2, a3⟩ := r
        simp only at hc0 hc1 hc2 hc3
        go_wp2_with fail
        have hlb := bld_lt hBl.out
        have hI := Blk.new (wr.alloc (.cells #[.int .i64 a0, .int .i64 a1, .int .i64 a2, .int .i64 a3] 49)) 3 #[.int .i64 a0, .int .i64 a1, .int .i64 a2, .int .i64 a3]
        have hb6r : Below wr.heap.size wr ((wr.alloc (.cells #[.int .i64 a0, .int .i64 a1, .int .i64 a2, .int .i64 a3] 49)).alloc (.cells #[.int .i64 a0, .int .i64 a1, .int .i64 a2, .int .i64 a3] 3)) := ((Below.refl _ _).alloc (Nat.le_refl _) _).alloc (by simp) _
        have hB6 := bld_below hBl.out hb6r
        have hb6 : Below b w1 ((wr.alloc (.cells #[.int .i64 a0, .int .i64 a1, .int .i64 a2, .int .i64 a3] 49)).alloc (.cells #[.int .i64 a0, .int .i64 a1, .int .i64 a2, .int .i64 a3] 3)) := hbl.out.trans (hb6r.mono (by omega))
        have HI := Lib.hid hI
        have HB6 := Lib.hid hB6
        have Hb6 := Lib.hid hb6
        have hgs : (wr.alloc (.cells #[.int .i64 a0, .int .i64 a1, .int .i64 a2, .int .i64 a3] 49)).heap.size ≠ b := by rw [World.size_alloc]; omega
        clear hI hB6 hb6 hb6r hc0 hc1 hc2 hc3 hBl hbl
        simp only [World.size_alloc] at HI hgs
        generalize (wr.alloc (.cells #[.int .i64 a0, .int .i64 a1, .int .i64 a2, .int .i64 a3] 49)).alloc (.cells #[.int .i64 a0, .int .i64 a1, .int .i64 a2, .int .i64 a3] 3) = w6 at *
        generalize wr.heap.size = hw at *
        obtain ⟨r, hr⟩ : ∃ r : Se.Row, r = (a0, a1, a2, a3) := ⟨_, rfl⟩
        have Hr := Lib.hid hr
        clear hr
        go_loopw [8, 32] (fun _ i wr => ∃ (j : Nat) (l' : List UInt8), j ≤ 4 ∧ i = .int .i64 (j : Int) ∧ Hid (l' = l ++ Se.partL (a0, a1, a2, a3) j) ∧ l'.length ≤ 8 + 32 * k + 8 * j ∧ Hid (∀ i, i < j → Wr.isNum (Se.fld (a0, a1, a2, a3) i) = true) ∧ Hid (Blk wr (hw + 1) 3 #[.int .i64 a0, .int .i64 a1, .int .i64 a2, .int .i64 a3]) ∧ Hid (Bld b b (Lib.byteCells l') wr) ∧ Hid (Below b w1 wr)) (fun _ i _ => 4 - (intOf i).toNat)
        case atStart => exact ⟨0, l, Nat.zero_le _, rfl, Lib.hid (by simp [Se.partL]), by omega, Lib.hid (fun i h => absurd h (by omega)), HI, HB6, Hb6⟩
        case round =>
          obtain ⟨j, l', hj, rfl, hl', hll', hfj, hIj, hBj, hbj⟩ := hrel
          by_cases hjl : j < 4
          · have hcj := four_cell (r := (a0, a1, a2, a3)) hIj.out j hjl
            have HFn := Lib.hid (fun h => HSt.out (fits_not hjl h))
            have hps := Lib.hid (part_step (a0, a1, a2, a3) j)
            have hfj' := Lib.hid (fun (h : Wr.isNum (Se.fld (a0, a1, a2, a3) j) = true) i (hi : i < j + 1) => (by by_cases e : i = j; (subst e; exact h); exact hfj.out i (by omega) : Wr.isNum (Se.fld (a0, a1, a2, a3) i) = true))
            generalize hx : Se.fld (a0, a1, a2, a3) j = x at *
            have HF := fun W => Lib.hid (fits_any x W)
            clear hfj hx
            cases hnum : Wr.isNum x
            · have Hres := Lib.hid (HFn.out hnum)
              rw [hnum] at HF
              clear hnum HFn hfj'
              go_wp2_with fail
              refine (HF _).out.mono ?_
              rintro e w' ⟨rfl, rfl⟩
              go_wp2_with fail
              go_ret2
              exact ⟨by rw [Hres.out]; rfl, Hb1.out.trans (hbj.out.mono hs1)⟩
            · have hxb := (Wr.isNum_iff x).1 hnum
              have Hf := Lib.hid (hfj'.out hnum)
              rw [hnum] at HF
              have HPx := fun W => Lib.hid (putNum_any x W (by omega))
              have hpx : (Wr.putB x).size ≤ 8 := by rw [Wr.putB_size]; exact Wr.putL_len _
              have HPl := Lib.hid (Wr.putB_list x)
              clear hnum HFn hfj'
              go_wp2_with fail
              refine (HF _).out.mono ?_
              rintro e w' ⟨rfl, rfl⟩
              go_wp2_with fail
              refine (HPx _).out.mono ?_
              rintro e w7 ⟨rfl, hb7⟩
              have hs7 := hb7.size
              have hbj' := (bld_lt hBj.out).2
              have HI7 := Lib.hid (Blk.below hIj.out hb7 hIj.out.lt)
              have HB7 := Lib.hid (bld_below hBj.out hb7)
              have Hb7 : Hid (Below b w1 w7) := hbj.out.trans (hb7.mono (by omega))
              clear hb7
              generalize Wr.putB x = PX at *
              go_wp2_with fail
              refine (write_any b b l' PX w7 HB7.out (by omega) (by omega)).mono ?_
              rintro e w8 ⟨rfl, hB8, hb8, ho8⟩
              rw [HPl.out] at hB8
              have HB8 := Lib.hid hB8
              have HI8 := Lib.hid (Blk.others HI7.out ho8 hgs (by decide))
              have Hb8 : Hid (Below b w1 w8) := Hb7.out.trans hb8
              clear hB8 hb8 ho8
              go_wp2_with fail
              go_roundw
              case rel => exact ⟨j + 1, l' ++ Wr.putL x, by omega, by go_num, Lib.hid (by show _ = _; rw [hl'.out, hps.out, List.append_assoc]), by rw [List.length_append]; have := Wr.putL_len x; omega, Hf, HI8, HB8, Hb8⟩
              case measure => simp [intOf]; omega
          · obtain rfl : j = 4 := by omega
            have hfit : Se.fitsB (a0, a1, a2, a3) = true := fits_fld (fun i hi => hfj.out i hi)
            have HG := Lib.hid (HGo.out hfit)
            have Hl2 : Hid (l' = Wr.putL (ps.length : Int) ++ (ps.take (k + 1)).flatMap Se.rowL) := by
              show _ = _; rw [hl'.out, part_four, hl.out, Hsn.out, List.append_assoc]
            clear hfit hfj
            go_wp2_with fail
            go_roundw
            case rel => exact ⟨k + 1, l', by omega, by go_num, Hl2, by omega, HG, hBj, hbj⟩
            case measure => simp [intOf]; omega
      · have htk : ps.take k = ps := List.take_of_length_le (by omega)
        rw [htk] at hl hfa
        have Hres : Hid (res = (⟨l.toArray⟩, 0)) := by show _ = _; rw [HOk'.out hfa.out, hl.out]; rfl
        have hlb := bld_lt hBl.out
        clear hl hfa htk
        go_wp2_with fail
        refine (bstring_any b b l wr hBl.out (by omega)).mono ?_
        rintro e w9 ⟨rfl, _, hb9, _⟩
        have Hb9 : Hid (Below w.heap.size w w9) := Hb1.out.trans ((hbl.out.trans hb9).mono (by omega))
        clear hb9
        go_wp2_with fail
        go_ret2
        exact ⟨by rw [Hres.out]; rfl, Hb9.out⟩
end Go.Proofs.Ytllbjegnjjeaeaa
