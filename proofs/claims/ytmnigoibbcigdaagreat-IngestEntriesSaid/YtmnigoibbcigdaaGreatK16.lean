/- Joined texts: SeRput, RmSnap, SeRget, RmLoad, LendE. -/
import Derived.Test.YtmnigoibbcigdaaGreatK10
import Derived.Test.YtmnigoibbcigdaaGreatK11
import Derived.Test.YtmnigoibbcigdaaGreatK13
import Derived.Test.YtmnigoibbcigdaaGreatK2
import Derived.Test.YtmnigoibbcigdaaGreatK4
import Derived.Test.YtmnigoibbcigdaaGreatK6
import Derived.Test.YtmnigoibbcigdaaGreatK7
import Derived.Deep.RegionHeld3
import Derived.Deep.AppendLies
import Derived.Deep.DeepCutAuto
import Derived.BigRegion
/- The walk through the reference's Put (chapter 10). -/
namespace Go.Proofs.YtmnigoibbcigdaaGreat
open Go.RowKit
set_option linter.unusedVariables false

theorem row_bytes (a0 a1 a2 a3 : Int) : (Wr.putB a0 ++ Wr.putB a1 ++ Wr.putB a2 ++ Wr.putB a3).data.toList = Se.rowL (a0, a1, a2, a3) := by
  rw [Wr.append_list, Wr.append_list, Wr.append_list, Wr.putB_list, Wr.putB_list, Wr.putB_list, Wr.putB_list]; rfl
theorem fit_four {a0 a1 a2 a3 : Int} (h0 : Wr.isNum a0 = true) (h1 : Wr.isNum a1 = true) (h2 : Wr.isNum a2 = true) (h3 : Wr.isNum a3 = true) : Se.fitsB (a0, a1, a2, a3) = true := by
  unfold Se.fitsB; rw [h0, h1, h2, h3]; rfl
theorem fit_no {a0 a1 a2 a3 : Int} (h : Wr.isNum a0 = false ∨ Wr.isNum a1 = false ∨ Wr.isNum a2 = false ∨ Wr.isNum a3 = false) : Se.fitsB (a0, a1, a2, a3) = false := by
  unfold Se.fitsB; rcases h with h | h | h | h <;> rw [h] <;> simp
theorem putB8 (x : Int) : (Wr.putB x).size ≤ 8 := by rw [Wr.putB_size]; exact Wr.putL_len x
set_option maxRecDepth 100000 in
set_option maxHeartbeats 2000000 in
theorem rseput_any (A : Option Addr) (c : Nat) (ps : List Se.Row) (w : World) (B : Nat) (hr : Reads w B 4 A ps.length (ps.flatMap rowCells)) (hB : B ≤ w.heap.size) (hn : ps.length ≤ 140737488355328) :
    Calls Tryz.prog 47 #[.slice A ps.length c] w (PutPost w (Se.putR ps)) := by
  have HM := Lib.hid (rtable_any A c ps w B hr hn)
  have HOk := Lib.hid (fun h1 h2 => @Se.put_ok ps h1 h2)
  have HNo := Lib.hid (@Se.put_no ps)
  generalize Se.putR ps = res at *
  cases hm : Se.mayB ps
  · rw [hm] at HM
    have Hres := Lib.hid (HNo.out (.inl hm))
    clear hr hm HOk HNo
    go_enter Tryz.func47, Tryz.ntmps47
    go_wp2_with fail
    refine HM.out.mono ?_
    rintro e w1 ⟨rfl, n1, rfl⟩
    go_wp2_with fail
    go_ret2
    exact ⟨by rw [Hres.out]; rfl, below_drewN (Below.refl _ _) _⟩
  · rw [hm] at HM
    have h4 := Se.may_len hm
    have HRd := Lib.hid hr
    have HOk' := Lib.hid (fun h => HOk.out hm h)
    have HNo' := Lib.hid (fun h => HNo.out (.inr h))
    have HPN := fun W => Lib.hid (rnum_any (ps.length : Int) W (by omega))
    have HPL := Lib.hid (Wr.putB_list (ps.length : Int))
    have hpn := putB8 (ps.length : Int)
    clear hr hm HOk HNo
    go_enter Tryz.func47, Tryz.ntmps47
    go_wp2_with fail
    refine HM.out.mono ?_
    rintro e w1' ⟨rfl, n1, rfl⟩
    have Hb0 : Hid (Below w.heap.size w (w.drewN n1)) := below_drewN (Below.refl _ _) _
    generalize w.drewN n1 = w0 at *
    have hs0 := Hb0.out.size
    go_wp2_with fail
    refine (HPN _).out.mono ?_
    rintro e w1 ⟨rfl, hb1⟩
    have Hb1 : Hid (Below w.heap.size w w1) := Hb0.out.trans (hb1.mono hs0)
    clear hb1 HPN
    generalize Wr.putB (ps.length : Int) = PB at *
    go_wp2_with fail
    go_loopw [4, 5, 6] (fun s i _ wr => ∃ (k : Nat) (S : ByteArray), k ≤ ps.length ∧ i = .int .i64 (k : Int) ∧ s = .string S ∧ Hid (S.data.toList = Wr.putL (ps.length : Int) ++ (ps.take k).flatMap Se.rowL) ∧ S.size ≤ 8 + 32 * k ∧ Hid ((ps.take k).all Se.fitsB = true) ∧ Hid (Below w.heap.size w wr)) (fun _ i _ _ => ps.length - (intOf i).toNat)
    case atStart => exact ⟨0, PB, Nat.zero_le _, rfl, rfl, Lib.hid (by rw [HPL.out]; simp), by omega, Lib.hid (by simp), Hb1⟩
    case round =>
      obtain ⟨k, S, hk, rfl, rfl, hS, hSs, hfa, hbw⟩ := hrel
      have hsw := hbw.out.size
      by_cases hlt : k < ps.length
      · obtain ⟨bb, off, rfl, hbb, hc⟩ := HRd.out.2 (by omega)
        obtain ⟨hc0, hc1, hc2, hc3⟩ := row_cells (wr := wr) hlt hc (fun p hp => hbw.out.cell (p := p) (by omega)) hbb
        have HSt := Lib.hid (fun h => HNo'.out (se_all_stop hlt h))
        have HGo := Lib.hid (fun h => se_all_step hlt hfa.out h)
        have Hsn : Hid ((ps.take (k + 1)).flatMap Se.rowL = (ps.take k).flatMap Se.rowL ++ Se.rowL ps[k]) := by
          show _ = _; rw [List.take_succ_eq_append_getElem hlt, List.flatMap_append]; simp
        clear hc hfa
        generalize ps[k] = r at *
        obtain ⟨a0, a1, a2, a3⟩ := r
        simp only at hc0 hc1 hc2 hc3
        have N0 := fun W => Lib.hid (number_any a0 W)
        have N1 := fun W => Lib.hid (number_any a1 W)
        have N2 := fun W => Lib.hid (number_any a2 W)
        have N3 := fun W => Lib.hid (number_any a3 W)
        go_wp2_with fail
        have hP := Blk.new wr 96 #[.int .i64 a0, .int .i64 a1, .int .i64 a2, .int .i64 a3]
        have hb5 : Below w.heap.size w (wr.alloc (.cells #[.int .i64 a0, .int .i64 a1, .int .i64 a2, .int .i64 a3] 96)) := hbw.out.alloc hsw _
        have HP := Lib.hid hP
        have Hb5 := Lib.hid hb5
        have hh5 : w.heap.size ≤ wr.heap.size := hsw
        clear hP hb5 hc0 hc1 hc2 hc3
        generalize wr.alloc (.cells #[.int .i64 a0, .int .i64 a1, .int .i64 a2, .int .i64 a3] 96) = w5 at *
        generalize wr.heap.size = h at *
        have r0 := HP.out.cell 0
        have r1 := HP.out.cell 1
        have r2 := HP.out.cell 2
        have r3 := HP.out.cell 3
        simp only [List.getElem?_toArray, List.getElem?_cons_zero, List.getElem?_cons_succ] at r0 r1 r2 r3
        refine (N0 _).out.mono ?_
        rintro e w' ⟨rfl, rfl⟩
        cases i0 : Wr.isNum a0
        · have Hres := Lib.hid (HSt.out (fit_no (.inl i0)))
          go_wp2_with fail
          go_ret2
          exact ⟨by rw [Hres.out]; rfl, Hb5.out⟩
        · go_wp2_with fail
          refine (N1 _).out.mono ?_
          rintro e w' ⟨rfl, rfl⟩
          cases i1 : Wr.isNum a1
          · have Hres := Lib.hid (HSt.out (fit_no (.inr (.inl i1))))
            go_wp2_with fail
            go_ret2
            exact ⟨by rw [Hres.out]; rfl, Hb5.out⟩
          · go_wp2_with fail
            refine (N2 _).out.mono ?_
            rintro e w' ⟨rfl, rfl⟩
            cases i2 : Wr.isNum a2
            · have Hres := Lib.hid (HSt.out (fit_no (.inr (.inr (.inl i2)))))
              go_wp2_with fail
              go_ret2
              exact ⟨by rw [Hres.out]; rfl, Hb5.out⟩
            · go_wp2_with fail
              refine (N3 _).out.mono ?_
              rintro e w' ⟨rfl, rfl⟩
              cases i3 : Wr.isNum a3
              · have Hres := Lib.hid (HSt.out (fit_no (.inr (.inr (.inr i3)))))
                go_wp2_with fail
                go_ret2
                exact ⟨by rw [Hres.out]; rfl, Hb5.out⟩
              · have HG := Lib.hid (HGo.out (fit_four i0 i1 i2 i3))
                have b0 := (Wr.isNum_iff a0).1 i0
                have b1 := (Wr.isNum_iff a1).1 i1
                have b2 := (Wr.isNum_iff a2).1 i2
                have b3 := (Wr.isNum_iff a3).1 i3
                have P0 := fun W => Lib.hid (rnum_any a0 W (by omega))
                have P1 := fun W => Lib.hid (rnum_any a1 W (by omega))
                have P2 := fun W => Lib.hid (rnum_any a2 W (by omega))
                have P3 := fun W => Lib.hid (rnum_any a3 W (by omega))
                have s0 := putB8 a0
                have s1 := putB8 a1
                have s2 := putB8 a2
                have s3 := putB8 a3
                have Hone := Lib.hid (row_bytes a0 a1 a2 a3)
                clear i0 i1 i2 i3 HSt HGo N0 N1 N2 N3 r0 r1 r2 r3
                have hx := fun x : Aft w5.heap.size w5 => Blk.below HP.out x.below HP.out.lt
                have x0 := fun x => (hx x).cell 0
                have x1 := fun x => (hx x).cell 1
                have x2 := fun x => (hx x).cell 2
                have x3 := fun x => (hx x).cell 3
                simp only [List.getElem?_toArray, List.getElem?_cons_zero, List.getElem?_cons_succ] at x0 x1 x2 x3
                clear hx
                generalize Wr.putB a0 = T0 at *
                generalize Wr.putB a1 = T1 at *
                generalize Wr.putB a2 = T2 at *
                generalize Wr.putB a3 = T3 at *
                have q1 : ¬ 9223372036854775807 < S.size + T0.size := by omega
                have q2 : ¬ 9223372036854775807 < S.size + T0.size + T1.size := by omega
                have q3 : ¬ 9223372036854775807 < S.size + T0.size + T1.size + T2.size := by omega
                have q4 : ¬ 9223372036854775807 < S.size + T0.size + T1.size + T2.size + T3.size := by omega
                go_wp2_with fail
                refine wp_region_aft w5.heap.size w5 (by kernel_rfl) (by kernel_rfl) (Below.refl _ _) ?_
                repeat (go_big_quiet_step (first | (go_at_call 48; with_reducible exact aft_new (Nat.le_refl _) (Hid.out (P0 _))) | (go_at_call 48; with_reducible exact aft_new (Nat.le_refl _) (Hid.out (P1 _))) | (go_at_call 48; with_reducible exact aft_new (Nat.le_refl _) (Hid.out (P2 _))) | (go_at_call 48; with_reducible exact aft_new (Nat.le_refl _) (Hid.out (P3 _)))))
                refine wpQuiet_nil ?_
                rintro _ ⟨x, rfl⟩
                have Hx : Hid (Below w.heap.size w x.world) := Hb5.out.trans (x.below.mono Hb5.out.size)
                have HSn : Hid ((S ++ T0 ++ T1 ++ T2 ++ T3).data.toList = Wr.putL (ps.length : Int) ++ (ps.take (k + 1)).flatMap Se.rowL) := by
                  show _ = _
                  have h1 := Hone.out
                  rw [Wr.append_list, Wr.append_list, Wr.append_list] at h1
                  rw [Wr.append_list, Wr.append_list, Wr.append_list, Wr.append_list, hS.out, Hsn.out, ← h1]; simp
                have hSl : (S ++ T0 ++ T1 ++ T2 ++ T3).size ≤ 8 + 32 * (k + 1) := by
                  rw [ByteArray.size_append, ByteArray.size_append, ByteArray.size_append, ByteArray.size_append]; omega
                clear x0 x1 x2 x3
                generalize S ++ T0 ++ T1 ++ T2 ++ T3 = S2 at *
                generalize x.world = wx at *
                go_wp2_with fail
                go_roundw
                case rel => exact ⟨k + 1, S2, by omega, by go_num, rfl, HSn, hSl, HG, Hx⟩
                case measure => simp [intOf]; omega
      · have htk : ps.take k = ps := List.take_of_length_le (by omega)
        rw [htk] at hS hfa
        have Hres : Hid (res = (S, 0)) := by
          show _ = _
          rw [HOk'.out hfa.out]
          congr 1
          apply Wr.ext_list
          rw [hS.out]; rfl
        clear hS hfa htk
        go_wp2_with fail
        go_ret2
        exact ⟨by rw [Hres.out]; rfl, hbw.out⟩
end Go.Proofs.YtmnigoibbcigdaaGreat
/- The walk through Snap of the reference's machine (chapter 11). -/
namespace Go.Proofs.YtmnigoibbcigdaaGreat
open Go.RowKit
set_option linter.unusedVariables false

def RSnapPost (w : World) (q : ByteArray × Int) (e : Ending) (w' : World) : Prop := e = .returned (.tuple #[.string q.1, .int .i64 q.2]) ∧ Below w.heap.size w w'
theorem reight_int (d : Int) (hd : 0 ≤ d ∧ d < 18446744073709551616) (W : World) : Calls Tryz.prog 50 #[.int .u64 d] W fun e w' => e = .returned (.string (Sg.tailB d.toNat)) ∧ Below W.heap.size W w' := by
  have h := reight_any d.toNat W (by omega)
  rw [Int.toNat_of_nonneg hd.1] at h
  exact h
section
variable {w : World} {base g : Nat} {m : Ig.M} {vr vo vd vs : Value}
set_option maxRecDepth 100000 in
set_option maxHeartbeats 2000000 in
theorem rsnap_mach (h : RMach w base g m vr vo vd vs) (h0 : 0 ≤ m.at_) (h1 : m.at_ ≤ 4096) (hrl : m.rows.length ≤ 1000000) (hd : m.digs.length ≤ 1000000) (hr : ∀ d ∈ m.digs, 0 ≤ d ∧ d < 18446744073709551616) :
    Calls Tryz.prog 11 #[.pointer (some ⟨g, 0, none⟩)] w (RSnapPost w (Ig.snapR m)) := by
  have HS : Hid (∀ W, Below w.heap.size w W → W.cell? ⟨g, 0, none⟩ = some (.int .i64 m.at_) ∧ W.cell? ⟨g, 1, none⟩ = some vr ∧ W.cell? ⟨g, 2, none⟩ = some vo ∧ W.cell? ⟨g, 3, none⟩ = some vd ∧ W.cell? ⟨g, 4, none⟩ = some vs) := fun W hb => (h.below hb).cells
  have hgw := h.blk.lt
  by_cases h8 : m.at_ % 8 ≠ 0
  · have Hres := Lib.hid (Ig.snap_no h8)
    generalize Ig.snapR m = res at *
    obtain ⟨c0, c1, c2, c3, c4⟩ := h.cells
    have h8b : (m.at_ % 8 != 0) = true := by simpa using h8
    clear h h8 hr
    go_enter Tryz.func11, Tryz.ntmps11
    go_wp2_with fail
    go_ret2
    exact ⟨by rw [Hres.out]; rfl, Below.refl _ _⟩
  · have Hres := Lib.hid (Ig.snap_yes h8)
    generalize Ig.snapR m = res at *
    have h8b : (m.at_ % 8 != 0) = false := by simpa using h8
    obtain ⟨Ar, cr, rfl, _, hr1⟩ := own_slice h.rows
    obtain ⟨Ad, cd, rfl, _, hr3⟩ := own_slice h.digs
    have HP := fun W (hb : Below w.heap.size w W) => Lib.hid (rseput_any Ar cr m.rows W w.heap.size (hr1.below hb) hb.size (by omega))
    have HRd := Lib.hid hr3
    have HRg := Lib.hid hr
    obtain ⟨c0, c1, c2, c3, c4⟩ := h.cells
    clear h h8 hr hr1 hr3
    have HL : Hid (Ig.snapL m = Wr.putL m.at_ ++ ((Wr.textB (Se.putR m.rows).1).data.toList ++ (Wr.putL (m.digs.length : Int) ++ m.digs.flatMap fun x => (Sg.tailB x.toNat).data.toList))) := rfl
    generalize Ig.snapL m = out at *
    have hrs := Ig.putR_size m.rows
    generalize Se.putR m.rows = pr at *
    obtain ⟨S, er⟩ := pr
    simp only at HL hrs
    have HN1 := fun W => Lib.hid (rnum_any m.at_ W (by omega))
    have HN2 := fun W => Lib.hid (rnum_any (m.digs.length : Int) W (by omega))
    have HT := fun W => Lib.hid (rtext_any S W (by omega))
    have HTl := fun k (hk : k < m.digs.length) => Lib.hid (reight_int m.digs[k] (HRg.out _ (List.getElem_mem hk)))
    have z1 : (Wr.putB m.at_).size ≤ 8 := by rw [Wr.putB_size]; exact Wr.putL_len _
    have z2 : (Wr.putB (m.digs.length : Int)).size ≤ 8 := by rw [Wr.putB_size]; exact Wr.putL_len _
    have z3 := Ig.textB_size S
    have y1 : Hid ((Wr.putB m.at_).data.toList = Wr.putL m.at_) := Wr.putB_list _
    have y2 : Hid ((Wr.putB (m.digs.length : Int)).data.toList = Wr.putL (m.digs.length : Int)) := Wr.putB_list _
    rw [← y1.out, ← y2.out] at HL
    clear y1 y2
    generalize Wr.putB m.at_ = PA at *
    generalize Wr.putB (m.digs.length : Int) = PD at *
    generalize Wr.textB S = PT at *
    have hq1 : ¬ 9223372036854775807 < PA.size + PT.size := by omega
    have hq2 : ¬ 9223372036854775807 < PA.size + PT.size + PD.size := by omega
    have hq3 : ¬ 9223372036854775807 < (PA ++ PT).size + PD.size := by rw [ByteArray.size_append]; omega
    go_enter Tryz.func11, Tryz.ntmps11
    go_wp2_with fail
    refine (HP _ (Below.refl _ _)).out.mono ?_
    rintro e w1 ⟨rfl, hb1⟩
    have Hb1 := Lib.hid hb1
    clear hb1 HP c0 c1 c2 c3 c4
    have hs1 := Hb1.out.size
    have m0 := fun x : Aft w1.heap.size w1 => (HS.out x.world (Hb1.out.trans (x.below.mono hs1))).1
    have m3 := fun x : Aft w1.heap.size w1 => (HS.out x.world (Hb1.out.trans (x.below.mono hs1))).2.2.2.1
    go_wp2_with fail
    refine wp_region_aft w1.heap.size w1 (by kernel_rfl) (by kernel_rfl) (Below.refl _ _) ?_
    repeat (go_big_quiet_step (first
      | (go_at_call 49; with_reducible exact aft_new (Nat.le_refl _) (Hid.out (HT _)))
      | (go_at_call 48; with_reducible exact aft_new (Nat.le_refl _) (Hid.out (HN1 _)))
      | (go_at_call 48; with_reducible exact aft_new (Nat.le_refl _) (Hid.out (HN2 _)))))
    refine wpQuiet_nil ?_
    rintro _ ⟨x, rfl⟩
    have Hb2 : Hid (Below w.heap.size w x.world) := Hb1.out.trans (x.below.mono hs1)
    clear m0 m3 HN1 HN2 HT hq1 hq2 hq3 Hb1 hs1
    generalize x.world = w2 at *
    have Hl0 : Hid ((PA ++ PT ++ PD).data.toList = PA.data.toList ++ (PT.data.toList ++ PD.data.toList)) := by show _ = _; simp
    have hl0 : (PA ++ PT ++ PD).size ≤ 200 := by rw [ByteArray.size_append, ByteArray.size_append]; omega
    generalize PA ++ PT ++ PD = B0 at *
    have Hfin : Hid (∀ k, ¬ k < m.digs.length → B0.data.toList ++ (m.digs.take k).flatMap (fun x => (Sg.tailB x.toNat).data.toList) = out) := fun k hk => by
      rw [List.take_of_length_le (by omega), Hl0.out, HL.out]; simp only [List.append_assoc]
    have Hlen : Hid (∀ k, ((m.digs.take k).flatMap (fun x => (Sg.tailB x.toNat).data.toList)).length ≤ 8 * k) := fun k => by
      have : ((m.digs.take k).flatMap (fun x => (Sg.tailB x.toNat).data.toList)).length ≤ 8 * (m.digs.take k).length := tails_le _
      have := List.length_take_le k m.digs
      omega
    have hdc : ∀ k (hk : k < m.digs.length), ∃ bd off, Ad = some ⟨bd, off, none⟩ ∧ bd < w.heap.size ∧ w.cell? ⟨bd, off + k, none⟩ = some (.int .u64 m.digs[k]) := fun k hk => by
      obtain ⟨bd, off, e, hbd, hc⟩ := HRd.out.2 (by omega)
      exact ⟨bd, off, e, hbd, hc k _ (by rw [show m.digs.flatMap digCells = m.digs.map (Value.int .u64) from digs_map m.digs]; simp [hk])⟩
    have HDc := Lib.hid hdc
    clear hdc HRd HL Hl0
    have HB0 := Lib.hid hl0
    clear hl0
    go_wp2_with fail
    go_loopw [6, 7] (fun sv i wr => ∃ (k : Nat) (X : ByteArray), k ≤ m.digs.length ∧ i = .int .i64 (k : Int) ∧ sv = .string X ∧ Hid (X.data.toList = B0.data.toList ++ (m.digs.take k).flatMap (fun x => (Sg.tailB x.toNat).data.toList)) ∧ Hid (Below w.heap.size w wr)) (fun _ i _ => m.digs.length - (intOf i).toNat)
    case atStart => exact ⟨0, B0, Nat.zero_le _, rfl, rfl, by show _ = _; simp, Hb2⟩
    case round =>
      obtain ⟨k, X, hk, rfl, rfl, hX, hbr⟩ := hrel
      have c3 := (HS.out wr hbr.out).2.2.2.1
      by_cases hlt : k < m.digs.length
      · obtain ⟨bd, off, rfl, hbd, hcd⟩ := HDc.out k hlt
        have hcr := (hbr.out.cell (p := ⟨bd, off + k, none⟩) hbd).trans hcd
        have HT := Lib.hid ((HTl k hlt).out)
        have Hsn : Hid (B0.data.toList ++ (m.digs.take (k + 1)).flatMap (fun x => (Sg.tailB x.toNat).data.toList) = X.data.toList ++ (Sg.tailB m.digs[k].toNat).data.toList) := by
          show _ = _
          rw [hX.out, List.take_succ_eq_append_getElem hlt, List.flatMap_append, List.append_assoc]; simp
        have hlk := Hlen.out k
        have hXs : X.size ≤ 200 + 8 * k := by
          rw [← Wr.len_list X, hX.out, List.length_append, Wr.len_list]; have := HB0.out; omega
        have hts := Sg.tailB_size m.digs[k].toNat
        clear hcd Hfin Hlen HDc HTl hX hlk
        generalize Sg.tailB m.digs[k].toNat = tb at *
        generalize m.digs[k] = dk at *
        have hq : ¬ 9223372036854775807 < X.size + tb.size := by omega
        clear hts
        go_wp2_with fail
        refine (HT.out _).mono ?_
        rintro e w5 ⟨rfl, hb5⟩
        have Hb5 : Hid (Below w.heap.size w w5) := hbr.out.trans (hb5.mono hbr.out.size)
        clear hb5
        go_wp2_with fail
        go_roundw
        case rel => exact ⟨k + 1, X ++ tb, by omega, by go_num, rfl, by show _ = _; rw [Hsn.out]; simp, Hb5⟩
        case measure => simp [intOf]; omega
      · have HF : Hid (X = ⟨out.toArray⟩) := by
          show _ = _
          apply Wr.ext_list
          rw [hX.out, Hfin.out k hlt]
        clear Hfin Hlen HDc HTl hX
        go_wp2_with fail
        go_ret2
        exact ⟨by first | (rw [Hres.out, HF.out]; done) | (rw [Hres.out, HF.out]; rfl) | (rw [Hres.out]; rfl), hbr.out⟩
end
end Go.Proofs.YtmnigoibbcigdaaGreat
/- The walk through the reference's Get (chapter 10). -/
namespace Go.Proofs.YtmnigoibbcigdaaGreat
open Go.RowKit
set_option linter.unusedVariables false

theorem getN_bdS (s : ByteArray) (a : Int) (hs : s.size ≤ 4611686018427387904) : (-9223372036854775808 ≤ (Wr.getN s.data.toList a).2.1 ∧ (Wr.getN s.data.toList a).2.1 ≤ 9223372036854775807) ∧ (-9007199254740992 ≤ (Wr.getN s.data.toList a).1 ∧ (Wr.getN s.data.toList a).1 ≤ 9007199254740992) := by
  rcases Wr.getN_cases s.data.toList a with ⟨e, hg, he⟩ | ⟨x, b, k, ha, hg, hn, _, hle, _⟩
  · rw [hg]; simp
  · rw [Wr.len_list] at hle
    have := (Wr.isNum_iff x).1 hn
    rw [hg]; exact ⟨⟨by simp; omega, by simp; omega⟩, ⟨by simp; omega, by simp; omega⟩⟩
/-- j numbers read from a place on -/
def Se.gk (s : ByteArray) (st : Pt.St) : Nat → List Int × Pt.St
  | 0 => ([], st)
  | j + 1 => ((Se.gk s st j).1 ++ [(Se.rdN s (Se.gk s st j).2).1], Se.rd1 s (Se.gk s st j).2)
theorem gk_len (s : ByteArray) (st : Pt.St) (j : Nat) : (Se.gk s st j).1.length = j := by
  induction j with
  | zero => rfl
  | succ j ih => rw [Se.gk, List.length_append, ih]; rfl
theorem gk_row (s : ByteArray) (st : Pt.St) {a b c d : Int} (h : (Se.gk s st 4).1 = [a, b, c, d]) : Se.rdRow s st = ((a, b, c, d), (Se.gk s st 4).2) := by
  simp only [Se.gk, List.nil_append, List.cons_append] at h ⊢
  injection h with h1 h
  injection h with h2 h
  injection h with h3 h
  injection h with h4 h
  unfold Se.rdRow
  rw [← h1, ← h2, ← h3, ← h4]
theorem four_of (l : List Int) (h : l.length = 4) : ∃ a b c d, l = [a, b, c, d] := by
  match l, h with
  | [a, b, c, d], _ => exact ⟨a, b, c, d, rfl⟩
theorem rdN_okay (s : ByteArray) (a x m : Int) (h : Wr.getN s.data.toList a = (x, m, 0)) : Se.rdN s (a, false) = (x, (m, false)) := by
  have hb := (Wr.getN_cases s.data.toList a)
  rcases hb with ⟨e, hg, he⟩ | ⟨x', b, k, ha, hg, hn, _, hle, _⟩
  · rw [hg] at h; injection h with _ h; injection h with _ h; omega
  · rw [hg] at h
    injection h with h1 h
    injection h with h2 h
    have := (Wr.isNum_iff x').1 hn
    subst h1
    exact Pt.rdNum_ok s _ _ a x' m (by rw [hg, h2]) (by omega) (by omega)
theorem rd1_bad (s : ByteArray) (st : Pt.St) (h : st.2 = true) : (Se.rd1 s st).2 = true := by
  obtain ⟨a, b⟩ := st
  simp only at h
  subst h
  unfold Se.rd1 Se.rdN
  rw [Pt.rdNum_bad]
theorem gk_stick (s : ByteArray) (st : Pt.St) (j m : Nat) (h : (Se.gk s st j).2.2 = true) (hm : j ≤ m) : (Se.gk s st m).2.2 = true := by
  induction m with
  | zero => obtain rfl : j = 0 := by omega
            exact h
  | succ m ih =>
    by_cases e : j = m + 1
    · subst e; exact h
    · rw [Se.gk]; exact rd1_bad s _ (ih (by omega))
theorem rdRow_st (s : ByteArray) (st : Pt.St) : (Se.rdRow s st).2 = (Se.gk s st 4).2 := by simp [Se.gk, Se.rdRow]
theorem rdK_stick (s : ByteArray) (st : Pt.St) (j m : Nat) (h : (Se.rdK s st j).2.2 = true) (hm : j ≤ m) : (Se.rdK s st m).2.2 = true := by
  induction m with
  | zero => obtain rfl : j = 0 := by omega
            exact h
  | succ m ih =>
    by_cases e : j = m + 1
    · subst e; exact h
    · rw [rdK_st, rdRow_st]; exact gk_stick s _ 0 4 (by rw [Se.gk]; exact ih (by omega)) (by omega)
/-- a number that is none: no table -/
theorem rget_stop {s : ByteArray} {n : Int} {st0 : Pt.St} (h0 : Pt.rdNum s 0 4 (0, false) = (n, st0)) {k j : Nat} (hk : k < n.toNat) (hj : j < 4) {a : Int} (hs : (Se.gk s (Se.rdK s st0 k).2 j).2 = (a, false)) (he : (Wr.getN s.data.toList a).2.2 ≠ 0) : Se.getR s = ([], 1001) := by
  have h1 : (Se.gk s (Se.rdK s st0 k).2 (j + 1)).2.2 = true := by
    rw [Se.gk]
    show (Se.rd1 s (Se.gk s (Se.rdK s st0 k).2 j).2).2 = true
    rw [hs]
    unfold Se.rd1 Se.rdN
    rw [Pt.rdNum_no s _ _ a false he]
  have h2 := gk_stick s _ (j + 1) 4 h1 (by omega)
  have h3 : (Se.rdK s st0 (k + 1)).2.2 = true := by rw [rdK_st, rdRow_st]; exact h2
  have h4 := rdK_stick s st0 (k + 1) n.toNat h3 (by omega)
  refine sget_no (rows := (Se.rdK s st0 n.toNat).1) (a := (Se.rdK s st0 n.toNat).2.1) (bad := true) h0 ?_ (.inl rfl)
  rw [← h4]
/-- the count is none -/
theorem rget_head {s : ByteArray} {x a : Int} {e : Int} (h : Wr.getN s.data.toList 0 = (x, a, e)) (hb : e ≠ 0 ∨ x < 0 ∨ 4 < x) : Se.getR s = ([], 1001) := by
  have h0 : Pt.rdNum s 0 4 (0, false) = (0, (0, true)) := by
    unfold Pt.rdNum
    rw [h]
    rw [if_pos (by rcases hb with hb | hb | hb; exact .inl hb; exact .inr (.inl hb); exact .inr (.inr (.inl hb)))]
  exact sget_no (rows := []) (a := 0) (bad := true) h0 rfl (.inl rfl)
def Se.xsRow (l : List Int) (j : Nat) : Array Value := ((l ++ List.replicate (4 - j) 0).map (Value.int .i64)).toArray
theorem xs_make : ∀ w : World, (Instr.makeSlice 115 (.int .i64 4) (.int .i64 4)).run Tryz.prog w = .ok (.slice (some ⟨w.heap.size, 0, none⟩) 4 4) (w.alloc (.cells (Se.xsRow [] 0) 3)) := by
  intro w; kernel_rfl
theorem xs_set (l : List Int) (j : Nat) (x : Int) (hl : l.length = j) (hj : j < 4) : (Se.xsRow l j).setIfInBounds j (.int .i64 x) = Se.xsRow (l ++ [x]) (j + 1) := by
  unfold Se.xsRow
  rw [List.setIfInBounds_toArray, ← List.map_set]
  congr 2
  rw [List.set_append_right j x (by omega), hl, Nat.sub_self, show 4 - j = (4 - (j + 1)) + 1 from by omega, List.replicate_succ]
  simp
theorem xs_at {w : World} {g : Nat} {l : List Int} {j : Nat} (h : Blk w g 3 (Se.xsRow l j)) (hl : l.length = j) (hj : j < 4) : ∃ u, w.cell? ⟨g, j, none⟩ = some u := by
  rw [h.cell]
  unfold Se.xsRow
  rw [List.getElem?_toArray, List.getElem?_map, List.getElem?_append_right (by omega), hl, Nat.sub_self, show 4 - j = (4 - (j + 1)) + 1 from by omega, List.replicate_succ]
  exact ⟨_, rfl⟩
theorem xs_four {w : World} {g : Nat} {a b c d : Int} (h : Blk w g 3 (Se.xsRow [a, b, c, d] 4)) : w.cell? ⟨g, 0, none⟩ = some (.int .i64 a) ∧ w.cell? ⟨g, 1, none⟩ = some (.int .i64 b) ∧ w.cell? ⟨g, 2, none⟩ = some (.int .i64 c) ∧ w.cell? ⟨g, 3, none⟩ = some (.int .i64 d) :=
  ⟨(h.cell 0).trans rfl, (h.cell 1).trans rfl, (h.cell 2).trans rfl, (h.cell 3).trans rfl⟩

set_option maxRecDepth 100000 in
set_option maxHeartbeats 2000000 in
theorem rseget_any (s : ByteArray) (w : World) (hs : s.size ≤ 140737488355328) :
    Calls Tryz.prog 62 #[.string s] w (SGetPost w (Se.getR s)) := by
  obtain ⟨i0, hi, hz0, hz1, hz2⟩ := info_parts info_srow
  have H0 := fun W => Lib.hid (rgetNum_any s 0 W (by omega) (by omega))
  have hbd := getN_bdS s 0 (by omega)
  have HH := @rget_head s
  have hmk := xs_make
  have HO := fun (x m : Int) (h : Wr.getN s.data.toList 0 = (x, m, 0)) (h1 : 0 ≤ x) (h2 : x ≤ 4) => Pt.rdNum_ok s 0 4 0 x m h h1 h2
  have HSt := Lib.hid (fun n st0 h0 k j hk hj a h he => @rget_stop s n st0 h0 k j hk hj a h he)
  have HOk := Lib.hid (fun k st0 rows h0 hk hm => @sget_ok s k st0 rows h0 hk hm)
  have HNo := Lib.hid (fun k st0 rows a bad h0 hk h => @sget_no s k st0 rows a bad h0 hk h)
  generalize Se.getR s = res at *
  obtain ⟨x, to0, e0, hX⟩ : ∃ x to0 e0, Wr.getN s.data.toList 0 = (x, to0, e0) := ⟨_, _, _, rfl⟩
  rw [hX] at H0 hbd
  simp only [gnV] at H0 hbd
  by_cases hbad : e0 ≠ 0 ∨ x < 0 ∨ 4 < x
  · have HR := Lib.hid (HH hX hbad)
    clear HH HO HSt HOk HNo hX hmk
    have hz : (e0 != 0) = true ∨ ((e0 != 0) = false ∧ (x < 0 ∨ (¬ x < 0 ∧ 4 < x))) := by
      by_cases h : e0 = 0
      · right; exact ⟨by simp [h], by omega⟩
      · left; simp [h]
    clear hbad
    rcases hz with hz | ⟨hz, h1 | ⟨h1, h2⟩⟩
    all_goals
      go_enter Tryz.func62, Tryz.ntmps62
      go_wp2_with fail
      refine (H0 _).out.mono ?_
      rintro e w' ⟨rfl, rfl⟩
      go_wp2_with fail
      go_ret2
      exact ⟨_, by rw [HR.out]; rfl, by rw [HR.out]; exact own_nil _ _ _ _, Below.refl _ _⟩
  · obtain rfl : e0 = 0 := by omega
    have hx0 : 0 ≤ x := by omega
    have hx4 : x ≤ 4 := by omega
    have h0 := HO x to0 hX hx0 hx4
    obtain ⟨n, rfl⟩ : ∃ n : Nat, x = (n : Int) := ⟨x.toNat, by omega⟩
    have hst := hbd.1
    have HSt' := Lib.hid (fun k j hk hj a h he => HSt.out _ _ h0 k j hk hj a h he)
    have HOk' := Lib.hid (fun rows hk hm => HOk.out _ _ rows h0 hk hm)
    have HNo' := Lib.hid (fun rows a bad hk h => HNo.out _ _ rows a bad h0 hk h)
    rw [Int.toNat_natCast] at HSt' HOk' HNo'
    clear HH HO HSt HOk HNo hX hbad h0 hbd
    have hz : ((0 : Int) != 0) = false := rfl
    obtain ⟨st0, hst0⟩ : ∃ st0 : Pt.St, st0 = (to0, false) := ⟨_, rfl⟩
    rw [← hst0] at HSt' HOk' HNo'
    have Hst0 := Lib.hid hst0
    clear hst0
    go_enter Tryz.func62, Tryz.ntmps62
    go_wp2_with fail
    refine (H0 _).out.mono ?_
    rintro e w' ⟨rfl, rfl⟩
    go_wp2_with fail
    go_loopw [5, 7, 8, 9, 10, 11, 12, 13] (fun vt vo i _ _ _ _ _ wr => ∃ (k : Nat) (tq : Int), k ≤ n ∧ i = .int .i64 (k : Int) ∧ vt = .int .i64 tq ∧ Hid ((Se.rdK s st0 k).2 = (tq, false)) ∧ (-9223372036854775808 ≤ tq ∧ tq ≤ 9223372036854775807) ∧ Hid (wr.ownsRow w.heap.size 96 4 vo k ((Se.rdK s st0 k).1.flatMap rowCells)) ∧ Hid (Below w.heap.size w wr)) (fun _ _ i _ _ _ _ _ _ => n - (intOf i).toNat)
    case atStart => exact ⟨0, to0, Nat.zero_le _, rfl, rfl, Lib.hid (by show _ = _; rw [Se.rdK]; exact Hst0.out), hst, Lib.hid (own_nil _ _ _ _), Lib.hid (Below.refl _ _)⟩
    case round =>
      obtain ⟨k, tq, hk, rfl, rfl, hrel, hto, hown, hbw⟩ := hrel
      have hsw := hbw.out.size
      by_cases hlt : k < n
      · have HStk := Lib.hid (fun j hj a h he => HSt'.out k j hlt hj a h he)
        have hsn := rdK_snoc s st0 k
        have hss := rdK_st s st0 k
        have Hsn := Lib.hid hsn
        have Hss := Lib.hid hss
        clear HSt' HOk' HNo' hsn hss
        generalize (Se.rdK s st0 k).1 = rows at *
        generalize (Se.rdK s st0 k).2 = st at *
        obtain ⟨Wo, hWo⟩ : ∃ Wo, Wo = wr := ⟨_, rfl⟩
        go_wp2_with fail
        have hB0 := Blk.new wr 3 (Se.xsRow [] 0)
        have hb0 : Below wr.heap.size wr (wr.alloc (.cells (Se.xsRow [] 0) 3)) := (Below.refl _ _).alloc (Nat.le_refl _) _
        rw [← hWo] at hB0 hb0 hown hbw hsw ⊢
        have HB0 := Lib.hid hB0
        have Hb0 := Lib.hid hb0
        clear hB0 hb0 hWo wr
        generalize Wo.alloc (.cells (Se.xsRow [] 0) 3) = W1 at *
        go_loopw [5, 10, 11, 12, 13] (fun vt i _ _ _ wr => ∃ (j : Nat) (a : Int), j ≤ 4 ∧ i = .int .i64 (j : Int) ∧ vt = .int .i64 a ∧ Hid ((Se.gk s st j).2 = (a, false)) ∧ (-9223372036854775808 ≤ a ∧ a ≤ 9223372036854775807) ∧ Hid (Blk wr Wo.heap.size 3 (Se.xsRow (Se.gk s st j).1 j)) ∧ Hid (Below Wo.heap.size Wo wr)) (fun _ i _ _ _ _ => 4 - (intOf i).toNat)
        case atStart => exact ⟨0, tq, Nat.zero_le _, rfl, rfl, Lib.hid (by show _ = _; rw [Se.gk]; exact hrel.out), hto, HB0, Hb0⟩
        case round =>
          rename_i hrel0
          obtain ⟨j, a, hj, rfl, rfl, hrel, hta, hB, hbx⟩ := hrel
          by_cases hlj : j < 4
          · have hgl := gk_len s st j
            obtain ⟨u, hcj⟩ := xs_at hB.out hgl hlj
            have hfj := hB.out.frozen j
            have H1 := fun W => Lib.hid (rgetNum_any s a W (by omega) hta)
            have hN := getN_bdS s a (by omega)
            have HOj := fun x m h => rdN_okay s a x m h
            have HStj := Lib.hid (fun he => HStk.out j hlj a hrel.out he)
            have Hgl := Lib.hid hgl
            have Hg1 : Hid ((Se.gk s st (j + 1)).1 = (Se.gk s st j).1 ++ [(Se.rdN s (Se.gk s st j).2).1]) := by show _ = _; rw [Se.gk]
            have Hg2 : Hid ((Se.gk s st (j + 1)).2 = Se.rd1 s (Se.gk s st j).2) := by show _ = _; rw [Se.gk]
            rw [hrel.out] at Hg1 Hg2
            clear hgl HStk
            generalize Wr.getN s.data.toList a = Y at *
            obtain ⟨y, a2, e2⟩ := Y
            simp only [gnV] at H1 hN
            obtain ⟨hN1, hN2⟩ := hN
            by_cases he2 : e2 = 0
            · subst he2
              have Hrd := HOj y a2 rfl
              have Hg2' : Hid ((Se.gk s st (j + 1)).2 = (a2, false)) := by show _ = _; rw [Hg2.out]; unfold Se.rd1; rw [Hrd]
              have HBn : Hid (∀ W, Blk W Wo.heap.size 3 ((Se.xsRow (Se.gk s st j).1 j).setIfInBounds j (.int .i64 y)) → Blk W Wo.heap.size 3 (Se.xsRow (Se.gk s st (j + 1)).1 (j + 1))) := by
                intro W h
                rw [xs_set _ j y Hgl.out hlj] at h
                rw [Hg1.out, Hrd]
                exact h
              clear HStj Hrd HOj Hg1 Hg2
              go_wp2_with fail
              refine (H1 _).out.mono ?_
              rintro e w' ⟨rfl, rfl⟩
              go_wp2_with fail
              have HB' := Lib.hid (HBn.out _ (hB.out.set_ j (.int .i64 y)))
              have Hbx' : Hid (Below Wo.heap.size Wo (wr.setCell ⟨Wo.heap.size, j, none⟩ (.int .i64 y))) := hbx.out.setCell (p := ⟨Wo.heap.size, j, none⟩) (Nat.le_refl _) _
              go_roundw
              case rel => exact ⟨j + 1, a2, by omega, by go_num, rfl, Hg2', hN1, HB', Hbx'⟩
              case measure => simp [intOf]; omega
            · have hz2 : (e2 != 0) = true := by simp [he2]
              have HR := Lib.hid (HStj.out he2)
              have Hbf : Hid (Below w.heap.size w wr) := hbw.out.trans (hbx.out.mono hsw)
              clear HStj HOj Hg1 Hg2 he2
              go_wp2_with fail
              refine (H1 _).out.mono ?_
              rintro e w' ⟨rfl, rfl⟩
              go_wp2_with fail
              go_ret2
              exact ⟨_, by rw [HR.out]; rfl, by rw [HR.out]; exact own_nil _ _ _ _, Hbf.out⟩
          · obtain rfl : j = 4 := by omega
            obtain ⟨a0, a1, a2, a3, h4⟩ := four_of _ (gk_len s st 4)
            have hrow := gk_row s st h4
            rw [hrow] at Hsn Hss
            rw [h4] at hB
            simp only at Hsn Hss
            obtain ⟨c0, c1, c2, c3⟩ := xs_four hB.out
            have HownW := Lib.hid (own_only hown.out (Only.new (fun _ => False) hbx.out) (fun _ _ h => h))
            have Hbf : Hid (Below w.heap.size w wr) := hbw.out.trans (hbx.out.mono hsw)
            have hszr := hbx.out.size
            have hsf := Hbf.out.size
            have hne := Ne.symm (show u7.ownBlock ≠ some Wo.heap.size from fun h => by have := (own_lt hown.out h).2; omega)
            have HssF : Hid ((Se.rdK s st0 (k + 1)).2 = (a, false)) := by show _ = _; rw [Hss.out, hrel.out]
            have hgr := hB.out.lt
            generalize Wo.heap.size = G at *
            clear hrow h4 HStk hB hrel Hss
            go_wp2_with fail
            have hm64 : k + 1 ≤ maxLen := by unfold maxLen; omega
            go_region_held3 (fun w' => w'.cell? ⟨G, 0, none⟩ = some (.int .i64 a0) ∧ w'.cell? ⟨G, 1, none⟩ = some (.int .i64 a1) ∧ w'.cell? ⟨G, 2, none⟩ = some (.int .i64 a2) ∧ w'.cell? ⟨G, 3, none⟩ = some (.int .i64 a3))
              (first
                | go_keep
                | (go_split_ands
                   refine ⟨?_, ?_, ?_, ?_⟩
                   · (rw [hgrow.cell_far _ (by simp; omega) hne]; assumption)
                   · (rw [hgrow.cell_far _ (by simp; omega) hne]; assumption)
                   · (rw [hgrow.cell_far _ (by simp; omega) hne]; assumption)
                   · (rw [hgrow.cell_far _ (by simp; omega) hne]; assumption)))
              ((refine step_append_lies _ (by rfl) _ _ _ (by rfl) w.heap.size 96 i0 _ 4 32 Tryz.underlying26 hi hz0 hz1 hz2 rfl (by omega) u7 k _ (by rfl) ((HownW.out.alloc _).drew)
                  ⟨wr.heap.size, 0, none⟩ 1 1 [.int .i64 a0, .int .i64 a1, .int .i64 a2, .int .i64 a3] (by rfl) (by rfl) (World.news_of_block (cs := #[.int .i64 a0, .int .i64 a1, .int .i64 a2, .int .i64 a3]) (t := 96) (fr := (0, 0)) (heap_alloc_new wr _)) (by simp [Value.oneCell'])
                  (by omega) hm64 (by omega) (by simp; omega) (wr.heap.size + 1) (by simp) ?_; intro gg cap w1 hown1 hgrow hat hlt))
            have hbw1 : Hid (Below w.heap.size w w1) := (((Hbf.out.alloc hsf _).drew).grown hgrow (by simp; omega) (fun j hj => (own_lt HownW.out hj).1))
            have hown2 : Hid (w1.ownsRow w.heap.size 96 4 (.slice (some ⟨gg, 0, none⟩) (k + 1) cap) (k + 1) ((Se.rdK s st0 (k + 1)).1.flatMap rowCells)) := by
              rw [Hsn.out, List.flatMap_append]; exact hown1
            clear hown1 hgrow hat hown hbw
            go_wp2_with fail
            go_roundw
            case rel => exact ⟨k + 1, a, by omega, by go_num, rfl, HssF, hta, hown2, hbw1⟩
            case measure => simp [intOf]; omega
      · obtain rfl : k = n := by omega
        have hlen := rdK_len s st0 k
        have HE := Lib.hid (fun h => HOk'.out (Se.rdK s st0 k).1 h)
        have HN := Lib.hid (fun h => HNo'.out (Se.rdK s st0 k).1 tq false (by rw [← hrel.out]) h)
        have Hre : Hid (tq = (s.size : Int) → Se.rdK s st0 k = ((Se.rdK s st0 k).1, ((s.size : Int), false))) := by
          intro h; rw [← h, ← hrel.out]
        clear HOk' HNo' HSt' hrel
        generalize (Se.rdK s st0 k).1 = rows at *
        obtain ⟨Aq, cq, rfl, hnq, hrd⟩ := own_slice hown.out
        have HM := Lib.hid (rtable_any Aq cq rows wr wr.heap.size (by rw [hlen]; exact hrd) (by omega))
        rw [hlen] at HM
        have Hlen := Lib.hid hlen
        clear hrd hlen
        by_cases hov : tq = (s.size : Int)
        · have hz1 : (tq != (s.size : Int)) = false := by simp [hov]
          have HE' := Lib.hid (HE.out (Hre.out hov))
          cases hmay : Se.mayB rows
          · have HR := Lib.hid (HN.out (.inr hmay))
            rw [hmay] at HM
            clear HE HE' HN Hre hov hmay
            go_wp2_with fail
            refine HM.out.mono ?_
            rintro e w9 ⟨rfl, n9, rfl⟩
            go_wp2_with fail
            go_ret2
            exact ⟨_, by rw [HR.out]; rfl, by rw [HR.out]; exact own_nil _ _ _ _, below_drewN hbw.out _⟩
          · have HR := Lib.hid (HE'.out hmay)
            rw [hmay] at HM
            clear HE HE' HN Hre hov hmay
            go_wp2_with fail
            refine HM.out.mono ?_
            rintro e w9 ⟨rfl, n9, rfl⟩
            go_wp2_with fail
            go_ret2
            exact ⟨_, by rw [HR.out]; rfl, by rw [HR.out, Hlen.out]; exact own_drewN hown.out n9, below_drewN hbw.out _⟩
        · have hz1 : (tq != (s.size : Int)) = true := by simp [hov]
          have HR := Lib.hid (HN.out (.inl (by simp [hov])))
          clear HE HN Hre hov
          go_wp2_with fail
          go_ret2
          exact ⟨_, by rw [HR.out]; rfl, by rw [HR.out]; exact own_nil _ _ _ _, hbw.out⟩
end Go.Proofs.YtmnigoibbcigdaaGreat
/- The walk through Load of the reference's machine, at a machine's own text (chapter 11). -/
namespace Go.Proofs.YtmnigoibbcigdaaGreat
open Go.RowKit
set_option linter.unusedVariables false

namespace Ig
/-- what lies where in a machine's text -/
structure SnapAt (m : M) (s T : ByteArray) (p1 p2 p3 : Nat) : Prop where
  g1 : Wr.getN s.data.toList 0 = (m.at_, (p1 : Int), 0)
  g2 : Wr.getT s (p1 : Int) (s.size : Int) = (T, (p2 : Int), 0)
  g3 : Se.getR T = (m.rows, 0)
  g4 : Wr.getN s.data.toList (p2 : Int) = ((m.digs.length : Int), (p3 : Int), 0)
  sz : s.size = p3 + 8 * m.digs.length
  ts : T.size ≤ 200
  sm : s.size ≤ 1000000
  b1 : p1 ≤ s.size
  b2 : p2 ≤ s.size
  dg : ∀ k (hk : k < m.digs.length) j, j < 8 → s.data.toList[p3 + 8 * k + j]? = some (Sg.tailAt m.digs[k].toNat j)
theorem tails_at (ds : List Int) (k : Nat) (hk : k < ds.length) (j : Nat) (hj : j < 8) : (ds.flatMap (fun x => (Sg.tailB x.toNat).data.toList))[8 * k + j]? = some (Sg.tailAt ds[k].toNat j) := by
  have h8 : ∀ d : Int, (Sg.tailB d.toNat).data.toList.length = 8 := fun d => by have := Sg.tailB_size d.toNat; simpa using this
  induction ds generalizing k with
  | nil => simp at hk
  | cons d ds ih =>
    rw [List.flatMap_cons]
    cases k with
    | zero =>
      rw [Nat.mul_zero, Nat.zero_add, List.getElem?_append_left (by rw [h8]; exact hj)]
      show (Sg.tailL d.toNat)[j]? = some (Sg.tailAt d.toNat j)
      have e : Sg.tailL d.toNat = [Sg.tailAt d.toNat 0, Sg.tailAt d.toNat 1, Sg.tailAt d.toNat 2, Sg.tailAt d.toNat 3, Sg.tailAt d.toNat 4, Sg.tailAt d.toNat 5, Sg.tailAt d.toNat 6, Sg.tailAt d.toNat 7] := rfl
      rw [e]
      rcases (by omega : j = 0 ∨ j = 1 ∨ j = 2 ∨ j = 3 ∨ j = 4 ∨ j = 5 ∨ j = 6 ∨ j = 7) with rfl | rfl | rfl | rfl | rfl | rfl | rfl | rfl <;> rfl
    | succ k =>
      rw [List.getElem?_append_right (by rw [h8]; omega), h8, show 8 * (k + 1) + j - 8 = 8 * k + j from by omega, ih k (by simpa using hk)]
      rfl
theorem snap_at {m : M} (hI : Inv m) (hf : Fit m) (s : ByteArray) (hl : s.data.toList = snapL m) : ∃ T p1 p2 p3, SnapAt m s T p1 p2 p3 := by
  have hp := Se.put_ok hI.rows hf
  have hg := Se.get_put hI.rows hf
  have h0 := hI.at0
  have h1 := hI.at1
  have hdl := hI.dl
  have hsz := putR_size m.rows
  rw [hp] at hsz
  simp only at hsz
  unfold snapL at hl
  rw [hp] at hl
  simp only at hl
  generalize (⟨(Se.rowsL m.rows).toArray⟩ : ByteArray) = T at *
  have n1 : Wr.isNum m.at_ = true := Pt.small_num ((Pt.smallB_iff _).2 (by omega))
  have n2 : Wr.isNum (m.digs.length : Int) = true := Pt.small_num ((Pt.smallB_iff _).2 (by omega))
  have z1 := Wr.putL_len m.at_
  have z2 := Wr.putL_len (m.digs.length : Int)
  have z3 := textB_size T
  have z4 : (Wr.textB T).data.toList.length = (Wr.textB T).size := by simp
  have z6 : T.size ≤ (Wr.textB T).size := by unfold Wr.textB; rw [ByteArray.size_append]; omega
  have z5 : (m.digs.flatMap (fun x => (Sg.tailB x.toNat).data.toList)).length = 8 * m.digs.length := by
    have h8 : ∀ d : Int, (Sg.tailB d.toNat).data.toList.length = 8 := fun d => by have := Sg.tailB_size d.toNat; simpa using this
    have : ∀ ds : List Int, (ds.flatMap (fun x => (Sg.tailB x.toNat).data.toList)).length = 8 * ds.length := fun ds => by
      induction ds with
      | nil => rfl
      | cons d ds ih => rw [List.flatMap_cons, List.length_append, ih, h8, List.length_cons]; omega
    exact this _
  have hs : s.size = (Wr.putL m.at_).length + (Wr.textB T).data.toList.length + (Wr.putL (m.digs.length : Int)).length + 8 * m.digs.length := by
    rw [← Wr.len_list s, hl, List.length_append, List.length_append, List.length_append, z5]; omega
  have r1 := Wr.getN_put [] ((Wr.textB T).data.toList ++ (Wr.putL (m.digs.length : Int) ++ m.digs.flatMap (fun x => (Sg.tailB x.toNat).data.toList))) m.at_ n1
  have r2 := Pt.getT_at_text s (Wr.putL m.at_) (Wr.putL (m.digs.length : Int) ++ m.digs.flatMap (fun x => (Sg.tailB x.toNat).data.toList)) T (s.size : Int) hl (by omega) (by omega)
  have r4 := Wr.getN_put (Wr.putL m.at_ ++ (Wr.textB T).data.toList) (m.digs.flatMap (fun x => (Sg.tailB x.toNat).data.toList)) (m.digs.length : Int) n2
  rw [List.nil_append, ← hl] at r1
  rw [List.append_assoc, ← hl] at r4
  refine ⟨T, (Wr.putL m.at_).length, (Wr.putL m.at_).length + (Wr.textB T).data.toList.length, (Wr.putL m.at_).length + (Wr.textB T).data.toList.length + (Wr.putL (m.digs.length : Int)).length, ?_, ?_, hg, ?_, hs, by omega, by omega, by omega, by omega, ?_⟩
  · simpa using r1
  · rw [r2]; congr 2
  · rw [List.length_append] at r4
    rw [r4]; congr 2
  · intro k hk j hj
    rw [hl, List.getElem?_append_right (by omega), List.getElem?_append_right (by omega), List.getElem?_append_right (by omega)]
    rw [show (Wr.putL m.at_).length + (Wr.textB T).data.toList.length + (Wr.putL (m.digs.length : Int)).length + 8 * k + j - (Wr.putL m.at_).length - (Wr.textB T).data.toList.length - (Wr.putL (m.digs.length : Int)).length = 8 * k + j from by omega]
    exact tails_at m.digs k hk j hj
/-- the number behind j of its eight bytes -/
def part (d j : Nat) : Nat := d / 256 ^ (8 - j)
theorem part_zero (d : Nat) (h : d < 18446744073709551616) : part d 0 = 0 := by
  unfold part
  have : (256 : Nat) ^ 8 = 18446744073709551616 := by decide
  rw [Nat.sub_zero, this]; exact Nat.div_eq_of_lt h
theorem part_eight (d : Nat) : part d 8 = d := by unfold part; simp
theorem part_step (d j : Nat) (hj : j < 8) : part d (j + 1) = part d j * 256 + (Sg.tailAt d j).toNat := by
  have t : (Sg.tailAt d j).toNat = d / 256 ^ (7 - j) % 256 := by
    unfold Sg.tailAt
    rw [UInt8.toNat_ofNat']
    exact Nat.mod_mod _ _
  unfold part
  rw [t, show 8 - (j + 1) = 7 - j from by omega, show 8 - j = (7 - j) + 1 from by omega, Nat.pow_succ, ← Nat.div_div_eq_div_mul]
  generalize d / 256 ^ (7 - j) = x
  omega
theorem part_lt (d j : Nat) (h : d < 18446744073709551616) (hj : j < 8) : part d j ≤ 72057594037927935 := by
  unfold part
  have h1 : 256 ^ 1 ≤ 256 ^ (8 - j) := Nat.pow_le_pow_right (by omega) (by omega)
  have h2 : d / 256 ^ (8 - j) ≤ d / 256 ^ 1 := Nat.div_le_div_left h1 (by decide)
  rw [Nat.pow_one] at h2
  omega
end Ig
def RLoadPost (w : World) (m : Ig.M) (e : Ending) (w' : World) : Prop :=
  ∃ g vr vd, e = .returned (.tuple #[.pointer (some ⟨g, 0, none⟩), .int .i64 0]) ∧ RMach w' w.heap.size g m vr (.slice none 0 0) vd (.slice none 0 0) ∧ Below w.heap.size w w'
set_option maxRecDepth 100000 in
set_option maxHeartbeats 4000000 in
theorem rload_mach {m : Ig.M} (hI : Ig.Inv m) (hf : Ig.Fit m) (h8 : m.at_ % 8 = 0) (s : ByteArray) (hl : s.data.toList = Ig.snapL m) (w : World) :
    Calls Tryz.prog 16 #[.string s] w (RLoadPost w ⟨m.at_, m.rows, [], m.digs, []⟩) := by
  obtain ⟨T, p1, p2, p3, hS⟩ := Ig.snap_at hI hf s hl
  have hsm := hS.sm
  have hts := hS.ts
  have hsz := hS.sz
  have hn5 : m.digs.length ≤ 512 := by have := hI.dl; have := hI.at1; omega
  have hdl : m.at_ = 8 * (m.digs.length : Int) := by have := hI.dl; omega
  have Hdg := Lib.hid (fun k hk j hj => hS.dg k hk j hj)
  have Hdr := Lib.hid hI.dr
  have K1 := fun W => Lib.hid (rgetNum_any s 0 W (by omega) (by omega))
  have hb1 := hS.b1
  have hb2 := hS.b2
  have K2 := fun W => Lib.hid (rgetText_any s (p1 : Int) (s.size : Int) W (by omega) (by omega) (by omega))
  have K3 := fun W => Lib.hid (rseget_any T W (by omega))
  have K4 := fun W => Lib.hid (rgetNum_any s (p2 : Int) W (by omega) (by omega))
  have hp3 : p3 ≤ s.size := by omega
  rw [hS.g1] at K1
  rw [hS.g2] at K2
  rw [hS.g3] at K3
  rw [hS.g4] at K4
  unfold gnV at K1 K4
  unfold gtV at K2
  unfold SGetPost at K3
  simp only at K1 K2 K3 K4
  have g4 : decide (((s.size : Int) - (p3 : Int)) / 8 < (m.digs.length : Int)) = false := decide_eq_false (by omega)
  have g5 : ((s.size : Int) - (p3 : Int) != 8 * (m.digs.length : Int)) = false := by rw [show (s.size : Int) - (p3 : Int) = 8 * (m.digs.length : Int) from by omega]; simp
  have g6 : (0 : Int) ≤ (s.size : Int) - (p3 : Int) := by omega
  have Hsz := Lib.hid hsz
  clear hS hI hf h8 hl hsz hb1 hb2
  obtain ⟨at_, rows, opn, digs, seals⟩ := m
  simp only at hdl hn5 Hdg Hdr K1 K3 K4 g4 g5 Hsz
  subst hdl
  have g1 : decide (8 * (digs.length : Int) < 0) = false := decide_eq_false (by omega)
  have g2 : ((8 * (digs.length : Int)) % 8 != 0) = false := by simp
  have g3 : ((digs.length : Int) != (8 * (digs.length : Int)) / 8) = false := by simp
  go_enter Tryz.func16, Tryz.ntmps16
  go_wp2_with fail
  refine (K1 _).out.mono ?_
  rintro e w' ⟨rfl, rfl⟩
  go_wp2_with fail
  refine (K2 _).out.mono ?_
  rintro e w' ⟨rfl, rfl⟩
  go_wp2_with fail
  refine (K3 _).out.mono ?_
  rintro e w1 ⟨v1, rfl, hown1, hb1⟩
  obtain ⟨A1, c1, rfl, _, _⟩ := own_slice hown1
  have Hown1 := Lib.hid hown1
  have Hb1 := Lib.hid hb1
  clear hown1 hb1
  go_wp2_with fail
  refine (K4 _).out.mono ?_
  rintro e w' ⟨rfl, rfl⟩
  have HM2 : Hid (RMach (w1.alloc (.cells #[.int .i64 (8 * (digs.length : Int)), .slice A1 rows.length c1, .slice none 0 0, .slice none 0 0, .slice none 0 0] 31)) w.heap.size w1.heap.size ⟨(8 * (digs.length : Int)), rows, [], [], []⟩ (.slice A1 rows.length c1) (.slice none 0 0) (.slice none 0 0) (.slice none 0 0)) :=
    ⟨Blk.new w1 _ _, Hb1.out.size, Hown1.out.alloc _, own_nil _ _ _ _, own_nil _ _ _ _, own_nil _ _ _ _⟩
  have Hb2 : Hid (Below w.heap.size w (w1.alloc (.cells #[.int .i64 (8 * (digs.length : Int)), .slice A1 rows.length c1, .slice none 0 0, .slice none 0 0, .slice none 0 0] 31))) := Hb1.out.alloc Hb1.out.size _
  clear K1 K2 K3 K4 Hown1
  obtain ⟨i1, hi1, hy0, hy1, hy2⟩ := info_parts info_cloneD
  go_wp2_with fail
  have hs2 : w1.heap.size < (w1.alloc (.cells #[.int .i64 (8 * (digs.length : Int)), .slice A1 rows.length c1, .slice none 0 0, .slice none 0 0, .slice none 0 0] 31)).heap.size := by simp
  generalize w1.alloc (.cells #[.int .i64 (8 * (digs.length : Int)), .slice A1 rows.length c1, .slice none 0 0, .slice none 0 0, .slice none 0 0] 31) = w2 at *
  have Hs1 := Lib.hid Hb1.out.size
  generalize w1.heap.size = g at *
  clear Hb1 g1 g2 g3 g4 g5 g6
  go_loopw [16, 17, 18] (fun i _ _ wr => ∃ (k : Nat) (vd : Value), k ≤ digs.length ∧ i = .int .i64 (k : Int) ∧ Hid (RMach wr w.heap.size g ⟨8 * (digs.length : Int), rows, [], digs.take k, []⟩ (.slice A1 rows.length c1) (.slice none 0 0) vd (.slice none 0 0)) ∧ Hid (Below w.heap.size w wr)) (fun i _ _ _ => digs.length - (intOf i).toNat)
  case atStart => exact ⟨0, _, Nat.zero_le _, rfl, HM2, Hb2⟩
  case round =>
    obtain ⟨k, vd, hk, rfl, hM, hbr⟩ := hrel
    by_cases hlt : k < digs.length
    · obtain ⟨Wo, hWo⟩ : ∃ Wo, Wo = wr := ⟨_, rfl⟩
      subst hWo
      have Hd := Lib.hid (fun j hj => Hdg.out k hlt j hj)
      have hdr := Hdr.out _ (List.getElem_mem hlt)
      have hlk : (digs.take k).length = k := by rw [List.length_take]; omega
      have hsn : digs.take (k + 1) = digs.take k ++ [digs[k]] := List.take_succ_eq_append_getElem hlt
      have Hlk := Lib.hid hlk
      have Hsn := Lib.hid hsn
      obtain ⟨dN, hdN⟩ : ∃ dN : Nat, digs[k].toNat = dN := ⟨_, rfl⟩
      have HdI : Hid (digs[k] = (dN : Int)) := by show _ = _; omega
      have hdlt : dN < 18446744073709551616 := by omega
      rw [hdN] at Hd
      clear Hdg Hdr hlk hsn hdr hdN HM2 Hb2
      have Hdlt := Lib.hid hdlt
      clear hdlt
      go_wp2_with fail
      go_loopw [17, 18] (fun x j w' => ∃ jj : Nat, jj ≤ 8 ∧ j = .int .i64 (jj : Int) ∧ x = .int .u64 (Ig.part dN jj : Int) ∧ Wo = w') (fun _ j _ => 8 - (intOf j).toNat)
      case atStart => exact ⟨0, by omega, rfl, by rw [Ig.part_zero dN Hdlt.out]; rfl, rfl⟩
      case round =>
        obtain ⟨jj, hj, rfl, rfl, rfl⟩ := hrel
        by_cases hj8 : jj < 8
        · have hin : p3 + 8 * k + jj < s.size := by have := Hsz.out; omega
          have hb := Hd.out jj hj8
          have hbe : s[p3 + 8 * k + jj] = Sg.tailAt dN jj := by
            have h2 : s.data.toList[p3 + 8 * k + jj]? = some s[p3 + 8 * k + jj] := by
              rw [List.getElem?_eq_getElem (by simpa using hin)]; rfl
            rw [h2] at hb
            injection hb
          have hst := Ig.part_step dN jj hj8
          rw [← hbe] at hst
          have hpl := Ig.part_lt dN jj Hdlt.out hj8
          have hcb := s[p3 + 8 * k + jj].toNat_lt
          have Hst : Hid ((Ig.part dN (jj + 1) : Int) = (Ig.part dN jj : Int) * 256 + (s[p3 + 8 * k + jj].toNat : Int)) := by show _ = _; rw [hst]; omega
          clear hb hbe hst
          generalize Ig.part dN jj = X at *
          generalize hmm : p3 + 8 * k + jj = mm at *
          have hidx : (p3 : Int) + 8 * (k : Int) + (jj : Int) = (mm : Int) := by omega
          clear hmm Hd hM hbr
          go_wp2_with fail
          go_roundw
          case rel => exact ⟨jj + 1, by omega, by go_num, by rw [Hst.out], by first | rfl | trivial⟩
          case measure => simp [intOf]; omega
        · obtain rfl : jj = 8 := by omega
          rw [Ig.part_eight]
          obtain ⟨c0, c1', c2, c3, c4⟩ := hM.out.cells
          simp only at c0
          have f3 := hM.out.blk.frozen 3
          have hba := hbr.out.size
          have hD : Hid (Wo.ownsRow w.heap.size 56 1 vd k ((digs.take k).flatMap digCells)) := by
            have := hM.out.digs
            rw [Hlk.out] at this
            exact this
          clear Hd
          go_wp2_with (at_builtin; refine wpList_push_only Wo rfl _ _ 28 rfl w.heap.size 56 i1 _ 1 8 Tryz.underlying28 hi1 hy0 hy1 hy2 rfl (by decide) _ k _ (by rfl) hD.out [.int .u64 (dN : Int)] (by rfl) rfl (by simp [Value.oneCell']) (by unfold maxLen; omega) (by omega) hba ?_; intro v7 w7 hown7 ho7 hg7; obtain ⟨A7, c7, rfl, hnc7, _⟩ := own_slice hown7; have hm7 := hM.out.blk.only ho7 (fun q => hM.out.apart hM.out.digs (by decide) g q rfl); have t3 := hm7.cell 3; have f37 := hm7.frozen 3)
          have HM8 := Lib.hid (hM.out.setDigs ho7 (D := digs.take (k + 1)) (by rw [Hsn.out, HdI.out, digs_snoc, List.length_append, Hlk.out]; exact hown7))
          have Hb8 : Hid (Below w.heap.size w (w7.setCell ⟨g, 3, none⟩ (.slice A7 (k + 1) c7))) := (hbr.out.trans (ho7.below (fun j hj q => by have := (own_lt hM.out.digs q).1; omega) hba)).setCell (by exact Hs1.out) _
          clear c0 c1' c2 c3 c4 f3 hm7 t3 f37 ho7 hown7 hg7 hM hbr
          go_wp2_with fail
          go_roundw
          case rel => exact ⟨k + 1, _, by omega, by go_num, HM8, Hb8⟩
          case measure => simp [intOf]; omega
    · have HMf : Hid (RMach wr w.heap.size g ⟨8 * (digs.length : Int), rows, [], digs, []⟩ (.slice A1 rows.length c1) (.slice none 0 0) vd (.slice none 0 0)) := by
        have := hM.out
        rw [List.take_of_length_le (by omega)] at this
        exact this
      clear hM Hdg Hdr HM2 Hb2
      go_wp2_with fail
      go_ret2
      exact ⟨_, _, _, rfl, HMf.out, hbr.out⟩
end Go.Proofs.YtmnigoibbcigdaaGreat
/- The walks through LendEntries and KeptEntries at one entry. -/
namespace Go.Proofs.YtmnigoibbcigdaaGreat
open Go.RowKit
set_option linter.unusedVariables false

theorem info_entry : (Tryz.prog.info? 36).map (fun i => (i.zero, i.size, i.bytes)) = some (some (.agg #[.int .i64 0, .int .i64 0, .int .i64 0, .int .i64 0, .slice none 0 0]), 5, 56) := by kernel_rfl
def entRow0 : Array Value := #[.int .i64 0, .int .i64 0, .int .i64 0, .int .i64 0, .slice none 0 0, .int .i64 0, .int .i64 0, .int .i64 0, .int .i64 0, .slice none 0 0]
theorem ent_make : ∀ w : World, (Instr.makeSlice 22 (.int .i64 0) (.int .i64 2)).run Tryz.prog w = .ok (.slice (some ⟨w.heap.size, 0, none⟩) 0 2) (w.alloc (.cells entRow0 36)) := by
  intro w; kernel_rfl
theorem ent_own0 (w : World) : (w.alloc (.cells entRow0 36)).ownsRow w.heap.size 36 5 (.slice (some ⟨w.heap.size, 0, none⟩) 0 2) 0 [] :=
  ⟨by simp, .inr ⟨w.heap.size, 2, entRow0, rfl, Nat.le_refl _, heap_alloc_new w _, by omega, by unfold maxLen; omega, by decide, by simp⟩⟩
def roomEnt : List Value := [.int .i64 77777, .int .i64 0, .int .i64 0, .int .i64 0, .slice none 0 0]
/-- a lent entry: a row of two, the second marked; its batch with marked room -/
structure Lent (w0 w : World) (q : Ent) (g cp gb cap : Nat) : Prop where
  row : w.ownsRow w0.heap.size 36 5 (.slice (some ⟨g, 0, none⟩) 2 cp) 2 (entCells (q.1, (some ⟨gb, 0, none⟩, (cap, q.2.2.2))) ++ roomEnt)
  bat : w.ownsRow w0.heap.size 66 3 (.slice (some ⟨gb, 0, none⟩) (q.2.2.2.length + 2) cap) (q.2.2.2.length + 2) (q.2.2.2.flatMap pointCells ++ roomPoints)
  room : q.2.2.2.length + 2 ≤ cap
def LendPost (w : World) (q : Ent) (e : Ending) (w' : World) : Prop :=
  ∃ g cp gb cap, e = .returned (.slice (some ⟨g, 0, none⟩) 1 cp) ∧ Lent w w' q g cp gb cap ∧ Below w.heap.size w w'
/-- the loop of LendEntries: before and behind its one round -/
def LendAt (w w1 : World) (q : Ent) (v i : Value) (wr : World) : Prop :=
  (i = .int .i64 0 ∧ v = .slice (some ⟨w.heap.size, 0, none⟩) 0 2 ∧ wr = w1) ∨
  (i = .int .i64 1 ∧ ∃ A cp gb cap, v = .slice A 1 cp ∧ 1 ≤ cp ∧ wr.ownsRow w.heap.size 36 5 (.slice A 1 cp) 1 (entCells (q.1, (some ⟨gb, 0, none⟩, (cap, q.2.2.2)))) ∧
    wr.ownsRow w.heap.size 66 3 (.slice (some ⟨gb, 0, none⟩) (q.2.2.2.length + 2) cap) (q.2.2.2.length + 2) (q.2.2.2.flatMap pointCells ++ roomPoints) ∧ q.2.2.2.length + 2 ≤ cap ∧ Below w.heap.size w wr)
set_option maxRecDepth 100000 in
set_option maxHeartbeats 1000000 in
theorem lendEntries_one (A : Option Addr) (c : Nat) (q : Ent) (w : World) (B : Nat) (hr : Reads w B 5 A 1 (entCells q)) (hp : Reads w B 3 q.2.1 q.2.2.2.length (q.2.2.2.flatMap pointCells)) (hB : B ≤ w.heap.size) (hn : q.2.2.2.length * 32 ≤ 140737488351232) :
    Calls Tryz.prog 5 #[.slice A 1 c] w (LendPost w q) := by
  obtain ⟨i0, hi, hz0, hz1, hz2⟩ := info_parts info_entry
  have hmk := ent_make
  have HOwn := Lib.hid (ent_own0 w)
  have HLP := fun W (hb : Below w.heap.size w W) => Lib.hid (lendPoints_any q.2.1 q.2.2.1 q.2.2.2 W B (hp.below (hb.mono hB)) (by have := hb.size; omega) hn)
  obtain ⟨b, off, rfl, hbB, hc⟩ := hr.2 (by omega)
  have x0 := hc 0 _ rfl
  have x1 := hc 1 _ rfl
  have x2 := hc 2 _ rfl
  have x3 := hc 3 _ rfl
  have x4 := hc 4 _ rfl
  have hbw : b < w.heap.size := by omega
  have HX : Hid (∀ W, Below w.heap.size w W → W.cell? ⟨b, off, none⟩ = some (.int .i64 q.1.1) ∧ W.cell? ⟨b, off + 1, none⟩ = some (.int .i64 q.1.2.1) ∧ W.cell? ⟨b, off + 2, none⟩ = some (.int .i64 q.1.2.2.1) ∧ W.cell? ⟨b, off + 3, none⟩ = some (.int .i64 q.1.2.2.2) ∧ W.cell? ⟨b, off + 4, none⟩ = some (.slice q.2.1 q.2.2.2.length q.2.2.1)) := fun W hb =>
    ⟨(hb.cell (p := ⟨b, off, none⟩) hbw).trans x0, (hb.cell (p := ⟨b, off + 1, none⟩) hbw).trans x1, (hb.cell (p := ⟨b, off + 2, none⟩) hbw).trans x2, (hb.cell (p := ⟨b, off + 3, none⟩) hbw).trans x3, (hb.cell (p := ⟨b, off + 4, none⟩) hbw).trans x4⟩
  have Hb1 : Hid (Below w.heap.size w (w.alloc (.cells entRow0 36))) := (Below.refl _ _).alloc (Nat.le_refl _) _
  clear hr hp hc x0 x1 x2 x3 x4
  go_enter Tryz.func5, Tryz.ntmps5
  go_wp2_with fail
  go_loopw [3, 4, 5] (fun v i _ wr => LendAt w (w.alloc (.cells entRow0 36)) q v i wr) (fun _ i _ _ => 1 - (intOf i).toNat)
  case atStart => exact .inl ⟨rfl, rfl, rfl⟩
  case round =>
    rcases hrel with ⟨rfl, rfl, rfl⟩ | ⟨rfl, Ao, cp, gb, cap, rfl, hcp, hown, hbat, hcap, hbr⟩
    · obtain ⟨y0, y1, y2, y3, y4⟩ := HX.out _ Hb1.out
      generalize hw1 : w.alloc (.cells entRow0 36) = w1 at *
      have hw1s : w1.heap.size = w.heap.size + 1 := by rw [← hw1]; simp
      clear hw1
      have Hb2 : Hid (Below w.heap.size w (w1.alloc (.cells #[.int .i64 q.1.1, .int .i64 q.1.2.1, .int .i64 q.1.2.2.1, .int .i64 q.1.2.2.2, .slice q.2.1 q.2.2.2.length q.2.2.1] 36))) := Hb1.out.alloc (by omega) _
      have HE2 := Lib.hid (Blk.new w1 36 #[.int .i64 q.1.1, .int .i64 q.1.2.1, .int .i64 q.1.2.2.1, .int .i64 q.1.2.2.2, .slice q.2.1 q.2.2.2.length q.2.2.1])
      have HO2 := Lib.hid (HOwn.out.alloc (.cells #[.int .i64 q.1.1, .int .i64 q.1.2.1, .int .i64 q.1.2.2.1, .int .i64 q.1.2.2.2, .slice q.2.1 q.2.2.2.length q.2.2.1] 36))
      have hn1 : ¬ w.heap.size = w1.heap.size := by omega
      have Hn1 := Lib.hid hn1
      have Hw1s : Hid (w.heap.size ≤ w1.heap.size) := by show _ ≤ _; omega
      clear hw1s hn1
      go_wp2_with fail
      refine (HLP _ Hb2.out).out.mono ?_
      rintro e w3 ⟨gb, cap, rfl, hgb, hcap, hcm, hbat, hb3⟩
      have Hb3 : Hid (Below w.heap.size w w3) := Hb2.out.trans (hb3.mono Hb2.out.size)
      have HE3 := Lib.hid (HE2.out.below hb3 HE2.out.lt)
      have HO3 := Lib.hid (own_only HO2.out (Only.new (fun _ => False) hb3) (fun _ _ h => h))
      have Hbat := Lib.hid (own_down hbat Hb2.out.size)
      have e0 := HE3.out.cell 0
      have e1 := HE3.out.cell 1
      have e2 := HE3.out.cell 2
      have e3 := HE3.out.cell 3
      have e4 := HE3.out.cell 4
      have f4 := HE3.out.frozen 4
      simp only [List.getElem?_toArray, List.getElem?_cons_zero, List.getElem?_cons_succ] at e0 e1 e2 e3 e4
      have hne : ∀ k, Value.ownBlock (.slice (some ⟨w.heap.size, 0, none⟩) 0 2) = some k → ¬ k = w1.heap.size := fun k hk e => by
        have h1 : w.heap.size = k := by simpa [Value.ownBlock] using hk
        exact Hn1.out (h1.trans e)
      have only4 : Only (fun k => k = w1.heap.size) w3 (w3.setCell ⟨w1.heap.size, 4, none⟩ (.slice (some ⟨gb, 0, none⟩) q.2.2.2.length cap)) := (Only.refl (fun k => k = w1.heap.size) w3).setCell (p := ⟨w1.heap.size, 4, none⟩) (fun _ => rfl) _
      have HO4 := Lib.hid (own_only HO3.out only4 hne)
      have Hbat4 := Lib.hid (own_only Hbat.out only4 (fun k hk e => by subst e; exact own_blk_ne Hbat.out HE3.out (by decide) hk))
      have Hb4 : Hid (Below w.heap.size w (w3.setCell ⟨w1.heap.size, 4, none⟩ (.slice (some ⟨gb, 0, none⟩) q.2.2.2.length cap))) := Hb3.out.setCell (by exact Hw1s.out) _
      have hs4 : w.heap.size ≤ (w3.setCell ⟨w1.heap.size, 4, none⟩ (.slice (some ⟨gb, 0, none⟩) q.2.2.2.length cap)).heap.size := Hb4.out.size
      have HE4 := Lib.hid (HE3.out.set_ 4 (.slice (some ⟨gb, 0, none⟩) q.2.2.2.length cap))
      clear hb3 hbat Hb2 HE2 HO2 HLP HX y0 y1 y2 y3 y4 hgb hcm hne only4 HO3 Hbat Hb3 hmk HOwn Hb1
      go_upto_region 7 with fail
      generalize w3.setCell ⟨w1.heap.size, 4, none⟩ (.slice (some ⟨gb, 0, none⟩) q.2.2.2.length cap) = w4 at *
      clear e0 e1 e2 e3 e4 f4
      have e0 := HE4.out.cell 0
      have e1 := HE4.out.cell 1
      have e2 := HE4.out.cell 2
      have e3 := HE4.out.cell 3
      have e4 := HE4.out.cell 4
      simp only [List.setIfInBounds_toArray, List.set_cons_zero, List.set_cons_succ, List.getElem?_toArray, List.getElem?_cons_zero, List.getElem?_cons_succ] at e0 e1 e2 e3 e4
      go_wp2_with (at_builtin; refine wpList_push_beside w4 rfl _ _ 22 rfl w.heap.size 36 i0 _ 5 56 Tryz.underlying22 hi hz0 hz1 hz2 rfl (by decide) _ 0 [] (by rfl) HO4.out [.int .i64 q.1.1, .int .i64 q.1.2.1, .int .i64 q.1.2.2.1, .int .i64 q.1.2.2.2, .slice (some ⟨gb, 0, none⟩) q.2.2.2.length cap] (by rfl) rfl (by simp [Value.oneCell']) (by unfold maxLen; omega) (by omega) w Hb4.out hs4 ?_; intro v5 w5 hown5 hb5 hg5; obtain ⟨A5, c5, rfl, hc5, _⟩ := own_slice hown5)
      have Hown5 := Lib.hid hown5
      have Hb5 := Lib.hid hb5
      have Hbat5 := Lib.hid (own_beside Hbat4.out HO4.out (by decide) hg5)
      clear hown5 hb5 hg5 e0 e1 e2 e3 e4
      go_wp2_with fail
      go_roundw
      case rel => exact .inr ⟨by go_num, A5, c5, gb, cap, rfl, by omega, Hown5.out, Hbat5.out, hcap, Hb5.out⟩
      case measure => simp [intOf]
    · have Hown := Lib.hid hown
      have Hbat := Lib.hid hbat
      have Hbr := Lib.hid hbr
      have hsr := hbr.size
      clear hown hbat hbr HX HLP HOwn Hb1 hmk
      go_wp2_with (at_builtin; refine wpList_push_beside wr rfl _ _ 22 rfl w.heap.size 36 i0 _ 5 56 Tryz.underlying22 hi hz0 hz1 hz2 rfl (by decide) _ 1 _ (by rfl) Hown.out [.int .i64 77777, .int .i64 0, .int .i64 0, .int .i64 0, .slice none 0 0] (by rfl) rfl (by simp [Value.oneCell']) (by unfold maxLen; omega) (by omega) w Hbr.out hsr ?_; intro v5 w5 hown5 hb5 hg5; obtain ⟨g5, c5, rfl, _, _⟩ := hown5.form (by omega); obtain ⟨hc5, _⟩ := own_cap hown5; have hc51 : 1 ≤ c5 := by omega)
      go_ret
      exact ⟨g5, c5, gb, cap, rfl, ⟨hown5, own_beside Hbat.out Hown.out (by decide) hg5, hcap⟩, hb5⟩

/-- two entries in boxes of their own, in either order -/
theorem two_ents {w2 wr : World} {X Y : Array Value} (hb : Below w2.heap.size w2 wr) (hs : w2.heap.size ≤ wr.heap.size) :
    Blk ((wr.alloc (.cells X 36)).alloc (.cells Y 36)).drew wr.heap.size 36 X ∧ Blk ((wr.alloc (.cells X 36)).alloc (.cells Y 36)).drew (wr.heap.size + 1) 36 Y ∧
     Hid (Below w2.heap.size w2 ((wr.alloc (.cells X 36)).alloc (.cells Y 36)).drew) := by
  have e : (wr.alloc (.cells X 36)).heap.size = wr.heap.size + 1 := by simp
  have h2 := (Blk.new (wr.alloc (.cells X 36)) 36 Y).drew
  rw [e] at h2
  exact ⟨((Blk.new wr 36 X).alloc (.cells Y 36)).drew, h2, Lib.hid ((hb.alloc hs _).alloc (by rw [e]; omega) _).drew⟩
set_option maxRecDepth 100000 in
set_option maxHeartbeats 2000000 in
theorem keptEntries_one (A : Option Addr) (c g cp gb cap : Nat) (q : Ent) (w : World) (B : Nat) (hx : Reads w w.heap.size 5 (some ⟨g, 0, none⟩) 2 (entCells (q.1, (some ⟨gb, 0, none⟩, (cap, q.2.2.2))) ++ roomEnt)) (hcp : 2 ≤ cp) (hy : Reads w w.heap.size 3 (some ⟨gb, 0, none⟩) (q.2.2.2.length + 2) (q.2.2.2.flatMap pointCells ++ roomPoints)) (hcap : q.2.2.2.length + 2 ≤ cap) (hr : Reads w w.heap.size 5 A 1 (entCells q)) (hp : Reads w w.heap.size 3 q.2.1 q.2.2.2.length (q.2.2.2.flatMap pointCells)) (hn : q.2.2.2.length ≤ 140737488355328) :
    Calls Tryz.prog 9 #[.slice (some ⟨g, 0, none⟩) 1 cp, .slice A 1 c] w fun e w' => e = .returned (.bool true) ∧ Below w.heap.size w w' := by
  have HK := fun W (hb : Below w.heap.size w W) => Lib.hid (keptPoints_true q.2.1 gb q.2.2.1 cap q.2.2.2 W w.heap.size w.heap.size (hy.below hb) (hp.below hb) hcap hn)
  obtain ⟨b, off, rfl, hb, hc⟩ := hr.2 (by omega)
  obtain ⟨b', off', hbo, hb', hc'⟩ := hx.2 (by omega)
  obtain ⟨rfl, rfl⟩ : g = b' ∧ 0 = off' := by injection hbo with hbo; injection hbo with h1 h2; exact ⟨h1, h2⟩
  have x0 := hc 0 _ rfl
  have x1 := hc 1 _ rfl
  have x2 := hc 2 _ rfl
  have x3 := hc 3 _ rfl
  have x4 := hc 4 _ rfl
  have z0 := hc' 0 _ rfl
  have z1 := hc' 1 _ rfl
  have z2 := hc' 2 _ rfl
  have z3 := hc' 3 _ rfl
  have z4 := hc' 4 _ rfl
  have z5 := hc' 5 _ rfl
  rw [Nat.zero_add] at z0 z1 z2 z3 z4 z5
  rw [Nat.add_zero] at x0
  simp only at z0 z1 z2 z3 z4
  have HF := two_ents (X := #[.int .i64 q.1.1, .int .i64 q.1.2.1, .int .i64 q.1.2.2.1, .int .i64 q.1.2.2.2, .slice (some ⟨gb, 0, none⟩) q.2.2.2.length cap]) (Y := #[.int .i64 q.1.1, .int .i64 q.1.2.1, .int .i64 q.1.2.2.1, .int .i64 q.1.2.2.2, .slice q.2.1 q.2.2.2.length q.2.2.1]) (Below.refl w.heap.size w) (Nat.le_refl _)
  have HG := two_ents (Y := #[.int .i64 q.1.1, .int .i64 q.1.2.1, .int .i64 q.1.2.2.1, .int .i64 q.1.2.2.2, .slice (some ⟨gb, 0, none⟩) q.2.2.2.length cap]) (X := #[.int .i64 q.1.1, .int .i64 q.1.2.1, .int .i64 q.1.2.2.1, .int .i64 q.1.2.2.2, .slice q.2.1 q.2.2.2.length q.2.2.1]) (Below.refl w.heap.size w) (Nat.le_refl _)
  have FA := Lib.hid HF
  have FB := Lib.hid HG
  have n0 : (q.1.1 != q.1.1) = false := by simp
  have n1 : (q.1.2.1 != q.1.2.1) = false := by simp
  have n2 : (q.1.2.2.1 != q.1.2.2.1) = false := by simp
  have n3 : (q.1.2.2.2 != q.1.2.2.2) = false := by simp
  clear hx hy hr hp hc hc' hbo HF HG
  go_enter Tryz.func9, Tryz.ntmps9
  go_wp2_with fail
  go_loopw [5, 6, 7] (fun i _ _ wr => (i = .int .i64 0 ∧ w = wr) ∨ (i = .int .i64 1 ∧ Hid (Below w.heap.size w wr))) (fun i _ _ _ => 1 - (intOf i).toNat)
  case atStart => exact .inl ⟨rfl, rfl⟩
  case round =>
    rcases hrel with ⟨rfl, rfl⟩ | ⟨rfl, hbr⟩
    · go_wp2_with fail
      go_region
      all_goals
        generalize hW : World.drew _ = w3
        first
          | (have F := FA.out; rw [hW] at F; obtain ⟨HBx, HBy, Hb3⟩ := F)
          | (have F := FB.out; rw [hW] at F; obtain ⟨HBy, HBx, Hb3⟩ := F)
        have u0 := HBx.cell 0
        have u1 := HBx.cell 1
        have u2 := HBx.cell 2
        have u3 := HBx.cell 3
        have u4 := HBx.cell 4
        have v0 := HBy.cell 0
        have v1 := HBy.cell 1
        have v2 := HBy.cell 2
        have v3 := HBy.cell 3
        have v4 := HBy.cell 4
        simp only [List.getElem?_toArray, List.getElem?_cons_zero, List.getElem?_cons_succ] at u0 u1 u2 u3 u4 v0 v1 v2 v3 v4
        have HK3 := Lib.hid (HK w3 Hb3.out).out
        clear HK FA FB HBx HBy hW x0 x1 x2 x3 x4 z0 z1 z2 z3 z4 z5
        go_wp2_with fail
        refine HK3.out.mono ?_
        rintro e w4 ⟨rfl, n, rfl⟩
        have Hb4 : Hid (Below w.heap.size w (w3.drewN n)) := below_drewN Hb3.out n
        clear HK3
        go_wp2_with fail
        go_roundw
        case rel => exact .inr ⟨by go_num, Hb4⟩
        case measure => simp [intOf]
    · clear HK FA FB
      go_wp2_with fail
      go_ret
      exact ⟨rfl, hbr.out⟩
end Go.Proofs.YtmnigoibbcigdaaGreat
