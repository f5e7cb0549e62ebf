/- The walk through the reference's Put (chapter 10). -/
import Derived.Test.YtllbjegnjjeaeaaSePut
import Derived.Test.YtllbjegnjjeaeaaAft
namespace Go.Proofs.Ytllbjegnjjeaeaa
open Go.RowKit
set_option linter.unusedVariables false

theorem row_bytes (a0 a1 a2 a3 : Int) : (Wr.putB a0 ++ Wr.putB a1 ++ Wr.putB a2 ++ Wr.putB a3).data.toList = Se.rowL (a0, a1, a2, a3) := by
  rw [Wr.append_list, Wr.append_list, Wr.append_list, Wr.putB_list, Wr.putB_list, Wr.putB_list, Wr.putB_list]; rfl
theorem fit_four {a0 a1 a2 a3 : Int} (h0 : Wr.isNum a0 = true) (h1 : Wr.isNum a1 = true) (h2 : Wr.isNum a2 = true) (h3 : Wr.isNum a3 = true) : Se.fitsB (a0, a1, a2, a3) = true := by
  unfold Se.fitsB; rw [h0, h1, h2, h3]; rfl
theorem fit_no {a0 a1 a2 a3 : Int} (h : Wr.isNum a0 = false ∨ Wr.isNum a1 = false ∨ Wr.isNum a2 = false ∨ Wr.isNum a3 = false) : Se.fitsB (a0, a1, a2, a3) = false := by
  unfold Se.fitsB; rcases h with h | h | h | h <;> rw [h] <;> simp
theorem putB8 (x : Int) : (Wr.putB x).size ≤ 8 := by rw [Wr.putB_size]; exact Wr.putL_len x
set_option maxRecDepth 100000 in
set_option maxHeartbeats 2000000 in
theorem rseput_any (A : Option Addr) (c : Nat) (ps : List Se.Row) (w : World) (B : Nat) (hr : Reads w B 4 A ps.length (ps.flatMap rowCells)) (hB : B ≤ w.heap.size) (hn : ps.length ≤ 140737488355328) :
    Calls Try.prog 18 #[.slice A ps.length c] w (PutPost w (Se.putR ps)) := by
  have HM := Lib.hid (rtable_any A c ps w B hr hn)
  have HOk := Lib.hid (fun h1 h2 => @Se.put_ok ps h1 h2)
  have HNo := Lib.hid (@Se.put_no ps)
  generalize Se.putR ps = res at *
  cases hm : Se.mayB ps
  · rw [hm] at HM
    have Hres := Lib.hid (HNo.out (.inl hm))
    clear hr hm HOk HNo
    go_enter Try.func18, Try.ntmps18
    go_wp2_with fail
    refine HM.out.mono ?_
    rintro e w1 ⟨rfl, n1, rfl⟩
    go_wp2_with fail
    go_ret2
    exact ⟨by rw [Hres.out]; rfl, below_drewN (Below.refl _ _) _⟩
  · rw [hm] at HM
    have h4 := Se.may_len hm
    have HRd := Lib.hid hr
    have HOk' := Lib.hid (fun h => HOk.out hm h)
    have HNo' := Lib.hid (fun h => HNo.out (.inr h))
    have HPN := fun W => Lib.hid (rnum_any (ps.length : Int) W (by omega))
    have HPL := Lib.hid (Wr.putB_list (ps.length : Int))
    have hpn := putB8 (ps.length : Int)
    clear hr hm HOk HNo
    go_enter Try.func18, Try.ntmps18
    go_wp2_with fail
    refine HM.out.mono ?_
    rintro e w1' ⟨rfl, n1, rfl⟩
    have Hb0 : Hid (Below w.heap.size w (w.drewN n1)) := below_drewN (Below.refl _ _) _
    generalize w.drewN n1 = w0 at *
    have hs0 := Hb0.out.size
    go_wp2_with fail
    refine (HPN _).out.mono ?_
    rintro e w1 ⟨rfl, hb1⟩
    have Hb1 : Hid (Below w.heap.size w w1) := Hb0.out.trans (hb1.mono hs0)
    clear hb1 HPN
    generalize Wr.putB (ps.length : Int) = PB at *
    go_wp2_with fail
    go_loopw [4, 5, 6] (fun s i _ wr => ∃ (k : Nat) (S : ByteArray), k ≤ ps.length ∧ i = .int .i64 (k : Int) ∧ s = .string S ∧ Hid (S.data.toList = Wr.putL (ps.length : Int) ++ (ps.take k).flatMap Se.rowL) ∧ S.size ≤ 8 + 32 * k ∧ Hid ((ps.take k).all Se.fitsB = true) ∧ Hid (Below w.heap.size w wr)) (fun _ i _ _ => ps.length - (intOf i).toNat)
    case atStart => exact ⟨0, PB, Nat.zero_le _, rfl, rfl, Lib.hid (by rw [HPL.out]; simp), by omega, Lib.hid (by simp), Hb1⟩
    case round =>
      obtain ⟨k, S, hk, rfl, rfl, hS, hSs, hfa, hbw⟩ := hrel
      have hsw := hbw.out.size
      by_cases hlt : k < ps.length
      · obtain ⟨bb, off, rfl, hbb, hc⟩ := HRd.out.2 (by omega)
        obtain ⟨hc0, hc1, hc2, hc3⟩ := row_cells (wr := wr) hlt hc (fun p hp => hbw.out.cell (p := p) (by omega)) hbb
        have HSt := Lib.hid (fun h => HNo'.out (all_stop hlt h))
        have HGo := Lib.hid (fun h => all_step hlt hfa.out h)
        have Hsn : Hid ((ps.take (k + 1)).flatMap Se.rowL = (ps.take k).flatMap Se.rowL ++ Se.rowL ps[k]) := by
          show _ = _; rw [List.take_succ_eq_append_getElem hlt, List.flatMap_append]; simp
        clear hc hfa
        generalize ps[k] = r at *
        obtain ⟨a0, a1, a2, a3⟩ := r
        simp only at hc0 hc1 hc2 hc3
        have N0 := fun W => Lib.hid (number_any a0 W)
        have N1 := fun W => Lib.hid (number_any a1 W)
        have N2 := fun W => Lib.hid (number_any a2 W)
        have N3 := fun W => Lib.hid (number_any a3 W)
        go_wp2_with fail
        have hP := Blk.new wr 49 #[.int .i64 a0, .int .i64 a1, .int .i64 a2, .int .i64 a3]
        have hb5 : Below w.heap.size w (wr.alloc (.cells #[.int .i64 a0, .int .i64 a1, .int .i64 a2, .int .i64 a3] 49)) := hbw.out.alloc hsw _
        have HP := Lib.hid hP
        have Hb5 := Lib.hid hb5
        have hh5 : w.heap.size ≤ wr.heap.size := hsw
        clear hP hb5 hc0 hc1 hc2 hc3
        generalize wr.alloc (.cells #[.int .i64 a0, .int .i64 a1, .int .i64 a2, .int .i64 a3] 49) = w5 at *
        generalize wr.heap.size = h at *
        have r0 := HP.out.cell 0
        have r1 := HP.out.cell 1
        have r2 := HP.out.cell 2
        have r3 := HP.out.cell 3
        simp only [List.getElem?_toArray, List.getElem?_cons_zero, List.getElem?_cons_succ] at r0 r1 r2 r3
        refine (N0 _).out.mono ?_
        rintro e w' ⟨rfl, rfl⟩
        cases i0 : Wr.isNum a0
        · have Hres := Lib.hid (HSt.out (fit_no (.inl i0)))
          go_wp2_with fail
          go_ret2
          exact ⟨by rw [Hres.out]; rfl, Hb5.out⟩
        · go_wp2_with fail
          refine (N1 _).out.mono ?_
          rintro e w' ⟨rfl, rfl⟩
          cases i1 : Wr.isNum a1
          · have Hres := Lib.hid (HSt.out (fit_no (.inr (.inl i1))))
            go_wp2_with fail
            go_ret2
            exact ⟨by rw [Hres.out]; rfl, Hb5.out⟩
          · go_wp2_with fail
            refine (N2 _).out.mono ?_
            rintro e w' ⟨rfl, rfl⟩
            cases i2 : Wr.isNum a2
            · have Hres := Lib.hid (HSt.out (fit_no (.inr (.inr (.inl i2)))))
              go_wp2_with fail
              go_ret2
              exact ⟨by rw [Hres.out]; rfl, Hb5.out⟩
            · go_wp2_with fail
              refine (N3 _).out.mono ?_
              rintro e w' ⟨rfl, rfl⟩
              cases i3 : Wr.isNum a3
              · have Hres := Lib.hid (HSt.out (fit_no (.inr (.inr (.inr i3)))))
                go_wp2_with fail
                go_ret2
                exact ⟨by rw [Hres.out]; rfl, Hb5.out⟩
              · have HG := Lib.hid (HGo.out (fit_four i0 i1 i2 i3))
                have b0 := (Wr.isNum_iff a0).1 i0
                have b1 := (Wr.isNum_iff a1).1 i1
                have b2 := (Wr.isNum_iff a2).1 i2
                have b3 := (Wr.isNum_iff a3).1 i3
                have P0 := fun W => Lib.hid (rnum_any a0 W (by omega))
                have P1 := fun W => Lib.hid (rnum_any a1 W (by omega))
                have P2 := fun W => Lib.hid (rnum_any a2 W (by omega))
                have P3 := fun W => Lib.hid (rnum_any a3 W (by omega))
                have s0 := putB8 a0
                have s1 := putB8 a1
                have s2 := putB8 a2
                have s3 := putB8 a3
                have Hone := Lib.hid (row_bytes a0 a1 a2 a3)
                clear i0 i1 i2 i3 HSt HGo N0 N1 N2 N3 r0 r1 r2 r3
                have hx := fun x : Aft w5.heap.size w5 => Blk.below HP.out x.below HP.out.lt
                have x0 := fun x => (hx x).cell 0
                have x1 := fun x => (hx x).cell 1
                have x2 := fun x => (hx x).cell 2
                have x3 := fun x => (hx x).cell 3
                simp only [List.getElem?_toArray, List.getElem?_cons_zero, List.getElem?_cons_succ] at x0 x1 x2 x3
                clear hx
                generalize Wr.putB a0 = T0 at *
                generalize Wr.putB a1 = T1 at *
                generalize Wr.putB a2 = T2 at *
                generalize Wr.putB a3 = T3 at *
                have q1 : ¬ 9223372036854775807 < S.size + T0.size := by omega
                have q2 : ¬ 9223372036854775807 < S.size + T0.size + T1.size := by omega
                have q3 : ¬ 9223372036854775807 < S.size + T0.size + T1.size + T2.size := by omega
                have q4 : ¬ 9223372036854775807 < S.size + T0.size + T1.size + T2.size + T3.size := by omega
                go_wp2_with fail
                refine wp_region_aft w5.heap.size w5 (by kernel_rfl) (by kernel_rfl) (Below.refl _ _) ?_
                repeat (go_big_quiet_step (first | (go_at_call 37; with_reducible exact aft_new (Nat.le_refl _) (Hid.out (P0 _))) | (go_at_call 37; with_reducible exact aft_new (Nat.le_refl _) (Hid.out (P1 _))) | (go_at_call 37; with_reducible exact aft_new (Nat.le_refl _) (Hid.out (P2 _))) | (go_at_call 37; with_reducible exact aft_new (Nat.le_refl _) (Hid.out (P3 _)))))
                refine wpQuiet_nil ?_
                rintro _ ⟨x, rfl⟩
                have Hx : Hid (Below w.heap.size w x.world) := Hb5.out.trans (x.below.mono Hb5.out.size)
                have HSn : Hid ((S ++ T0 ++ T1 ++ T2 ++ T3).data.toList = Wr.putL (ps.length : Int) ++ (ps.take (k + 1)).flatMap Se.rowL) := by
                  show _ = _
                  have h1 := Hone.out
                  rw [Wr.append_list, Wr.append_list, Wr.append_list] at h1
                  rw [Wr.append_list, Wr.append_list, Wr.append_list, Wr.append_list, hS.out, Hsn.out, ← h1]; simp
                have hSl : (S ++ T0 ++ T1 ++ T2 ++ T3).size ≤ 8 + 32 * (k + 1) := by
                  rw [ByteArray.size_append, ByteArray.size_append, ByteArray.size_append, ByteArray.size_append]; omega
                clear x0 x1 x2 x3
                generalize S ++ T0 ++ T1 ++ T2 ++ T3 = S2 at *
                generalize x.world = wx at *
                go_wp2_with fail
                go_roundw
                case rel => exact ⟨k + 1, S2, by omega, by go_num, rfl, HSn, hSl, HG, Hx⟩
                case measure => simp [intOf]; omega
      · have htk : ps.take k = ps := List.take_of_length_le (by omega)
        rw [htk] at hS hfa
        have Hres : Hid (res = (S, 0)) := by
          show _ = _
          rw [HOk'.out hfa.out]
          congr 1
          apply Wr.ext_list
          rw [hS.out]; rfl
        clear hS hfa htk
        go_wp2_with fail
        go_ret2
        exact ⟨by rw [Hres.out]; rfl, hbw.out⟩
end Go.Proofs.Ytllbjegnjjeaeaa
