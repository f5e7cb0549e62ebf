/- The walk through the reference's Aggregate (chapter 15). -/
import Derived.Test.YthdbmgjlegpbaaaQrAgg
import Derived.Deep.RegionHeld3
namespace Go.Proofs.Ythdbmgjlegpbaaa
open Go.RowKit
set_option linter.unusedVariables false

theorem cell_stay {w : World} {p : Addr} {u : Value} (o : Obj) (h : w.cell? p = some u) : (w.alloc o).cell? p = some u := (World.cell?_alloc_lt w o p (World.block_lt_of_cell? w _ h)).trans h
/-- what the reference's x is behind k rounds -/
def Qr.xK (ps : List Pt.Point) (agg : Int) (k : Nat) : Int := if agg = 3 then min (ps.getD 0 Qr.z0).2.2 (Qr.leastK ps k) else max (ps.getD 0 Qr.z0).2.2 (Qr.mostK ps k)
set_option maxRecDepth 100000 in
set_option maxHeartbeats 2000000 in
theorem raggregate_any (A : Option Addr) (c : Nat) (ps : List Pt.Point) (agg : Int) (w : World) (B : Nat) (hr : Reads w B 3 A ps.length (ps.flatMap pointCells)) (hB : B ≤ w.heap.size) (hn : ps.length ≤ 140737488355328) (hwf : ∀ p ∈ ps, Pt.wf p) :
    Calls Try.prog 30 #[.slice A ps.length c, .int .i64 agg] w (AggPost w (Qr.aggR ps agg)) := by
  have HW := Lib.hid hwf
  have HR := Lib.hid hr
  have HSt := Lib.hid (fun k hk hp => @Qr.all_stop ps k hk hp agg)
  have HF := Lib.hid (@Qr.agg_form ps agg)
  have HC := Lib.hid (@Qr.agg_count ps agg)
  have HN := Lib.hid (@Qr.agg_none ps agg)
  have HP := Lib.hid (@Qr.agg_pick ps agg)
  clear hwf hr
  generalize Qr.aggR ps agg = res at *
  by_cases hform : agg < 0 ∨ 4 < agg ∨ 65536 < ps.length
  · have Hres := Lib.hid (HF.out hform)
    have hc := agg_form_cases hform
    clear HSt HF HC HN HP hform HW HR
    rcases hc with h1 | ⟨h1, h2⟩ | ⟨h1, h2, h3⟩
    all_goals
      go_enter Try.func30, Try.ntmps30
      go_wp2_with fail
      go_ret3
      exact ⟨by rw [Hres.out]; rfl, Below.refl _ _⟩
  · have h0 : ¬ agg < 0 := by omega
    have h4 : ¬ 4 < agg := by omega
    have hl : ¬ (65536 : Int) < (ps.length : Int) := by omega
    have HC' := Lib.hid (HC.out hform)
    have HN' := Lib.hid (HN.out hform)
    have HP' := Lib.hid (HP.out hform)
    clear HF HC HN HP hform
    go_enter Try.func30, Try.ntmps30
    go_wp2_with fail
    go_loopw [7] (fun i wr => ∃ k : Nat, k ≤ ps.length ∧ i = .int .i64 (k : Int) ∧ Hid ((ps.take k).all Qr.okP = true) ∧ w = wr) (fun i _ => ps.length - (intOf i).toNat)
    case atStart => exact ⟨0, Nat.zero_le _, rfl, Lib.hid (by simp), rfl⟩
    case round =>
      obtain ⟨k, hk, rfl, ha, rfl⟩ := hrel
      by_cases hlt : k < ps.length
      · obtain ⟨bb, off, rfl, hbl, hc⟩ := HR.out.2 (by omega)
        obtain ⟨hc0, hc1, hc2⟩ := pt_cells (wr := w) hlt hc (fun p hp => rfl) hbl
        have hSm := fun W => Lib.hid (rsmall_any ps[k].2.2 W)
        have HS := Lib.hid (fun h => HSt.out k hlt h)
        have HGo := Lib.hid (fun h => Qr.all_step hlt ha.out h)
        clear hc HC' HN' HP' HSt
        cases hsm : Pt.smallB ps[k].2.2
        · have Hres := Lib.hid (HS.out hsm)
          rw [hsm] at hSm
          clear HS HGo hsm
          go_wp2_with fail
          refine (hSm _).out.mono ?_
          rintro e w' ⟨rfl, rfl⟩
          go_wp2_with fail
          go_ret3
          exact ⟨by rw [Hres.out]; rfl, Below.refl _ _⟩
        · have HG := Lib.hid (HGo.out hsm)
          rw [hsm] at hSm
          clear HS HGo hsm
          go_wp2_with fail
          refine (hSm _).out.mono ?_
          rintro e w' ⟨rfl, rfl⟩
          go_wp2_with fail
          go_roundw
          case rel => exact ⟨k + 1, by omega, by go_num, HG, trivial⟩
          case measure => simp [intOf]; omega
      · have htk : ps.take k = ps := List.take_of_length_le (by omega)
        rw [htk] at ha
        have HC2 := Lib.hid (HC'.out ha.out)
        have HN2 := Lib.hid (HN'.out ha.out)
        have HP2 := Lib.hid (HP'.out ha.out)
        clear HC' HN' HP' HSt htk
        by_cases h1 : agg = 1
        · have Hres := Lib.hid (HC2.out h1)
          subst h1
          go_wp2_with fail
          go_ret3
          exact ⟨by rw [Hres.out]; rfl, Below.refl _ _⟩
        · have hb1 : (agg == 1) = false := by simp [h1]
          by_cases hz : ps.length = 0
          · have Hres := Lib.hid (HN2.out h1 hz)
            have hbz : ((ps.length : Int) == 0) = true := by simp [hz]
            clear HC2 HN2 HP2 h1
            go_wp2_with fail
            go_ret3
            exact ⟨by rw [Hres.out]; rfl, Below.refl _ _⟩
          · have Hres := Lib.hid (HP2.out h1 hz)
            have hbz : ((ps.length : Int) == 0) = false := beq_eq_false_iff_ne.2 (by omega)
            have hpos : 0 < ps.length := by omega
            obtain ⟨bb, off, rfl, hbl, hc⟩ := HR.out.2 hpos
            have hcs := fun (W : World) (hb : Below w.heap.size w W) (j : Nat) (hj : j < ps.length) => pt_cells (wr := W) hj hc (fun p hp => hb.cell (p := p) (by omega)) hbl
            have Hcs := Lib.hid hcs
            obtain ⟨hc0, hc1, hc2⟩ := hcs w (Below.refl _ _) 0 hpos
            rw [Nat.zero_mul, Nat.add_zero] at hc0 hc1 hc2
            have hlI : (0 : Int) < (ps.length : Int) := by omega
            clear HC2 HN2 HP2 h1 hz hc hcs HR
            have hk0 := cell_stay (.cells #[.string ⟨#[]⟩, .int .i64 0, .int .i64 0] 52) hc0
            have hk1 := cell_stay (.cells #[.string ⟨#[]⟩, .int .i64 0, .int .i64 0] 52) hc1
            have hk2 := cell_stay (.cells #[.string ⟨#[]⟩, .int .i64 0, .int .i64 0] 52) hc2
            go_wp2_with fail
            go_region
            have hP := Blk.new w 52 #[.string ps[0].1, .int .i64 ps[0].2.1, .int .i64 ps[0].2.2]
            have hb1 : Below w.heap.size w (w.alloc (.cells #[.string ps[0].1, .int .i64 ps[0].2.1, .int .i64 ps[0].2.2] 52)).drew := ((Below.refl _ _).alloc (Nat.le_refl _) _).drew
            have HP := Lib.hid (Blk.drew hP)
            have Hb1 := Lib.hid hb1
            have hw0 := (HW.out _ (List.getElem_mem hpos)).2
            have HX0 : Hid (ps[0].2.2 = Qr.xK ps agg 0) := by
              show _ = _
              unfold Qr.xK Qr.leastK Qr.mostK
              rw [Qr.getD_lt hpos]
              split <;> omega
            have HB0 : Hid (ps.getD (Qr.bestK ps 0) Qr.z0 = ps[0]) := Qr.getD_lt hpos
            have HAll : Hid (∀ p ∈ ps, -2147483648 ≤ p.2.2 ∧ p.2.2 ≤ 2147483647) := fun p hp => small_bd (List.all_eq_true.1 ha.out p hp)
            clear hP hb1 hk0 hk1 hk2 hc0 hc1 hc2 ha hw0
            generalize (w.alloc (.cells #[.string ps[0].1, .int .i64 ps[0].2.1, .int .i64 ps[0].2.2] 52)).drew = w1 at *
            obtain ⟨g, hg⟩ : ∃ g, g = w.heap.size := ⟨_, rfl⟩
            rw [← hg] at HP ⊢
            have hgw : w.heap.size ≤ g := by omega
            clear hg
            go_wp2_with fail
            go_loopw [8, 9, 11, 12] (fun vx vs i _ wr => ∃ (k : Nat) (X S : Int) (nb : ByteArray) (tb vb : Int), k ≤ ps.length ∧ i = .int .i64 (k : Int) ∧ vx = .int .i64 X ∧ vs = .int .i64 S ∧ Hid (X = Qr.xK ps agg k) ∧ Hid (S = Qr.sumK ps k) ∧ (-2147483648 * (k : Int) ≤ S ∧ S ≤ 2147483648 * (k : Int)) ∧ Hid (ps.getD (Qr.bestK ps k) Qr.z0 = (nb, tb, vb)) ∧ Hid (Blk wr g 52 #[.string nb, .int .i64 tb, .int .i64 vb]) ∧ Hid (Below w.heap.size w wr)) (fun _ _ i _ _ => ps.length - (intOf i).toNat)
            case atStart => exact ⟨0, _, 0, _, _, _, Nat.zero_le _, rfl, rfl, rfl, HX0, Lib.hid rfl, by omega, HB0, HP, Hb1⟩
            case round =>
              obtain ⟨k, X, S, nb, tb, vb, hk, rfl, rfl, rfl, hX, hS, hSb, hbest, hBk, hbw⟩ := hrel
              obtain ⟨x0, x1, x2⟩ := pt3_of hBk.out
              have f0 := hBk.out.frozen 0
              have f1 := hBk.out.frozen 1
              have f2 := hBk.out.frozen 2
              by_cases hlt : k < ps.length
              · obtain ⟨hc0, hc1, hc2⟩ := Hcs.out wr hbw.out k hlt
                have hvb := HAll.out _ (List.getElem_mem hlt)
                have hgd := Lib.hid (Qr.getD_lt hlt)
                have HSn : Hid (S + ps[k].2.2 = Qr.sumK ps (k + 1)) := by show _ = _; rw [hS.out, Qr.sumK, hgd.out]
                have HX3 : Hid (agg = 3 → min X ps[k].2.2 = Qr.xK ps agg (k + 1)) := fun h => by
                  rw [hX.out]; unfold Qr.xK; rw [if_pos h, if_pos h, Qr.leastK, hgd.out]; omega
                have HX4 : Hid (agg ≠ 3 → max X ps[k].2.2 = Qr.xK ps agg (k + 1)) := fun h => by
                  rw [hX.out]; unfold Qr.xK; rw [if_neg h, if_neg h, Qr.mostK, hgd.out]; omega
                have HY : Hid (tb ≤ ps[k].2.1 → ps.getD (Qr.bestK ps (k + 1)) Qr.z0 = ps[k]) := fun h => by
                  rw [Qr.best_yes (b := Qr.bestK ps k) rfl (by rw [hbest.out, hgd.out]; exact h), hgd.out]
                have HZ : Hid (¬ tb ≤ ps[k].2.1 → ps.getD (Qr.bestK ps (k + 1)) Qr.z0 = (nb, tb, vb)) := fun h => by
                  rw [Qr.best_no (b := Qr.bestK ps k) rfl (by rw [hbest.out, hgd.out]; exact h), hbest.out]
                clear Hcs HAll hgd hX hS hbest HX0 HB0
                generalize ps[k] = p at *
                obtain ⟨nm, t, v⟩ := p
                simp only at hc0 hc1 hc2 hvb HSn HX3 HX4 HY HZ
                have hSn1 : -2147483648 * ((k : Int) + 1) ≤ S + v ∧ S + v ≤ 2147483648 * ((k : Int) + 1) := by omega
                have k0 : (0 : Int) ≤ (k : Int) := by omega
                have k1 : (k : Int) < (ps.length : Int) := by omega
                by_cases h3 : agg = 3
                · have HXn := Lib.hid (HX3.out h3)
                  subst h3
                  by_cases htb : tb ≤ t
                  · have HB := Lib.hid (HY.out htb)
                    clear HX3 HX4 HY HZ
                    go_wp2_with fail
                    all_goals
                      go_quiet (fail)
                      go_wp2_with fail
                      go_roundw
                      case rel => exact ⟨k + 1, _, S + v, nm, t, v, by omega, by go_num, rfl, by go_num, by first | exact HXn | exact Lib.hid (by rw [← HXn.out]; omega), HSn, by omega, HB, Lib.hid (by first | exact ((hBk.out.set_ 0 _).set_ 1 _).set_ 2 _), Lib.hid (((below_drewN hbw.out _).setCell (p := ⟨g, _, none⟩) hgw _).setCell (p := ⟨g, _, none⟩) hgw _ |>.setCell (p := ⟨g, _, none⟩) hgw _)⟩
                      case measure => simp [intOf]; omega
                  · have HB := Lib.hid (HZ.out htb)
                    clear HX3 HX4 HY HZ
                    go_wp2_with fail
                    all_goals
                      go_quiet (fail)
                      go_wp2_with fail
                      go_roundw
                      case rel => exact ⟨k + 1, _, S + v, nb, tb, vb, by omega, by go_num, rfl, by go_num, by first | exact HXn | exact Lib.hid (by rw [← HXn.out]; omega), HSn, by omega, HB, hBk, Lib.hid (below_drewN hbw.out _)⟩
                      case measure => simp [intOf]; omega
                · have HXn := Lib.hid (HX4.out h3)
                  have hz3 : (agg == 3) = false := by simp [h3]
                  clear h3
                  by_cases htb : tb ≤ t
                  · have HB := Lib.hid (HY.out htb)
                    clear HX3 HX4 HY HZ
                    go_wp2_with fail
                    all_goals
                      go_quiet (fail)
                      go_wp2_with fail
                      go_roundw
                      case rel => exact ⟨k + 1, _, S + v, nm, t, v, by omega, by go_num, rfl, by go_num, by first | exact HXn | exact Lib.hid (by rw [← HXn.out]; omega), HSn, by omega, HB, Lib.hid (by first | exact ((hBk.out.set_ 0 _).set_ 1 _).set_ 2 _), Lib.hid (((below_drewN hbw.out _).setCell (p := ⟨g, _, none⟩) hgw _).setCell (p := ⟨g, _, none⟩) hgw _ |>.setCell (p := ⟨g, _, none⟩) hgw _)⟩
                      case measure => simp [intOf]; omega
                  · have HB := Lib.hid (HZ.out htb)
                    clear HX3 HX4 HY HZ
                    go_wp2_with fail
                    all_goals
                      go_quiet (fail)
                      go_wp2_with fail
                      go_roundw
                      case rel => exact ⟨k + 1, _, S + v, nb, tb, vb, by omega, by go_num, rfl, by go_num, by first | exact HXn | exact Lib.hid (by rw [← HXn.out]; omega), HSn, by omega, HB, hBk, Lib.hid (below_drewN hbw.out _)⟩
                      case measure => simp [intOf]; omega
              · have hkn : k = ps.length := by omega
                rw [hkn] at hX hS hbest
                have hle := Qr.least_le ps ps.length 0 hpos
                have hmo := Qr.le_most ps ps.length 0 hpos
                have H0 : Hid (Qr.pickV ps 0 = vb) := by show _ = _; unfold Qr.pickV; rw [if_pos rfl, hbest.out]
                have H2 : Hid (Qr.pickV ps 2 = S) := by show _ = _; rw [pick_sum, hS.out]
                have H3 : Hid (agg = 3 → Qr.pickV ps 3 = X) := fun h => by rw [pick_least, hX.out]; unfold Qr.xK; rw [if_pos h]; omega
                have H4 : Hid (agg = 4 → Qr.pickV ps 4 = X) := fun h => by rw [pick_most, hX.out]; unfold Qr.xK; rw [if_neg (by omega)]; omega
                have hag : agg = 0 ∨ agg = 2 ∨ agg = 3 ∨ agg = 4 := by have := beq_eq_false_iff_ne.1 hb1; omega
                clear hX hS hbest hkn Hcs hle hmo HAll HX0 HB0
                rcases hag with rfl | rfl | rfl | rfl
                all_goals
                  go_wp2_with fail
                  go_ret3
                  exact ⟨by rw [Hres.out]; first | (rw [H0.out]; rfl) | (rw [H2.out]; rfl) | (rw [H3.out (by trivial)]; rfl) | (rw [H4.out (by trivial)]; rfl), hbw.out⟩
end Go.Proofs.Ythdbmgjlegpbaaa
