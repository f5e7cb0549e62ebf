/- The walk through query.Aggregate (chapter 15). -/
import Derived.Test.YthdbmgjlegpbaaaQrPlain
import Derived.Test.YthdbmgjlegpbaaaPtMay
import Derived.Test.YthdbmgjlegpbaaaPtCells
import Derived.Test.YthdbmgjlegpbaaaAft
import Derived.BigQuiet
namespace Go.Proofs.Ythdbmgjlegpbaaa
open Go.RowKit
set_option linter.unusedVariables false

def AggPost (w : World) (q : Int × Bool × Int) (e : Ending) (w' : World) : Prop := e = .returned (.tuple #[.int .i64 q.1, .bool q.2.1, .int .i64 q.2.2]) ∧ Below w.heap.size w w'
theorem agg_form_cases {agg : Int} {n : Nat} (h : agg < 0 ∨ 4 < agg ∨ 65536 < n) : agg < 0 ∨ (¬ agg < 0 ∧ 4 < agg) ∨ (¬ agg < 0 ∧ ¬ 4 < agg ∧ (65536 : Int) < (n : Int)) := by omega
theorem small_bd {x : Int} (h : Pt.smallB x = true) : -2147483648 ≤ x ∧ x ≤ 2147483647 := (Pt.smallB_iff x).1 h
theorem idx5_0 (a b c d e : Value) (w : World) : (Instr.index 97 (.agg #[a, b, c, d, e]) (.int .i64 0)).run Try.prog w = .ok a w := by kernel_rfl
theorem idx5_2 (a b c d e : Value) (w : World) : (Instr.index 97 (.agg #[a, b, c, d, e]) (.int .i64 2)).run Try.prog w = .ok c w := by kernel_rfl
theorem idx5_3 (a b c d e : Value) (w : World) : (Instr.index 97 (.agg #[a, b, c, d, e]) (.int .i64 3)).run Try.prog w = .ok d w := by kernel_rfl
theorem idx5_4 (a b c d e : Value) (w : World) : (Instr.index 97 (.agg #[a, b, c, d, e]) (.int .i64 4)).run Try.prog w = .ok e w := by kernel_rfl
theorem pick_last {ps : List Pt.Point} {b : Nat} (h : Qr.bestK ps ps.length = b) (hb : b < ps.length) : Qr.pickV ps 0 = ps[b].2.2 := by
  unfold Qr.pickV; rw [if_pos rfl, h, Qr.getD_lt hb]
theorem pick_sum (ps : List Pt.Point) : Qr.pickV ps 2 = Qr.sumK ps ps.length := by unfold Qr.pickV; simp
theorem pick_least (ps : List Pt.Point) : Qr.pickV ps 3 = Qr.leastK ps ps.length := by unfold Qr.pickV; simp
theorem pick_most (ps : List Pt.Point) : Qr.pickV ps 4 = Qr.mostK ps ps.length := by unfold Qr.pickV; simp
set_option maxRecDepth 100000 in
set_option maxHeartbeats 2000000 in
theorem aggregate_any (A : Option Addr) (c : Nat) (ps : List Pt.Point) (agg : Int) (w : World) (B : Nat) (hr : Reads w B 3 A ps.length (ps.flatMap pointCells)) (hB : B ≤ w.heap.size) (hn : ps.length ≤ 140737488355328) (hwf : ∀ p ∈ ps, Pt.wf p) :
    Calls Try.prog 29 #[.slice A ps.length c, .int .i64 agg] w (AggPost w (Qr.aggR ps agg)) := by
  have HW := Lib.hid hwf
  have HR := Lib.hid hr
  have HSt := Lib.hid (fun k hk hp => @Qr.all_stop ps k hk hp agg)
  have HF := Lib.hid (@Qr.agg_form ps agg)
  have HC := Lib.hid (@Qr.agg_count ps agg)
  have HN := Lib.hid (@Qr.agg_none ps agg)
  have HP := Lib.hid (@Qr.agg_pick ps agg)
  clear hwf hr
  generalize Qr.aggR ps agg = res at *
  by_cases hform : agg < 0 ∨ 4 < agg ∨ 65536 < ps.length
  · have Hres := Lib.hid (HF.out hform)
    have hc := agg_form_cases hform
    clear HSt HF HC HN HP hform HW HR
    rcases hc with h1 | ⟨h1, h2⟩ | ⟨h1, h2, h3⟩
    all_goals
      go_enter Try.func29, Try.ntmps29
      go_wp2_with fail
      go_ret3
      exact ⟨by rw [Hres.out]; rfl, Below.refl _ _⟩
  · have h0 : ¬ agg < 0 := by omega
    have h4 : ¬ 4 < agg := by omega
    have hl : ¬ (65536 : Int) < (ps.length : Int) := by omega
    have HC' := Lib.hid (HC.out hform)
    have HN' := Lib.hid (HN.out hform)
    have HP' := Lib.hid (HP.out hform)
    clear HF HC HN HP hform
    go_enter Try.func29, Try.ntmps29
    go_wp2_with fail
    go_loopw [7, 8, 9, 10, 11, 12, 27] (fun vs vl vm vb _ _ i wr => ∃ (k : Nat) (S L M b : Int), k ≤ ps.length ∧ i = .int .i64 (k : Int) ∧ vs = .int .i64 S ∧ vl = .int .i64 L ∧ vm = .int .i64 M ∧ vb = .int .i64 b ∧ Hid (S = Qr.sumK ps k) ∧ Hid (L = Qr.leastK ps k) ∧ Hid (M = Qr.mostK ps k) ∧ Hid ((k = 0 ∧ b = -1) ∨ (0 < k ∧ b = (Qr.bestK ps k : Int))) ∧ (-2147483648 * (k : Int) ≤ S ∧ S ≤ 2147483648 * (k : Int)) ∧ Hid ((ps.take k).all Qr.okP = true) ∧ Hid (Below w.heap.size w wr)) (fun _ _ _ _ _ _ i _ => ps.length - (intOf i).toNat)
    case atStart => exact ⟨0, 0, _, _, -1, Nat.zero_le _, rfl, rfl, rfl, rfl, rfl, Lib.hid rfl, Lib.hid rfl, Lib.hid rfl, Lib.hid (.inl ⟨rfl, rfl⟩), by omega, Lib.hid (by simp), Lib.hid (Below.refl _ _)⟩
    case round =>
      obtain ⟨k, S, L, M, bI, hk, rfl, rfl, rfl, rfl, rfl, hS, hL, hM, hb, hSb, ha, hbw⟩ := hrel
      have hsw := hbw.out.size
      by_cases hlt : k < ps.length
      · obtain ⟨bb, off, rfl, hbl, hc⟩ := HR.out.2 (by omega)
        have hcs := fun (W : World) (hb : Below w.heap.size w W) (j : Nat) (hj : j < ps.length) => pt_cells (wr := W) hj hc (fun p hp => hb.cell (p := p) (by omega)) hbl
        obtain ⟨hc0, hc1, hc2⟩ := hcs wr hbw.out k hlt
        have Hcs := Lib.hid hcs
        have hw := HW.out _ (List.getElem_mem hlt)
        have hSm := fun W => Lib.hid (small_any ps[k].2.2 W hw.2)
        have HS := Lib.hid (fun h => HSt.out k hlt h)
        have HGo := Lib.hid (fun h => Qr.all_step hlt ha.out h)
        have hgd := Lib.hid (Qr.getD_lt hlt)
        clear hc hcs HC' HN' HP' HSt
        cases hsm : Pt.smallB ps[k].2.2
        · have Hres := Lib.hid (HS.out hsm)
          rw [hsm] at hSm
          clear HS HGo hsm Hcs hgd hw
          generalize ps[k].1 = nm at *
          generalize ps[k].2.1 = t at *
          generalize ps[k].2.2 = v at *
          go_wp2_with fail
          refine (hSm _).out.mono ?_
          rintro e w' ⟨rfl, rfl⟩
          go_wp2_with fail
          go_ret3
          exact ⟨by rw [Hres.out]; rfl, hbw.out.alloc hsw _⟩
        · have HG := Lib.hid (HGo.out hsm)
          have hvb := small_bd hsm
          rw [hsm] at hSm
          have HS' : Hid (∀ v, ps[k].2.2 = v → S + v = Qr.sumK ps (k + 1)) := fun v hv => by rw [hS.out, Qr.sumK, hgd.out, hv]
          have HL' : Hid (∀ v, ps[k].2.2 = v → min L v = Qr.leastK ps (k + 1)) := fun v hv => by rw [hL.out, Qr.leastK, hgd.out, hv]
          have HM' : Hid (∀ v, ps[k].2.2 = v → max M v = Qr.mostK ps (k + 1)) := fun v hv => by rw [hM.out, Qr.mostK, hgd.out, hv]
          clear HS HGo hsm hw
          generalize hp1 : ps[k].1 = nm at *
          generalize hp2 : ps[k].2.1 = t at *
          generalize hp3 : ps[k].2.2 = v at *
          have HSn := Lib.hid (HS'.out v rfl)
          have HLa : Hid (L ≤ v → L = Qr.leastK ps (k + 1)) := fun h => by have := HL'.out v rfl; omega
          have HLb : Hid (v < L → v = Qr.leastK ps (k + 1)) := fun h => by have := HL'.out v rfl; omega
          have HMa : Hid (v ≤ M → M = Qr.mostK ps (k + 1)) := fun h => by have := HM'.out v rfl; omega
          have HMb : Hid (M < v → v = Qr.mostK ps (k + 1)) := fun h => by have := HM'.out v rfl; omega
          have Hp2 := Lib.hid hp2
          clear hp1 hp2 hp3 HS' HL' HM' hS hL hM
          go_wp2_with fail
          refine (hSm _).out.mono ?_
          rintro e w' ⟨rfl, rfl⟩
          have hP := Blk.new wr 52 #[.string nm, .int .i64 t, .int .i64 v]
          have Hb5 : Hid (Below w.heap.size w (wr.alloc (.cells #[.string nm, .int .i64 t, .int .i64 v] 52))) := hbw.out.alloc hsw _
          obtain ⟨r0, r1, r2⟩ := pt3_of hP
          clear hP hc0 hc1 hc2
          generalize wr.alloc (.cells #[.string nm, .int .i64 t, .int .i64 v] 52) = w5 at *
          generalize wr.heap.size = h at *
          have hSn1 : -2147483648 * ((k : Int) + 1) ≤ S + v ∧ S + v ≤ 2147483648 * ((k : Int) + 1) := by omega
          rcases hb.out with ⟨hk0, hb1⟩ | ⟨hk0, hb1⟩
          · subst hb1
            have Hbest : Hid ((k + 1 = 0 ∧ (k : Int) = -1) ∨ (0 < k + 1 ∧ (k : Int) = (Qr.bestK ps (k + 1) : Int))) := by
              right; subst hk0; rw [Qr.best_one]; exact ⟨by omega, rfl⟩
            clear hb hk0 Hcs hgd Hp2
            go_wp2_with fail
            go_quiet (fail)
            go_wp2_with fail
            all_goals
              generalize nq = n5
              go_quiet (fail)
              go_wp2_with fail
              go_roundw
              case rel => exact ⟨k + 1, S + v, _, _, (k : Int), by omega, by go_num, by go_num, rfl, rfl, rfl, HSn, Lib.hid (by first | exact HLa.out (by omega) | exact HLb.out (by omega)), Lib.hid (by first | exact HMa.out (by omega) | exact HMb.out (by omega)), Hbest, by omega, HG, Lib.hid (below_drewN Hb5.out _)⟩
              case measure => simp [intOf]; omega
          · obtain ⟨b, hbe⟩ : ∃ b, Qr.bestK ps k = b := ⟨_, rfl⟩
            have hbl2 := Qr.best_lt ps k hk0
            rw [hbe] at hb1 hbl2
            subst hb1
            obtain ⟨_, hcb, _⟩ := Hcs.out w5 Hb5.out b (by omega)
            have hgb := Qr.getD_lt (ps := ps) (k := b) (by omega)
            have HY := Lib.hid (fun h => @Qr.best_yes ps k b hbe h)
            have HZ := Lib.hid (fun h => @Qr.best_no ps k b hbe h)
            rw [hgb, hgd.out, Hp2.out] at HY HZ
            clear hb Hcs hgd Hp2 hbe hgb
            generalize (ps[b]'(by omega)).2.1 = tb at *
            have g0 : decide ((b : Int) < 0) = false := decide_eq_false (by omega)
            have g1 : (0 : Int) ≤ (b : Int) := by omega
            have g2 : (b : Int) < (ps.length : Int) := by omega
            by_cases htb : tb ≤ t
            · have Hbest : Hid ((k + 1 = 0 ∧ (k : Int) = -1) ∨ (0 < k + 1 ∧ (k : Int) = (Qr.bestK ps (k + 1) : Int))) := .inr ⟨by omega, by rw [HY.out htb]⟩
              clear HY HZ
              go_wp2_with fail
              go_quiet (fail)
              go_wp2_with fail
              all_goals
                generalize nq = n5
                go_quiet (fail)
                go_wp2_with fail
                go_roundw
                case rel => exact ⟨k + 1, S + v, _, _, (k : Int), by omega, by go_num, by go_num, rfl, rfl, rfl, HSn, Lib.hid (by first | exact HLa.out (by omega) | exact HLb.out (by omega)), Lib.hid (by first | exact HMa.out (by omega) | exact HMb.out (by omega)), Hbest, by omega, HG, Lib.hid (below_drewN Hb5.out _)⟩
                case measure => simp [intOf]; omega
            · have Hbest : Hid ((k + 1 = 0 ∧ (b : Int) = -1) ∨ (0 < k + 1 ∧ (b : Int) = (Qr.bestK ps (k + 1) : Int))) := .inr ⟨by omega, by rw [HZ.out htb]⟩
              clear HY HZ
              go_wp2_with fail
              go_quiet (fail)
              go_wp2_with fail
              all_goals
                generalize nq = n5
                go_quiet (fail)
                go_wp2_with fail
                go_roundw
                case rel => exact ⟨k + 1, S + v, _, _, (b : Int), by omega, by go_num, by go_num, rfl, rfl, rfl, HSn, Lib.hid (by first | exact HLa.out (by omega) | exact HLb.out (by omega)), Lib.hid (by first | exact HMa.out (by omega) | exact HMb.out (by omega)), Hbest, by omega, HG, Lib.hid (below_drewN Hb5.out _)⟩
                case measure => simp [intOf]; omega
      · have hkn : k = ps.length := by omega
        have htk : ps.take k = ps := List.take_of_length_le (by omega)
        rw [htk] at ha
        rw [hkn] at hS hL hM hb
        have HC2 := Lib.hid (HC'.out ha.out)
        have HN2 := Lib.hid (HN'.out ha.out)
        have HP2 := Lib.hid (HP'.out ha.out)
        clear HC' HN' HP' HSt htk hkn
        by_cases h1 : agg = 1
        · have Hres := Lib.hid (HC2.out h1)
          subst h1
          clear HC2 HN2 HP2
          go_wp2_with fail
          go_ret3
          exact ⟨by rw [Hres.out]; rfl, hbw.out⟩
        · have hb1 : (agg == 1) = false := by simp [h1]
          by_cases hz : ps.length = 0
          · have Hres := Lib.hid (HN2.out h1 hz)
            have hbz : ((ps.length : Int) == 0) = true := by simp [hz]
            clear HC2 HN2 HP2 h1
            go_wp2_with fail
            go_ret3
            exact ⟨by rw [Hres.out]; rfl, hbw.out⟩
          · have Hres := Lib.hid (HP2.out h1 hz)
            have hbz : ((ps.length : Int) == 0) = false := beq_eq_false_iff_ne.2 (by omega)
            obtain ⟨b, hbe⟩ : ∃ b, Qr.bestK ps ps.length = b := ⟨_, rfl⟩
            have hbl2 := Qr.best_lt ps ps.length (by omega)
            rw [hbe] at hbl2 hb
            have hbi : bI = (b : Int) := by rcases hb.out with ⟨q, _⟩ | ⟨_, q⟩; exact absurd q hz; exact q
            subst hbi
            obtain ⟨bb, off, rfl, hbl, hc⟩ := HR.out.2 (by omega)
            obtain ⟨_, _, hcb⟩ := pt_cells (wr := wr) hbl2 hc (fun p hp => hbw.out.cell (p := p) (by omega)) hbl
            have H0 := Lib.hid (pick_last hbe hbl2)
            have H2 : Hid (Qr.pickV ps 2 = S) := by show _ = _; rw [pick_sum, hS.out]
            have H3 : Hid (Qr.pickV ps 3 = L) := by show _ = _; rw [pick_least, hL.out]
            have H4 : Hid (Qr.pickV ps 4 = M) := by show _ = _; rw [pick_most, hM.out]
            have hag : agg = 0 ∨ agg = 2 ∨ agg = 3 ∨ agg = 4 := by omega
            have g1 : (0 : Int) ≤ (b : Int) := by omega
            have g2 : (b : Int) < (ps.length : Int) := by omega
            clear HC2 HN2 HP2 h1 hz hbe hc hS hL hM hb HR
            generalize (ps[b]'hbl2).2.2 = vb at *
            have x0 := idx5_0
            have x2 := idx5_2
            have x3 := idx5_3
            have x4 := idx5_4
            rcases hag with rfl | rfl | rfl | rfl
            all_goals
              go_wp2_with fail
              go_ret3
              exact ⟨by rw [Hres.out]; first | (rw [H0.out]; rfl) | (rw [H2.out]; rfl) | (rw [H3.out]; rfl) | (rw [H4.out]; rfl), hbw.out⟩
end Go.Proofs.Ythdbmgjlegpbaaa
