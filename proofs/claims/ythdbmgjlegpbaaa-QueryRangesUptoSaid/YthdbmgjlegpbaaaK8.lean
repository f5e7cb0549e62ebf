/- Joined texts: QrAgg, QrRagg, SgRget, SgBack, QrLaws, OwnSet. -/
import Derived.Test.YthdbmgjlegpbaaaK1
import Derived.Test.YthdbmgjlegpbaaaK2
import Derived.Test.YthdbmgjlegpbaaaK4
import Derived.Test.YthdbmgjlegpbaaaK6
import Derived.Test.YthdbmgjlegpbaaaK7
import Derived.BigQuiet
import Derived.Deep.RegionHeld3
/- The walk through query.Aggregate (chapter 15). -/
namespace Go.Proofs.Ythdbmgjlegpbaaa
open Go.RowKit
set_option linter.unusedVariables false

def AggPost (w : World) (q : Int × Bool × Int) (e : Ending) (w' : World) : Prop := e = .returned (.tuple #[.int .i64 q.1, .bool q.2.1, .int .i64 q.2.2]) ∧ Below w.heap.size w w'
theorem agg_form_cases {agg : Int} {n : Nat} (h : agg < 0 ∨ 4 < agg ∨ 65536 < n) : agg < 0 ∨ (¬ agg < 0 ∧ 4 < agg) ∨ (¬ agg < 0 ∧ ¬ 4 < agg ∧ (65536 : Int) < (n : Int)) := by omega
theorem small_bd {x : Int} (h : Pt.smallB x = true) : -2147483648 ≤ x ∧ x ≤ 2147483647 := (Pt.smallB_iff x).1 h
theorem idx5_0 (a b c d e : Value) (w : World) : (Instr.index 97 (.agg #[a, b, c, d, e]) (.int .i64 0)).run Try.prog w = .ok a w := by kernel_rfl
theorem idx5_2 (a b c d e : Value) (w : World) : (Instr.index 97 (.agg #[a, b, c, d, e]) (.int .i64 2)).run Try.prog w = .ok c w := by kernel_rfl
theorem idx5_3 (a b c d e : Value) (w : World) : (Instr.index 97 (.agg #[a, b, c, d, e]) (.int .i64 3)).run Try.prog w = .ok d w := by kernel_rfl
theorem idx5_4 (a b c d e : Value) (w : World) : (Instr.index 97 (.agg #[a, b, c, d, e]) (.int .i64 4)).run Try.prog w = .ok e w := by kernel_rfl
theorem pick_last {ps : List Pt.Point} {b : Nat} (h : Qr.bestK ps ps.length = b) (hb : b < ps.length) : Qr.pickV ps 0 = ps[b].2.2 := by
  unfold Qr.pickV; rw [if_pos rfl, h, Qr.getD_lt hb]
theorem pick_sum (ps : List Pt.Point) : Qr.pickV ps 2 = Qr.sumK ps ps.length := by unfold Qr.pickV; simp
theorem pick_least (ps : List Pt.Point) : Qr.pickV ps 3 = Qr.leastK ps ps.length := by unfold Qr.pickV; simp
theorem pick_most (ps : List Pt.Point) : Qr.pickV ps 4 = Qr.mostK ps ps.length := by unfold Qr.pickV; simp
set_option maxRecDepth 100000 in
set_option maxHeartbeats 2000000 in
theorem aggregate_any (A : Option Addr) (c : Nat) (ps : List Pt.Point) (agg : Int) (w : World) (B : Nat) (hr : Reads w B 3 A ps.length (ps.flatMap pointCells)) (hB : B ≤ w.heap.size) (hn : ps.length ≤ 140737488355328) (hwf : ∀ p ∈ ps, Pt.wf p) :
    Calls Try.prog 29 #[.slice A ps.length c, .int .i64 agg] w (AggPost w (Qr.aggR ps agg)) := by
  have HW := Lib.hid hwf
  have HR := Lib.hid hr
  have HSt := Lib.hid (fun k hk hp => @Qr.all_stop ps k hk hp agg)
  have HF := Lib.hid (@Qr.agg_form ps agg)
  have HC := Lib.hid (@Qr.agg_count ps agg)
  have HN := Lib.hid (@Qr.agg_none ps agg)
  have HP := Lib.hid (@Qr.agg_pick ps agg)
  clear hwf hr
  generalize Qr.aggR ps agg = res at *
  by_cases hform : agg < 0 ∨ 4 < agg ∨ 65536 < ps.length
  · have Hres := Lib.hid (HF.out hform)
    have hc := agg_form_cases hform
    clear HSt HF HC HN HP hform HW HR
    rcases hc with h1 | ⟨h1, h2⟩ | ⟨h1, h2, h3⟩
    all_goals
      go_enter Try.func29, Try.ntmps29
      go_wp2_with fail
      go_ret3
      exact ⟨by rw [Hres.out]; rfl, Below.refl _ _⟩
  · have h0 : ¬ agg < 0 := by omega
    have h4 : ¬ 4 < agg := by omega
    have hl : ¬ (65536 : Int) < (ps.length : Int) := by omega
    have HC' := Lib.hid (HC.out hform)
    have HN' := Lib.hid (HN.out hform)
    have HP' := Lib.hid (HP.out hform)
    clear HF HC HN HP hform
    go_enter Try.func29, Try.ntmps29
    go_wp2_with fail
    go_loopw [7, 8, 9, 10, 11, 12, 27] (fun vs vl vm vb _ _ i wr => ∃ (k : Nat) (S L M b : Int), k ≤ ps.length ∧ i = .int .i64 (k : Int) ∧ vs = .int .i64 S ∧ vl = .int .i64 L ∧ vm = .int .i64 M ∧ vb = .int .i64 b ∧ Hid (S = Qr.sumK ps k) ∧ Hid (L = Qr.leastK ps k) ∧ Hid (M = Qr.mostK ps k) ∧ Hid ((k = 0 ∧ b = -1) ∨ (0 < k ∧ b = (Qr.bestK ps k : Int))) ∧ (-2147483648 * (k : Int) ≤ S ∧ S ≤ 2147483648 * (k : Int)) ∧ Hid ((ps.take k).all Qr.okP = true) ∧ Hid (Below w.heap.size w wr)) (fun _ _ _ _ _ _ i _ => ps.length - (intOf i).toNat)
    case atStart => exact ⟨0, 0, _, _, -1, Nat.zero_le _, rfl, rfl, rfl, rfl, rfl, Lib.hid rfl, Lib.hid rfl, Lib.hid rfl, Lib.hid (.inl ⟨rfl, rfl⟩), by omega, Lib.hid (by simp), Lib.hid (Below.refl _ _)⟩
    case round =>
      obtain ⟨k, S, L, M, bI, hk, rfl, rfl, rfl, rfl, rfl, hS, hL, hM, hb, hSb, ha, hbw⟩ := hrel
      have hsw := hbw.out.size
      by_cases hlt : k < ps.length
      · obtain ⟨bb, off, rfl, hbl, hc⟩ := HR.out.2 (by omega)
        have hcs := fun (W : World) (hb : Below w.heap.size w W) (j : Nat) (hj : j < ps.length) => pt_cells (wr := W) hj hc (fun p hp => hb.cell (p := p) (by omega)) hbl
        obtain ⟨hc0, hc1, hc2⟩ := hcs wr hbw.out k hlt
        have Hcs := Lib.hid hcs
        have hw := HW.out _ (List.getElem_mem hlt)
        have hSm := fun W => Lib.hid (small_any ps[k].2.2 W hw.2)
        have HS := Lib.hid (fun h => HSt.out k hlt h)
        have HGo := Lib.hid (fun h => Qr.all_step hlt ha.out h)
        have hgd := Lib.hid (Qr.getD_lt hlt)
        clear hc hcs HC' HN' HP' HSt
        cases hsm : Pt.smallB ps[k].2.2
        · have Hres := Lib.hid (HS.out hsm)
          rw [hsm] at hSm
          clear HS HGo hsm Hcs hgd hw
          generalize ps[k].1 = nm at *
          generalize ps[k].2.1 = t at *
          generalize ps[k].2.2 = v at *
          go_wp2_with fail
          refine (hSm _).out.mono ?_
          rintro e w' ⟨rfl, rfl⟩
          go_wp2_with fail
          go_ret3
          exact ⟨by rw [Hres.out]; rfl, hbw.out.alloc hsw _⟩
        · have HG := Lib.hid (HGo.out hsm)
          have hvb := small_bd hsm
          rw [hsm] at hSm
          have HS' : Hid (∀ v, ps[k].2.2 = v → S + v = Qr.sumK ps (k + 1)) := fun v hv => by rw [hS.out, Qr.sumK, hgd.out, hv]
          have HL' : Hid (∀ v, ps[k].2.2 = v → min L v = Qr.leastK ps (k + 1)) := fun v hv => by rw [hL.out, Qr.leastK, hgd.out, hv]
          have HM' : Hid (∀ v, ps[k].2.2 = v → max M v = Qr.mostK ps (k + 1)) := fun v hv => by rw [hM.out, Qr.mostK, hgd.out, hv]
          clear HS HGo hsm hw
          generalize hp1 : ps[k].1 = nm at *
          generalize hp2 : ps[k].2.1 = t at *
          generalize hp3 : ps[k].2.2 = v at *
          have HSn := Lib.hid (HS'.out v rfl)
          have HLa : Hid (L ≤ v → L = Qr.leastK ps (k + 1)) := fun h => by have := HL'.out v rfl; omega
          have HLb : Hid (v < L → v = Qr.leastK ps (k + 1)) := fun h => by have := HL'.out v rfl; omega
          have HMa : Hid (v ≤ M → M = Qr.mostK ps (k + 1)) := fun h => by have := HM'.out v rfl; omega
          have HMb : Hid (M < v → v = Qr.mostK ps (k + 1)) := fun h => by have := HM'.out v rfl; omega
          have Hp2 := Lib.hid hp2
          clear hp1 hp2 hp3 HS' HL' HM' hS hL hM
          go_wp2_with fail
          refine (hSm _).out.mono ?_
          rintro e w' ⟨rfl, rfl⟩
          have hP := Blk.new wr 52 #[.string nm, .int .i64 t, .int .i64 v]
          have Hb5 : Hid (Below w.heap.size w (wr.alloc (.cells #[.string nm, .int .i64 t, .int .i64 v] 52))) := hbw.out.alloc hsw _
          obtain ⟨r0, r1, r2⟩ := pt3_of hP
          clear hP hc0 hc1 hc2
          generalize wr.alloc (.cells #[.string nm, .int .i64 t, .int .i64 v] 52) = w5 at *
          generalize wr.heap.size = h at *
          have hSn1 : -2147483648 * ((k : Int) + 1) ≤ S + v ∧ S + v ≤ 2147483648 * ((k : Int) + 1) := by omega
          rcases hb.out with ⟨hk0, hb1⟩ | ⟨hk0, hb1⟩
          · subst hb1
            have Hbest : Hid ((k + 1 = 0 ∧ (k : Int) = -1) ∨ (0 < k + 1 ∧ (k : Int) = (Qr.bestK ps (k + 1) : Int))) := by
              right; subst hk0; rw [Qr.best_one]; exact ⟨by omega, rfl⟩
            clear hb hk0 Hcs hgd Hp2
            go_wp2_with fail
            go_quiet (fail)
            go_wp2_with fail
            all_goals
              generalize nq = n5
              go_quiet (fail)
              go_wp2_with fail
              go_roundw
              case rel => exact ⟨k + 1, S + v, _, _, (k : Int), by omega, by go_num, by go_num, rfl, rfl, rfl, HSn, Lib.hid (by first | exact HLa.out (by omega) | exact HLb.out (by omega) | (have h1 := HLa.out; have h2 := HLb.out; show _ = _; omega)), Lib.hid (by first | exact HMa.out (by omega) | exact HMb.out (by omega) | (have h1 := HMa.out; have h2 := HMb.out; show _ = _; omega)), Hbest, by omega, HG, Lib.hid (below_drewN Hb5.out _)⟩
              case measure => simp [intOf]; omega
          · obtain ⟨b, hbe⟩ : ∃ b, Qr.bestK ps k = b := ⟨_, rfl⟩
            have hbl2 := Qr.best_lt ps k hk0
            rw [hbe] at hb1 hbl2
            subst hb1
            obtain ⟨_, hcb, _⟩ := Hcs.out w5 Hb5.out b (by omega)
            have hgb := Qr.getD_lt (ps := ps) (k := b) (by omega)
            have HY := Lib.hid (fun h => @Qr.best_yes ps k b hbe h)
            have HZ := Lib.hid (fun h => @Qr.best_no ps k b hbe h)
            rw [hgb, hgd.out, Hp2.out] at HY HZ
            clear hb Hcs hgd Hp2 hbe hgb
            generalize (ps[b]'(by omega)).2.1 = tb at *
            have g0 : decide ((b : Int) < 0) = false := decide_eq_false (by omega)
            have g1 : (0 : Int) ≤ (b : Int) := by omega
            have g2 : (b : Int) < (ps.length : Int) := by omega
            by_cases htb : tb ≤ t
            · have Hbest : Hid ((k + 1 = 0 ∧ (k : Int) = -1) ∨ (0 < k + 1 ∧ (k : Int) = (Qr.bestK ps (k + 1) : Int))) := .inr ⟨by omega, by rw [HY.out htb]⟩
              clear HY HZ
              go_wp2_with fail
              go_quiet (fail)
              go_wp2_with fail
              all_goals
                generalize nq = n5
                go_quiet (fail)
                go_wp2_with fail
                go_roundw
                case rel => exact ⟨k + 1, S + v, _, _, (k : Int), by omega, by go_num, by go_num, rfl, rfl, rfl, HSn, Lib.hid (by first | exact HLa.out (by omega) | exact HLb.out (by omega) | (have h1 := HLa.out; have h2 := HLb.out; show _ = _; omega)), Lib.hid (by first | exact HMa.out (by omega) | exact HMb.out (by omega) | (have h1 := HMa.out; have h2 := HMb.out; show _ = _; omega)), Hbest, by omega, HG, Lib.hid (below_drewN Hb5.out _)⟩
                case measure => simp [intOf]; omega
            · have Hbest : Hid ((k + 1 = 0 ∧ (b : Int) = -1) ∨ (0 < k + 1 ∧ (b : Int) = (Qr.bestK ps (k + 1) : Int))) := .inr ⟨by omega, by rw [HZ.out htb]⟩
              clear HY HZ
              go_wp2_with fail
              go_quiet (fail)
              go_wp2_with fail
              all_goals
                generalize nq = n5
                go_quiet (fail)
                go_wp2_with fail
                go_roundw
                case rel => exact ⟨k + 1, S + v, _, _, (b : Int), by omega, by go_num, by go_num, rfl, rfl, rfl, HSn, Lib.hid (by first | exact HLa.out (by omega) | exact HLb.out (by omega) | (have h1 := HLa.out; have h2 := HLb.out; show _ = _; omega)), Lib.hid (by first | exact HMa.out (by omega) | exact HMb.out (by omega) | (have h1 := HMa.out; have h2 := HMb.out; show _ = _; omega)), Hbest, by omega, HG, Lib.hid (below_drewN Hb5.out _)⟩
                case measure => simp [intOf]; omega
      · have hkn : k = ps.length := by omega
        have htk : ps.take k = ps := List.take_of_length_le (by omega)
        rw [htk] at ha
        rw [hkn] at hS hL hM hb
        have HC2 := Lib.hid (HC'.out ha.out)
        have HN2 := Lib.hid (HN'.out ha.out)
        have HP2 := Lib.hid (HP'.out ha.out)
        clear HC' HN' HP' HSt htk hkn
        by_cases h1 : agg = 1
        · have Hres := Lib.hid (HC2.out h1)
          subst h1
          clear HC2 HN2 HP2
          go_wp2_with fail
          go_ret3
          exact ⟨by rw [Hres.out]; rfl, hbw.out⟩
        · have hb1 : (agg == 1) = false := by simp [h1]
          by_cases hz : ps.length = 0
          · have Hres := Lib.hid (HN2.out h1 hz)
            have hbz : ((ps.length : Int) == 0) = true := by simp [hz]
            clear HC2 HN2 HP2 h1
            go_wp2_with fail
            go_ret3
            exact ⟨by rw [Hres.out]; rfl, hbw.out⟩
          · have Hres := Lib.hid (HP2.out h1 hz)
            have hbz : ((ps.length : Int) == 0) = false := beq_eq_false_iff_ne.2 (by omega)
            obtain ⟨b, hbe⟩ : ∃ b, Qr.bestK ps ps.length = b := ⟨_, rfl⟩
            have hbl2 := Qr.best_lt ps ps.length (by omega)
            rw [hbe] at hbl2 hb
            have hbi : bI = (b : Int) := by rcases hb.out with ⟨q, _⟩ | ⟨_, q⟩; exact absurd q hz; exact q
            subst hbi
            obtain ⟨bb, off, rfl, hbl, hc⟩ := HR.out.2 (by omega)
            obtain ⟨_, _, hcb⟩ := pt_cells (wr := wr) hbl2 hc (fun p hp => hbw.out.cell (p := p) (by omega)) hbl
            have H0 := Lib.hid (pick_last hbe hbl2)
            have H2 : Hid (Qr.pickV ps 2 = S) := by show _ = _; rw [pick_sum, hS.out]
            have H3 : Hid (Qr.pickV ps 3 = L) := by show _ = _; rw [pick_least, hL.out]
            have H4 : Hid (Qr.pickV ps 4 = M) := by show _ = _; rw [pick_most, hM.out]
            have hag : agg = 0 ∨ agg = 2 ∨ agg = 3 ∨ agg = 4 := by omega
            have g1 : (0 : Int) ≤ (b : Int) := by omega
            have g2 : (b : Int) < (ps.length : Int) := by omega
            clear HC2 HN2 HP2 h1 hz hbe hc hS hL hM hb HR
            generalize (ps[b]'hbl2).2.2 = vb at *
            have x0 := idx5_0
            have x2 := idx5_2
            have x3 := idx5_3
            have x4 := idx5_4
            rcases hag with rfl | rfl | rfl | rfl
            all_goals
              go_wp2_with fail
              go_ret3
              exact ⟨by rw [Hres.out]; first | (rw [H0.out]; rfl) | (rw [H2.out]; rfl) | (rw [H3.out]; rfl) | (rw [H4.out]; rfl), hbw.out⟩
end Go.Proofs.Ythdbmgjlegpbaaa
/- The walk through the reference's Aggregate (chapter 15). -/
namespace Go.Proofs.Ythdbmgjlegpbaaa
open Go.RowKit
set_option linter.unusedVariables false

theorem cell_stay {w : World} {p : Addr} {u : Value} (o : Obj) (h : w.cell? p = some u) : (w.alloc o).cell? p = some u := (World.cell?_alloc_lt w o p (World.block_lt_of_cell? w _ h)).trans h
/-- what the reference's x is behind k rounds -/
def Qr.xK (ps : List Pt.Point) (agg : Int) (k : Nat) : Int := if agg = 3 then min (ps.getD 0 Qr.z0).2.2 (Qr.leastK ps k) else max (ps.getD 0 Qr.z0).2.2 (Qr.mostK ps k)
set_option maxRecDepth 100000 in
set_option maxHeartbeats 2000000 in
theorem raggregate_any (A : Option Addr) (c : Nat) (ps : List Pt.Point) (agg : Int) (w : World) (B : Nat) (hr : Reads w B 3 A ps.length (ps.flatMap pointCells)) (hB : B ≤ w.heap.size) (hn : ps.length ≤ 140737488355328) (hwf : ∀ p ∈ ps, Pt.wf p) :
    Calls Try.prog 30 #[.slice A ps.length c, .int .i64 agg] w (AggPost w (Qr.aggR ps agg)) := by
  have HW := Lib.hid hwf
  have HR := Lib.hid hr
  have HSt := Lib.hid (fun k hk hp => @Qr.all_stop ps k hk hp agg)
  have HF := Lib.hid (@Qr.agg_form ps agg)
  have HC := Lib.hid (@Qr.agg_count ps agg)
  have HN := Lib.hid (@Qr.agg_none ps agg)
  have HP := Lib.hid (@Qr.agg_pick ps agg)
  clear hwf hr
  generalize Qr.aggR ps agg = res at *
  by_cases hform : agg < 0 ∨ 4 < agg ∨ 65536 < ps.length
  · have Hres := Lib.hid (HF.out hform)
    have hc := agg_form_cases hform
    clear HSt HF HC HN HP hform HW HR
    rcases hc with h1 | ⟨h1, h2⟩ | ⟨h1, h2, h3⟩
    all_goals
      go_enter Try.func30, Try.ntmps30
      go_wp2_with fail
      go_ret3
      exact ⟨by rw [Hres.out]; rfl, Below.refl _ _⟩
  · have h0 : ¬ agg < 0 := by omega
    have h4 : ¬ 4 < agg := by omega
    have hl : ¬ (65536 : Int) < (ps.length : Int) := by omega
    have HC' := Lib.hid (HC.out hform)
    have HN' := Lib.hid (HN.out hform)
    have HP' := Lib.hid (HP.out hform)
    clear HF HC HN HP hform
    go_enter Try.func30, Try.ntmps30
    go_wp2_with fail
    go_loopw [7] (fun i wr => ∃ k : Nat, k ≤ ps.length ∧ i = .int .i64 (k : Int) ∧ Hid ((ps.take k).all Qr.okP = true) ∧ w = wr) (fun i _ => ps.length - (intOf i).toNat)
    case atStart => exact ⟨0, Nat.zero_le _, rfl, Lib.hid (by simp), rfl⟩
    case round =>
      obtain ⟨k, hk, rfl, ha, rfl⟩ := hrel
      by_cases hlt : k < ps.length
      · obtain ⟨bb, off, rfl, hbl, hc⟩ := HR.out.2 (by omega)
        obtain ⟨hc0, hc1, hc2⟩ := pt_cells (wr := w) hlt hc (fun p hp => rfl) hbl
        have hSm := fun W => Lib.hid (rsmall_any ps[k].2.2 W)
        have HS := Lib.hid (fun h => HSt.out k hlt h)
        have HGo := Lib.hid (fun h => Qr.all_step hlt ha.out h)
        clear hc HC' HN' HP' HSt
        cases hsm : Pt.smallB ps[k].2.2
        · have Hres := Lib.hid (HS.out hsm)
          rw [hsm] at hSm
          clear HS HGo hsm
          go_wp2_with fail
          refine (hSm _).out.mono ?_
          rintro e w' ⟨rfl, rfl⟩
          go_wp2_with fail
          go_ret3
          exact ⟨by rw [Hres.out]; rfl, Below.refl _ _⟩
        · have HG := Lib.hid (HGo.out hsm)
          rw [hsm] at hSm
          clear HS HGo hsm
          go_wp2_with fail
          refine (hSm _).out.mono ?_
          rintro e w' ⟨rfl, rfl⟩
          go_wp2_with fail
          go_roundw
          case rel => exact ⟨k + 1, by omega, by go_num, HG, trivial⟩
          case measure => simp [intOf]; omega
      · have htk : ps.take k = ps := List.take_of_length_le (by omega)
        rw [htk] at ha
        have HC2 := Lib.hid (HC'.out ha.out)
        have HN2 := Lib.hid (HN'.out ha.out)
        have HP2 := Lib.hid (HP'.out ha.out)
        clear HC' HN' HP' HSt htk
        by_cases h1 : agg = 1
        · have Hres := Lib.hid (HC2.out h1)
          subst h1
          go_wp2_with fail
          go_ret3
          exact ⟨by rw [Hres.out]; rfl, Below.refl _ _⟩
        · have hb1 : (agg == 1) = false := by simp [h1]
          by_cases hz : ps.length = 0
          · have Hres := Lib.hid (HN2.out h1 hz)
            have hbz : ((ps.length : Int) == 0) = true := by simp [hz]
            clear HC2 HN2 HP2 h1
            go_wp2_with fail
            go_ret3
            exact ⟨by rw [Hres.out]; rfl, Below.refl _ _⟩
          · have Hres := Lib.hid (HP2.out h1 hz)
            have hbz : ((ps.length : Int) == 0) = false := beq_eq_false_iff_ne.2 (by omega)
            have hpos : 0 < ps.length := by omega
            obtain ⟨bb, off, rfl, hbl, hc⟩ := HR.out.2 hpos
            have hcs := fun (W : World) (hb : Below w.heap.size w W) (j : Nat) (hj : j < ps.length) => pt_cells (wr := W) hj hc (fun p hp => hb.cell (p := p) (by omega)) hbl
            have Hcs := Lib.hid hcs
            obtain ⟨hc0, hc1, hc2⟩ := hcs w (Below.refl _ _) 0 hpos
            rw [Nat.zero_mul, Nat.add_zero] at hc0 hc1 hc2
            have hlI : (0 : Int) < (ps.length : Int) := by omega
            clear HC2 HN2 HP2 h1 hz hc hcs HR
            have hk0 := cell_stay (.cells #[.string ⟨#[]⟩, .int .i64 0, .int .i64 0] 52) hc0
            have hk1 := cell_stay (.cells #[.string ⟨#[]⟩, .int .i64 0, .int .i64 0] 52) hc1
            have hk2 := cell_stay (.cells #[.string ⟨#[]⟩, .int .i64 0, .int .i64 0] 52) hc2
            go_wp2_with fail
            go_region
            have hP := Blk.new w 52 #[.string ps[0].1, .int .i64 ps[0].2.1, .int .i64 ps[0].2.2]
            have hb1 : Below w.heap.size w (w.alloc (.cells #[.string ps[0].1, .int .i64 ps[0].2.1, .int .i64 ps[0].2.2] 52)).drew := ((Below.refl _ _).alloc (Nat.le_refl _) _).drew
            have HP := Lib.hid (Blk.drew hP)
            have Hb1 := Lib.hid hb1
            have hw0 := (HW.out _ (List.getElem_mem hpos)).2
            have HX0 : Hid (ps[0].2.2 = Qr.xK ps agg 0) := by
              show _ = _
              unfold Qr.xK Qr.leastK Qr.mostK
              rw [Qr.getD_lt hpos]
              split <;> omega
            have HB0 : Hid (ps.getD (Qr.bestK ps 0) Qr.z0 = ps[0]) := Qr.getD_lt hpos
            have HAll : Hid (∀ p ∈ ps, -2147483648 ≤ p.2.2 ∧ p.2.2 ≤ 2147483647) := fun p hp => small_bd (List.all_eq_true.1 ha.out p hp)
            clear hP hb1 hk0 hk1 hk2 hc0 hc1 hc2 ha hw0
            generalize (w.alloc (.cells #[.string ps[0].1, .int .i64 ps[0].2.1, .int .i64 ps[0].2.2] 52)).drew = w1 at *
            obtain ⟨g, hg⟩ : ∃ g, g = w.heap.size := ⟨_, rfl⟩
            rw [← hg] at HP ⊢
            have hgw : w.heap.size ≤ g := by omega
            clear hg
            go_wp2_with fail
            go_loopw [8, 9, 11, 12] (fun vx vs i _ wr => ∃ (k : Nat) (X S : Int) (nb : ByteArray) (tb vb : Int), k ≤ ps.length ∧ i = .int .i64 (k : Int) ∧ vx = .int .i64 X ∧ vs = .int .i64 S ∧ Hid (X = Qr.xK ps agg k) ∧ Hid (S = Qr.sumK ps k) ∧ (-2147483648 * (k : Int) ≤ S ∧ S ≤ 2147483648 * (k : Int)) ∧ Hid (ps.getD (Qr.bestK ps k) Qr.z0 = (nb, tb, vb)) ∧ Hid (Blk wr g 52 #[.string nb, .int .i64 tb, .int .i64 vb]) ∧ Hid (Below w.heap.size w wr)) (fun _ _ i _ _ => ps.length - (intOf i).toNat)
            case atStart => exact ⟨0, _, 0, _, _, _, Nat.zero_le _, rfl, rfl, rfl, HX0, Lib.hid rfl, by omega, HB0, HP, Hb1⟩
            case round =>
              obtain ⟨k, X, S, nb, tb, vb, hk, rfl, rfl, rfl, hX, hS, hSb, hbest, hBk, hbw⟩ := hrel
              obtain ⟨x0, x1, x2⟩ := pt3_of hBk.out
              have f0 := hBk.out.frozen 0
              have f1 := hBk.out.frozen 1
              have f2 := hBk.out.frozen 2
              by_cases hlt : k < ps.length
              · obtain ⟨hc0, hc1, hc2⟩ := Hcs.out wr hbw.out k hlt
                have hvb := HAll.out _ (List.getElem_mem hlt)
                have hgd := Lib.hid (Qr.getD_lt hlt)
                have HSn : Hid (S + ps[k].2.2 = Qr.sumK ps (k + 1)) := by show _ = _; rw [hS.out, Qr.sumK, hgd.out]
                have HX3 : Hid (agg = 3 → min X ps[k].2.2 = Qr.xK ps agg (k + 1)) := fun h => by
                  rw [hX.out]; unfold Qr.xK; rw [if_pos h, if_pos h, Qr.leastK, hgd.out]; omega
                have HX4 : Hid (agg ≠ 3 → max X ps[k].2.2 = Qr.xK ps agg (k + 1)) := fun h => by
                  rw [hX.out]; unfold Qr.xK; rw [if_neg h, if_neg h, Qr.mostK, hgd.out]; omega
                have HY : Hid (tb ≤ ps[k].2.1 → ps.getD (Qr.bestK ps (k + 1)) Qr.z0 = ps[k]) := fun h => by
                  rw [Qr.best_yes (b := Qr.bestK ps k) rfl (by rw [hbest.out, hgd.out]; exact h), hgd.out]
                have HZ : Hid (¬ tb ≤ ps[k].2.1 → ps.getD (Qr.bestK ps (k + 1)) Qr.z0 = (nb, tb, vb)) := fun h => by
                  rw [Qr.best_no (b := Qr.bestK ps k) rfl (by rw [hbest.out, hgd.out]; exact h), hbest.out]
                clear Hcs HAll hgd hX hS hbest HX0 HB0
                generalize ps[k] = p at *
                obtain ⟨nm, t, v⟩ := p
                simp only at hc0 hc1 hc2 hvb HSn HX3 HX4 HY HZ
                have hSn1 : -2147483648 * ((k : Int) + 1) ≤ S + v ∧ S + v ≤ 2147483648 * ((k : Int) + 1) := by omega
                have k0 : (0 : Int) ≤ (k : Int) := by omega
                have k1 : (k : Int) < (ps.length : Int) := by omega
                by_cases h3 : agg = 3
                · have HXn := Lib.hid (HX3.out h3)
                  subst h3
                  by_cases htb : tb ≤ t
                  · have HB := Lib.hid (HY.out htb)
                    clear HX3 HX4 HY HZ
                    go_wp2_with fail
                    all_goals
                      go_quiet (fail)
                      go_wp2_with fail
                      go_roundw
                      case rel => exact ⟨k + 1, _, S + v, nm, t, v, by omega, by go_num, rfl, by go_num, by first | exact HXn | exact Lib.hid (by rw [← HXn.out]; omega), HSn, by omega, HB, Lib.hid (by first | exact ((hBk.out.set_ 0 _).set_ 1 _).set_ 2 _), Lib.hid (((below_drewN hbw.out _).setCell (p := ⟨g, _, none⟩) hgw _).setCell (p := ⟨g, _, none⟩) hgw _ |>.setCell (p := ⟨g, _, none⟩) hgw _)⟩
                      case measure => simp [intOf]; omega
                  · have HB := Lib.hid (HZ.out htb)
                    clear HX3 HX4 HY HZ
                    go_wp2_with fail
                    all_goals
                      go_quiet (fail)
                      go_wp2_with fail
                      go_roundw
                      case rel => exact ⟨k + 1, _, S + v, nb, tb, vb, by omega, by go_num, rfl, by go_num, by first | exact HXn | exact Lib.hid (by rw [← HXn.out]; omega), HSn, by omega, HB, hBk, Lib.hid (below_drewN hbw.out _)⟩
                      case measure => simp [intOf]; omega
                · have HXn := Lib.hid (HX4.out h3)
                  have hz3 : (agg == 3) = false := by simp [h3]
                  clear h3
                  by_cases htb : tb ≤ t
                  · have HB := Lib.hid (HY.out htb)
                    clear HX3 HX4 HY HZ
                    go_wp2_with fail
                    all_goals
                      go_quiet (fail)
                      go_wp2_with fail
                      go_roundw
                      case rel => exact ⟨k + 1, _, S + v, nm, t, v, by omega, by go_num, rfl, by go_num, by first | exact HXn | exact Lib.hid (by rw [← HXn.out]; omega), HSn, by omega, HB, Lib.hid (by first | exact ((hBk.out.set_ 0 _).set_ 1 _).set_ 2 _), Lib.hid (((below_drewN hbw.out _).setCell (p := ⟨g, _, none⟩) hgw _).setCell (p := ⟨g, _, none⟩) hgw _ |>.setCell (p := ⟨g, _, none⟩) hgw _)⟩
                      case measure => simp [intOf]; omega
                  · have HB := Lib.hid (HZ.out htb)
                    clear HX3 HX4 HY HZ
                    go_wp2_with fail
                    all_goals
                      go_quiet (fail)
                      go_wp2_with fail
                      go_roundw
                      case rel => exact ⟨k + 1, _, S + v, nb, tb, vb, by omega, by go_num, rfl, by go_num, by first | exact HXn | exact Lib.hid (by rw [← HXn.out]; omega), HSn, by omega, HB, hBk, Lib.hid (below_drewN hbw.out _)⟩
                      case measure => simp [intOf]; omega
              · have hkn : k = ps.length := by omega
                rw [hkn] at hX hS hbest
                have hle := Qr.least_le ps ps.length 0 hpos
                have hmo := Qr.le_most ps ps.length 0 hpos
                have H0 : Hid (Qr.pickV ps 0 = vb) := by show _ = _; unfold Qr.pickV; rw [if_pos rfl, hbest.out]
                have H2 : Hid (Qr.pickV ps 2 = S) := by show _ = _; rw [pick_sum, hS.out]
                have H3 : Hid (agg = 3 → Qr.pickV ps 3 = X) := fun h => by rw [pick_least, hX.out]; unfold Qr.xK; rw [if_pos h]; omega
                have H4 : Hid (agg = 4 → Qr.pickV ps 4 = X) := fun h => by rw [pick_most, hX.out]; unfold Qr.xK; rw [if_neg (by omega)]; omega
                have hag : agg = 0 ∨ agg = 2 ∨ agg = 3 ∨ agg = 4 := by have := beq_eq_false_iff_ne.1 hb1; omega
                clear hX hS hbest hkn Hcs hle hmo HAll HX0 HB0
                rcases hag with rfl | rfl | rfl | rfl
                all_goals
                  go_wp2_with fail
                  go_ret3
                  exact ⟨by rw [Hres.out]; first | (rw [H0.out]; rfl) | (rw [H2.out]; rfl) | (rw [H3.out (by trivial)]; rfl) | (rw [H4.out (by trivial)]; rfl), hbw.out⟩
end Go.Proofs.Ythdbmgjlegpbaaa
/- The walk through the reference's Get of a segment. -/
namespace Go.Proofs.Ythdbmgjlegpbaaa
open Go.RowKit
set_option linter.unusedVariables false

theorem rd_bad {s : ByteArray} {lo hi a x b e : Int} (h : Wr.getN s.data.toList a = (x, b, e)) (hb : e ≠ 0 ∨ x < lo ∨ hi < x) : Pt.rdNum s lo hi (a, false) = (0, (a, true)) := by
  unfold Pt.rdNum; simp only; rw [h]; simp only
  rw [if_pos (by rcases hb with k | k | k; exact .inl k; exact .inr (.inl k); exact .inr (.inr (.inl k)))]
theorem rd_good {s : ByteArray} {lo hi a x b : Int} (h : Wr.getN s.data.toList a = (x, b, 0)) (hb : lo ≤ x ∧ x ≤ hi) : Pt.rdNum s lo hi (a, false) = (x, (b, false)) := by
  unfold Pt.rdNum; simp only; rw [h]; simp only
  rw [if_neg (by rintro (k | k | k | k); exact k rfl; omega; omega; cases k)]
theorem rd_true {s : ByteArray} {lo hi a : Int} : Pt.rdNum s lo hi (a, true) = (0, (a, true)) := by
  unfold Pt.rdNum; rw [if_pos (.inr (.inr (.inr rfl)))]
section
variable {s : ByteArray} {x a y b e : Int}
theorem rc_mark (h : s.extract 0 4 ≠ Sg.mark) : Sg.colsR s = Sg.no := cols_bad (r := (Pt.rdNum s 1 512 (4, false)).1) (st1 := (Pt.rdNum s 1 512 (4, false)).2) rfl rfl (.inr h)
theorem rc_bad1 (h : Wr.getN s.data.toList 4 = (x, a, e)) (hb : e ≠ 0 ∨ x < 1 ∨ 512 < x) : Sg.colsR s = Sg.no := cols_bad (rd_bad h hb) rd_true (.inl rfl)
theorem rc_bad2 (h : Wr.getN s.data.toList 4 = (x, a, 0)) (h1 : 1 ≤ x ∧ x ≤ 512) (h2 : Wr.getN s.data.toList a = (y, b, e)) (hb : e ≠ 0 ∨ y < 0 ∨ 64 < y) : Sg.colsR s = Sg.no := cols_bad (rd_good h h1) (rd_bad h2 hb) (.inl rfl)
end
theorem getTexts_size (s : ByteArray) (a m : Int) : ∀ x ∈ (Cl.getTexts s a m).1, x.size ≤ s.size := by
  have key2 : ∀ (n : Nat) (ws : List ByteArray) (a : Int) (r : List ByteArray × Int), (∀ x ∈ ws, x.size ≤ s.size) → Cl.rdWords s n ws a = some r → ∀ x ∈ r.1, x.size ≤ s.size := by
    intro n
    induction n with
    | zero => intro ws a r ha h; simp [Cl.rdWords] at h; rw [← h]; exact ha
    | succ n ih =>
      intro ws a r ha h
      rw [Cl.rdWords] at h
      split at h
      · have := (Pt.getT_at s a 12).2.2
        exact ih _ _ r (fun x hx => by rcases List.mem_append.1 hx with k | k; exact ha x k; rw [List.mem_singleton.1 k]; exact this) h
      · cases h
  have key : ∀ (ws : List ByteArray) (n used : Nat) (a : Int) (r : List ByteArray × Nat × Int), (∀ x ∈ ws, x.size ≤ s.size) → Cl.rdPlaces s.data.toList ws n used a = some r → ∀ x ∈ r.1, x.size ≤ s.size := by
    intro ws n
    induction n with
    | zero => intro used a r ha h; simp [Cl.rdPlaces] at h; rw [← h]; simp
    | succ n ih =>
      intro used a r ha h
      rw [Cl.rdPlaces] at h
      split at h
      · rw [Option.map_eq_some_iff] at h
        obtain ⟨q, hq, rfl⟩ := h
        intro x hx
        rcases List.mem_cons.1 hx with rfl | hx
        · rw [List.getD_eq_getElem?_getD]
          generalize (Wr.getN s.data.toList a).1.toNat = i
          cases hi : ws[i]? with
          | none => exact Nat.zero_le _
          | some y => exact ha y (List.mem_of_getElem? hi)
        · exact ih _ _ q ha hq x hx
      · cases h
  unfold Cl.getTexts
  split
  · simp
  · split
    · simp
    · split
      · simp
      · rename_i hw
        split
        · simp
        · rename_i hr
          split
          · exact key _ _ _ _ _ (key2 _ _ _ _ (by simp) hw) hr
          · simp
theorem zip_size {n : Nat} {N : List ByteArray} {T V : List Int} (hN : ∀ x ∈ N, x.size ≤ 9223372036854775807) : ∀ p ∈ Sg.zip n N T V, p.1.size ≤ 9223372036854775807 := by
  intro p hp
  unfold Sg.zip at hp
  rw [List.mem_map] at hp
  obtain ⟨i, _, rfl⟩ := hp
  show (N.getD i ⟨#[]⟩).size ≤ _
  rw [List.getD_eq_getElem?_getD]
  cases h : N[i]? with
  | none => exact Nat.zero_le _
  | some y => exact hN y (List.mem_of_getElem? h)
set_option maxRecDepth 100000 in
set_option maxHeartbeats 3200000 in
theorem rsgget_any (s : ByteArray) (w : World) (hs : s.size ≤ 140737488355328) :
    Calls Try.prog 38 #[.string s] w (GetPost w (Sg.getR s)) := by
  obtain ⟨i0, hi, hz0, hz1, hz2⟩ := info_parts info_pt
  by_cases h12 : s.size < 12
  · have HR := Lib.hid (get_short h12)
    have HB := Lib.hid (Below.refl w.heap.size w)
    generalize Sg.getR s = res at *
    go_enter Try.func38, Try.ntmps38
    go_wp2_with fail
    go_ret3
    exact ⟨_, by rw [HR.out]; rfl, by rw [HR.out]; exact own_nil _ _ _ _, HB.out⟩
  · obtain ⟨m, hm⟩ : ∃ m, s.size = m + 8 := ⟨s.size - 8, by omega⟩
    have hm4 : 4 ≤ m := by omega
    have d12 : decide ((m : Int) + 8 < 12) = false := decide_eq_false (by omega)
    have d12' : decide (m + 8 < 12) = false := decide_eq_false (by omega)
    have hbs : (s.extract 0 m).size = m := by rw [ByteArray.size_extract]; omega
    have HTl := Lib.hid (get_tail (b := s.extract 0 m) (t := s.extract m (m + 8)) hm hm4 rfl rfl)
    have HCl := Lib.hid (get_cols (b := s.extract 0 m) (t := s.extract m (m + 8)) hm hm4 rfl rfl)
    have HGd := Lib.hid (get_good (b := s.extract 0 m) (t := s.extract m (m + 8)) hm hm4 rfl rfl)
    have HH := fun W => Lib.hid (rhash_any (s.extract 0 m) W (by unfold maxLen; omega))
    generalize Sg.getR s = res at *
    go_enter Try.func38, Try.ntmps38
    go_wp2_with fail
    have hhl := Sm.hashL_lt (s.extract 0 m).data.toList
    have HT := fun W => Lib.hid (reight_any (Sm.hashL (s.extract 0 m).data.toList) W hhl)
    have hsl : s.extract m s.size = s.extract m (m + 8) := by rw [hm]
    have hle : (m : Int) ≤ (m : Int) + 8 := by omega
    have hle2 : (m : Int) ≤ (s.size : Int) := by omega
    have hle3 : (0 : Int) ≤ (m : Int) := by omega
    have hw8 : IntKind.i64.wrap ((m : Int) + 8 - 8) = (m : Int) := by rw [show (m : Int) + 8 - 8 = (m : Int) from by omega]; exact IntWalk.i64_in _ (by omega)
    have hw9 : IntKind.i64.wrap ((s.size : Int) - 8) = (m : Int) := by rw [show (s.size : Int) - 8 = (m : Int) from by omega]; exact IntWalk.i64_in _ (by omega)
    generalize Sm.hashL (s.extract 0 m).data.toList = hh at *
    generalize Sg.tailB hh = TB at *
    by_cases htl : TB = s.extract m (m + 8)
    · have hz : (TB.toList == (s.extract m (m + 8)).toList) = true := str_eq_of htl
      have HCl' := Lib.hid (HCl.out htl)
      have HGd' := Lib.hid (HGd.out htl)
      clear htl HTl HCl HGd
      refine wp_region_aft w.heap.size w (by kernel_rfl) (by kernel_rfl) (Below.refl _ _) ?_
      repeat (go_big_quiet_step (first | (go_at_call 67; with_reducible exact aft_same (Hid.out (HH _))) | (go_at_call 66; with_reducible exact aft_new (Nat.le_refl _) (Hid.out (HT _)))))
      refine wpQuiet_nil ?_
      rintro _ ⟨x, rfl⟩
      have HB := Lib.hid x.below
      have hs3 := x.below.size
      generalize x.world = w3 at *
      generalize s.extract 0 m = bd at *
      have HNo := Lib.hid (fun h : Sg.colsR bd = Sg.no => HCl'.out (by rw [h]))
      have hb4 : 4 ≤ bd.size := by omega
      have hb5 : bd.size ≤ 140737488355328 := by omega
      clear HH HT hw8 hw9 hsl
      by_cases hmk : bd.extract 0 4 = Sg.mark
      · have hme : ((bd.extract 0 4).toList == [83, 69, 71, 49]) = true := by rw [hmk]; decide +kernel
        have hme2 : ((bd.extract 0 4).toList == (⟨#[83, 69, 71, 49]⟩ : ByteArray).toList) = true := by rw [hmk]; decide +kernel
        have Hmk := Lib.hid hmk
        have G1 := fun W => Lib.hid (rgetNum_any bd 4 W (by omega) (by omega))
        have hg1 := getN_bd' bd 4 (by omega)
        have B1 := @rc_bad1 bd
        have B2 := @rc_bad2 bd
        have Gd := @rd_good bd 1 512 4
        clear hmk
        generalize Wr.getN bd.data.toList 4 = X1 at *
        obtain ⟨x, a1, e1⟩ := X1
        simp only [gnV] at G1 hg1
        by_cases he1 : e1 = 0
        · subst he1
          by_cases hx1 : x < 1
          · clear B2 Gd
            have HR := Lib.hid (HNo.out (B1 rfl (.inr (.inl hx1))))
            clear B1 HNo HCl' HGd'
            go_wp2_with fail
            refine (G1 _).out.mono ?_
            rintro e w' ⟨rfl, rfl⟩
            clear G1
            go_wp2_with fail
            go_ret3
            exact ⟨_, by rw [HR.out]; rfl, by rw [HR.out]; exact own_nil _ _ _ _, HB.out⟩
          · by_cases hx2 : 512 < x
            · clear B2 Gd
              have HR := Lib.hid (HNo.out (B1 rfl (.inr (.inr hx2))))
              clear B1 HNo HCl' HGd'
              go_wp2_with fail
              refine (G1 _).out.mono ?_
              rintro e w' ⟨rfl, rfl⟩
              clear G1
              go_wp2_with fail
              go_ret3
              exact ⟨_, by rw [HR.out]; rfl, by rw [HR.out]; exact own_nil _ _ _ _, HB.out⟩
            · have dx1 : decide (x < 1) = false := decide_eq_false hx1
              have dx2 : decide (512 < x) = false := decide_eq_false hx2
              have Hd1 := Lib.hid (Gd rfl (by omega))
              have G2 := fun W => Lib.hid (rgetNum_any bd a1 W (by omega) hg1.1)
              have hg2 := getN_bd' bd a1 (by omega)
              have B2' := fun y b e h hb => @B2 x a1 y b e rfl (by omega) h hb
              have Gd2 := @rd_good bd 0 64 a1
              clear B1 B2 Gd
              generalize Wr.getN bd.data.toList a1 = X2 at *
              obtain ⟨y, a2, e2⟩ := X2
              simp only [gnV] at G2 hg2
              have HB2 := Lib.hid (fun hb => HNo.out (B2' y a2 e2 rfl hb))
              clear B2'
              go_wp2_with fail
              refine (G1 _).out.mono ?_
              rintro e w' ⟨rfl, rfl⟩
              clear G1
              go_wp2_with fail
              refine (G2 _).out.mono ?_
              rintro e w' ⟨rfl, rfl⟩
              clear G2
              by_cases he2 : e2 = 0
              · by_cases hy1 : y < 0
                · have HR := Lib.hid (HB2.out (.inr (.inl hy1)))
                  subst he2
                  clear HB2 Gd2 HNo HCl' HGd'
                  go_wp2_with fail
                  go_ret3
                  exact ⟨_, by rw [HR.out]; rfl, by rw [HR.out]; exact own_nil _ _ _ _, HB.out⟩
                · by_cases hy2 : 64 < y
                  · have HR := Lib.hid (HB2.out (.inr (.inr hy2)))
                    subst he2
                    clear HB2 Gd2 HNo HCl' HGd'
                    go_wp2_with fail
                    go_ret3
                    exact ⟨_, by rw [HR.out]; rfl, by rw [HR.out]; exact own_nil _ _ _ _, HB.out⟩
                  · subst he2
                    have Hd2 := Lib.hid (Gd2 rfl (by omega))
                    obtain ⟨n, rfl⟩ : ∃ n : Nat, y = n := ⟨y.toNat, by omega⟩
                    have dy1 : decide ((n : Int) < 0) = false := decide_eq_false hy1
                    have dy2 : decide (64 < (n : Int)) = false := decide_eq_false hy2
                    have dy3 : decide (64 < n) = false := decide_eq_false (by omega)
                    have hn64 : n ≤ 64 := by omega
                    have H3 := fun W => Lib.hid (rgetTexts_any bd a2 (n : Int) W (by omega) hg2.1)
                    have hat3 := getTexts_at bd a2 (n : Int) (by omega)
                    have hszN := getTexts_size bd a2 (n : Int)
                    have CN' := fun N T V b c d e f g => @cols_no bd x (a1, false) n a2 N T V b c d e f g Hd1.out Hd2.out
                    have CY' := fun N T V b c => @cols_yes bd x (a1, false) n a2 N T V b c Hd1.out Hd2.out Hmk.out
                    have GL := @getTexts_ok_len bd a2 n
                    clear HB2 Gd2 Hd1 Hd2
                    generalize Cl.getTexts bd a2 (n : Int) = Y1 at *
                    obtain ⟨N, b, e3⟩ := Y1
                    simp only at hat3 hszN
                    have H4 := fun W => Lib.hid (rgetInts_any bd b (n : Int) W (by omega) hat3)
                    have hat4 := getInts_at bd b (n : Int) (by omega) hat3
                    have hwT := getInts_wf bd b (n : Int)
                    have GT := @getInts_ok_len bd b n
                    have CN2 := fun T V c d f g h4 h5 h => CN' N T V b c d e3 f g rfl h4 h5 h
                    have CY2 := fun (he : e3 = 0) T V c h4 h5 => CY' N T V b c (by rw [he]) h4 h5
                    clear CN' CY'
                    generalize Cl.getInts bd b (n : Int) = Y2 at *
                    obtain ⟨T, c, e4⟩ := Y2
                    simp only at hat4 hwT
                    have H5 := fun W => Lib.hid (rgetInts_any bd c (n : Int) W (by omega) hat4)
                    have hwV := getInts_wf bd c (n : Int)
                    have GV := @getInts_ok_len bd c n
                    have CN3 := fun V d g h5 h => CN2 T V c d e4 g rfl h5 h
                    have CY3 := fun (he : e3 = 0) (hf : e4 = 0) V h5 => CY2 he T V c (by rw [hf]) h5
                    clear CN2 CY2
                    generalize Cl.getInts bd c (n : Int) = Y3 at *
                    obtain ⟨V, d, e5⟩ := Y3
                    simp only at hwV
                    have CN4 := Lib.hid (fun h => HNo.out (CN3 V d e5 rfl h))
                    have CY4 := Lib.hid (fun (he : e3 = 0) (hf : e4 = 0) (hg : e5 = 0) (hd : d = (bd.size : Int)) => CY3 he hf V (by rw [hg, hd]))
                    have HwT := Lib.hid hwT
                    have HwV := Lib.hid hwV
                    have HzN : Hid (∀ x ∈ N, x.size ≤ 9223372036854775807) := fun x hx => by have := hszN x hx; omega
                    have GL' := Lib.hid (fun (h : e3 = 0) => GL (N := N) (c := b) (by rw [h]))
                    have GT' := Lib.hid (fun (h : e4 = 0) => (GT (T := T) (c := c) (by rw [h])).1)
                    have GV' := Lib.hid (fun (h : e5 = 0) => (GV (T := V) (c := d) (by rw [h])).1)
                    clear CN3 CY3 hwT hwV GL GT GV hszN HNo
                    have hs2 := hs3
                    go_wp2_with fail
                    refine (H3 w3).out.mono ?_
                    rintro e w4 ⟨vN, rfl, hownN, hb4'⟩
                    have hs4 := hb4'.size
                    have HB4 : Hid (Below w.heap.size w w4) := HB.out.trans (hb4'.mono hs3)
                    obtain ⟨AN, cN, rfl, hcapN, hrN⟩ := own_slice hownN
                    have HrN := Lib.hid hrN
                    clear H3 hownN hb4' hrN HB
                    by_cases he3 : e3 = 0
                    · go_wp2_with fail
                      refine (H4 w4).out.mono ?_
                      rintro e w5 ⟨vT, rfl, hownT, hb5'⟩
                      have hs5 := hb5'.size
                      have HB5 : Hid (Below w.heap.size w w5) := HB4.out.trans (hb5'.mono (by omega))
                      obtain ⟨AT, cT, rfl, hcapT, hrT⟩ := own_slice hownT
                      have HrT := Lib.hid hrT
                      have HrN4 := Lib.hid (HrN.out.below hb5')
                      clear H4 hownT hb5' hrT HrN HB4
                      by_cases he4 : e4 = 0
                      · go_wp2_with fail
                        refine (H5 w5).out.mono ?_
                        rintro e w6 ⟨vV, rfl, hownV, hb6⟩
                        have hs6 := hb6.size
                        have HB : Hid (Below w.heap.size w w6) := HB5.out.trans (hb6.mono (by omega))
                        obtain ⟨AV, cV, rfl, hcapV, hrV⟩ := own_slice hownV
                        have HrV := Lib.hid hrV
                        have HrN5 := Lib.hid ((HrN4.out.below (hb6.mono hs5)).more (show w4.heap.size ≤ w6.heap.size by omega))
                        have HrT5 := Lib.hid ((HrT.out.below hb6).more (show w5.heap.size ≤ w6.heap.size by omega))
                        clear H5 hownV hb6 hrV HrN4 HrT HB5
                        simp only at HrN5 HrT5 HrV
                        by_cases he5 : e5 = 0
                        · by_cases hd : d = (bd.size : Int)
                          · have HQ := Lib.hid (CY4.out he3 he4 he5 hd)
                            have hlN := GL'.out he3
                            have hlT := GT'.out he4
                            have hlV := GV'.out he5
                            subst he3 he4 he5
                            subst hd
                            have HRn := Lib.hid (fun (h : Sg.riseB (Sg.zip n N T V) = false) => HCl'.out (by rw [HQ.out]; exact h))
                            have HRy := Lib.hid (fun (h : Sg.riseB (Sg.zip n N T V) = true) => (HGd'.out (by rw [HQ.out]; exact h)).trans (show _ = (x, Sg.zip n N T V, 0) by rw [HQ.out]))
                            have Hwz := Lib.hid (zip_wf (n := n) (N := N) HwT.out HwV.out)
                            have Hzz := Lib.hid (zip_size (n := n) (T := T) (V := V) HzN.out)
                            have l1 : n ≤ N.length := by omega
                            have l2 : n ≤ T.length := by omega
                            have l3 : n ≤ V.length := by omega
                            clear HwT HwV CY4 CN4 GL' GT' GV' hlN hlT hlV HQ HCl' HGd' HzN
                            go_wp2_with fail
                            go_loopw [21, 22] (fun vp i wr => ∃ k : Nat, k ≤ n ∧ i = .int .i64 (k : Int) ∧ Hid (wr.ownsRow w6.heap.size 52 3 vp k ((Sg.zip k N T V).flatMap pointCells)) ∧ Hid (Below w6.heap.size w6 wr)) (fun _ i _ => n - (intOf i).toNat)
                            case atStart => exact ⟨0, Nat.zero_le _, rfl, Lib.hid (own_nil _ _ _ _), Lib.hid (Below.refl _ _)⟩
                            case round =>
                              obtain ⟨k, hk, rfl, hown, hbw⟩ := hrel
                              have hsw := hbw.out.size
                              by_cases hlt : k < n
                              · have g1 : k < N.length := by omega
                                have g2 : k < T.length := by omega
                                have g3 : k < V.length := by omega
                                obtain ⟨bN, oN, rfl, hbN, hxN⟩ := HrN5.out.2 (by omega)
                                obtain ⟨bT, oT, rfl, hbT, hxT⟩ := HrT5.out.2 (by omega)
                                obtain ⟨bV, oV, rfl, hbV, hxV⟩ := HrV.out.2 (by omega)
                                have cN' := map_cell (wr := wr) (B := w6.heap.size) g1 hxN (fun p hp => hbw.out.cell hp) hbN
                                have cT' := map_cell (wr := wr) (B := w6.heap.size) g2 hxT (fun p hp => hbw.out.cell hp) hbT
                                have cV' := map_cell (wr := wr) (B := w6.heap.size) g3 hxV (fun p hp => hbw.out.cell hp) hbV
                                have Hz := Lib.hid (zip_snoc k N T V g1 g2 g3)
                                have nN := Ne.symm (own_ne_lt hown.out hbN)
                                have nT := Ne.symm (own_ne_lt hown.out hbT)
                                have nV := Ne.symm (own_ne_lt hown.out hbV)
                                have k0 : (0 : Int) ≤ (k : Int) := Int.natCast_nonneg _
                                have k1 : (k : Int) < (N.length : Int) := by omega
                                have k2 : (k : Int) < (T.length : Int) := by omega
                                have k3 : (k : Int) < (V.length : Int) := by omega
                                clear hxN hxT hxV HrN5 HrT5 HrV
                                go_wp2_with fail
                                have hm64 : k + 1 ≤ maxLen := by unfold maxLen; omega
                                go_region_held3 (fun w' => w'.cell? ⟨bN, oN + k, none⟩ = some (.string N[k]) ∧ w'.cell? ⟨bT, oT + k, none⟩ = some (.int .i64 T[k]) ∧ w'.cell? ⟨bV, oV + k, none⟩ = some (.int .i64 V[k]))
                                  (first
                                    | go_keep
                                    | (go_split_ands
                                       refine ⟨?_, ?_, ?_⟩
                                       · (rw [hgrow.cell_far _ (by simp; omega) nN]; assumption)
                                       · (rw [hgrow.cell_far _ (by simp; omega) nT]; assumption)
                                       · (rw [hgrow.cell_far _ (by simp; omega) nV]; assumption)))
                                  ((refine step_append_lies _ (by rfl) _ _ _ (by rfl) w6.heap.size 52 i0 _ 3 32 Try.underlying38 hi hz0 hz1 hz2 rfl (by omega) u21 k _ (by rfl) ((hown.out.alloc _).drew)
                                      ⟨wr.heap.size, 0, none⟩ 1 1 [.string N[k], .int .i64 T[k], .int .i64 V[k]] (by rfl) (by rfl) (World.news_of_block (cs := #[.string N[k], .int .i64 T[k], .int .i64 V[k]]) (t := 52) (fr := (0, 0)) (heap_alloc_new wr _)) (by simp [Value.oneCell'])
                                      (by omega) hm64 (by omega) (by simp; omega) (wr.heap.size + 1) (by simp) ?_; intro gg cap w1 hown1 hgrow hat hlt))
                                rename_i hlt0 _
                                have hbw1 : Hid (Below w6.heap.size w6 w1) := (((hbw.out.alloc hsw _).drew).grown hgrow (by simp; omega) (fun j hj => (own_lt hown.out hj).1))
                                have hown2 : Hid (w1.ownsRow w6.heap.size 52 3 (.slice (some ⟨gg, 0, none⟩) (k + 1) cap) (k + 1) ((Sg.zip (k + 1) N T V).flatMap pointCells)) := by
                                  rw [Hz.out, List.flatMap_append]; exact hown1
                                clear hown1 hgrow hat hown hbw Hz
                                go_wp2_with fail
                                go_roundw
                                case rel => exact ⟨k + 1, by omega, by go_num, hown2, hbw1⟩
                                case measure => simp [intOf]; omega
                              · have hkn : k = n := by omega
                                subst hkn
                                obtain ⟨AP, cP, rfl, hcapP, hrP⟩ := own_slice hown.out
                                have HM := Lib.hid (rrises_any AP cP (Sg.zip k N T V) wr wr.heap.size (by rw [zip_len]; exact hrP) (Nat.le_refl _) (by rw [zip_len]; omega) Hwz.out Hzz.out)
                                rw [zip_len] at HM
                                clear hrP Hwz Hzz
                                generalize hrb : Sg.riseB (Sg.zip k N T V) = ok at *
                                clear hrb
                                go_wp2_with fail
                                refine HM.out.mono ?_
                                rintro e w7 ⟨rfl, hb7⟩
                                have Hown7 := Lib.hid (own_only hown.out (Only.new (fun _ => False) hb7) (fun _ _ h => h))
                                have HB7 : Hid (Below w.heap.size w w7) := HB.out.trans ((hbw.out.trans (hb7.mono hsw)).mono (by omega))
                                clear hb7 HB
                                have HB := HB7
                                cases ok
                                · have HR := Lib.hid (HRn.out rfl)
                                  clear HRn HRy
                                  go_wp2_with fail
                                  go_ret3
                                  exact ⟨_, by rw [HR.out]; rfl, by rw [HR.out]; exact own_nil _ _ _ _, HB.out⟩
                                · have HR := Lib.hid (HRy.out rfl)
                                  clear HRn HRy
                                  go_wp2_with fail
                                  go_ret3
                                  exact ⟨_, by rw [HR.out]; rfl, by rw [HR.out]; simp only; rw [zip_len]; exact own_down Hown7.out (by omega), HB.out⟩
                          · have HR := Lib.hid (CN4.out (.inr (.inr (.inr hd))))
                            subst he3 he4 he5
                            clear CY4 CN4 GL' GT' GV' HwT HwV HCl' HGd'
                            go_wp2_with fail
                            go_ret3
                            exact ⟨_, by rw [HR.out]; rfl, by rw [HR.out]; exact own_nil _ _ _ _, HB.out⟩
                        · have HR := Lib.hid (CN4.out (.inr (.inr (.inl he5))))
                          subst he3 he4
                          clear CY4 CN4 GL' GT' GV' HwT HwV HCl' HGd'
                          go_wp2_with fail
                          go_ret3
                          exact ⟨_, by rw [HR.out]; rfl, by rw [HR.out]; exact own_nil _ _ _ _, HB.out⟩
                      · have HR := Lib.hid (CN4.out (.inr (.inl he4)))
                        have HB := HB5
                        subst he3
                        clear CY4 CN4 GL' GT' GV' HwT HwV HCl' HGd'
                        go_wp2_with fail
                        go_ret3
                        exact ⟨_, by rw [HR.out]; rfl, by rw [HR.out]; exact own_nil _ _ _ _, HB.out⟩
                    · have HR := Lib.hid (CN4.out (.inl he3))
                      have HB := HB4
                      clear CY4 CN4 GL' GT' GV' HwT HwV HCl' HGd'
                      go_wp2_with fail
                      go_ret3
                      exact ⟨_, by rw [HR.out]; rfl, by rw [HR.out]; exact own_nil _ _ _ _, HB.out⟩
              · have HR := Lib.hid (HB2.out (.inl he2))
                clear HB2 Gd2 HNo HCl' HGd'
                go_wp2_with fail
                go_ret3
                exact ⟨_, by rw [HR.out]; rfl, by rw [HR.out]; exact own_nil _ _ _ _, HB.out⟩
        · clear B2 Gd
          have HR := Lib.hid (HNo.out (B1 rfl (.inl he1)))
          clear B1 HNo HCl' HGd'
          go_wp2_with fail
          refine (G1 _).out.mono ?_
          rintro e w' ⟨rfl, rfl⟩
          clear G1
          go_wp2_with fail
          go_ret3
          exact ⟨_, by rw [HR.out]; rfl, by rw [HR.out]; exact own_nil _ _ _ _, HB.out⟩
      · have hme : ((bd.extract 0 4).toList == [83, 69, 71, 49]) = false := mark_ne hmk
        have hme2 : ((bd.extract 0 4).toList == (⟨#[83, 69, 71, 49]⟩ : ByteArray).toList) = false := str_ne_of (b := Sg.mark) hmk
        have HR := Lib.hid (HNo.out (rc_mark hmk))
        clear HNo HCl' HGd' hmk
        go_wp2_with fail
        go_ret3
        exact ⟨_, by rw [HR.out]; rfl, by rw [HR.out]; exact own_nil _ _ _ _, HB.out⟩
    · have hz : (TB.toList == (s.extract m (m + 8)).toList) = false := str_ne_of htl
      have HR := Lib.hid (HTl.out htl)
      clear htl HTl HCl HGd
      refine wp_region_aft w.heap.size w (by kernel_rfl) (by kernel_rfl) (Below.refl _ _) ?_
      repeat (go_big_quiet_step (first | (go_at_call 67; with_reducible exact aft_same (Hid.out (HH _))) | (go_at_call 66; with_reducible exact aft_new (Nat.le_refl _) (Hid.out (HT _)))))
      refine wpQuiet_nil ?_
      rintro _ ⟨x, rfl⟩
      have HB := Lib.hid x.below
      generalize x.world = w3 at *
      go_wp2_with fail
      go_ret3
      exact ⟨_, by rw [HR.out]; rfl, by rw [HR.out]; exact own_nil _ _ _ _, HB.out⟩
end Go.Proofs.Ythdbmgjlegpbaaa
/- A segment there and back: plain (chapter 13). No program in sight. -/
namespace Go.Proofs.Ythdbmgjlegpbaaa
open Go.RowKit
set_option linter.unusedVariables false

theorem names_len (ps : List Pt.Point) : (Sg.names ps).length = ps.length := by simp [Sg.names]
theorem times_len (ps : List Pt.Point) : (Sg.times ps).length = ps.length := by simp [Sg.times]
theorem vals_len (ps : List Pt.Point) : (Sg.vals ps).length = ps.length := by simp [Sg.vals]
theorem zip_back (ps : List Pt.Point) : Sg.zip ps.length (Sg.names ps) (Sg.times ps) (Sg.vals ps) = ps := by
  apply List.ext_getElem (by simp [Sg.zip])
  intro i h1 h2
  simp [Sg.zip, Sg.names, Sg.times, Sg.vals, List.getD_eq_getElem?_getD, List.getElem?_eq_getElem h2]
theorem sg_names_short {ps : List Pt.Point} (h : Sg.riseB ps = true) : Cl.shortB (Sg.names ps) = true := by
  unfold Cl.shortB; rw [List.all_eq_true]; exact fun x hx => decide_eq_true (names_short (rise_may h) x hx)
theorem sg_times_all {ps : List Pt.Point} (h : Sg.riseB ps = true) : (Sg.times ps).all Pt.smallB = true := List.all_eq_true.2 (times_small (rise_may h))
theorem sg_vals_all {ps : List Pt.Point} (h : Sg.riseB ps = true) : (Sg.vals ps).all Pt.smallB = true := List.all_eq_true.2 (vals_small (rise_may h))
theorem sg_ints_list {xs : List Int} (h : xs.all Pt.smallB = true) : (Cl.intsB xs).data.toList = Cl.intsD 0 xs := by unfold Cl.intsB; rw [if_pos h]
theorem sg_texts_list {xs : List ByteArray} (h : Cl.shortB xs = true) : (Cl.textsB xs).data.toList = Cl.textsL xs := by unfold Cl.textsB; rw [if_pos h]
theorem body_list {r : Int} {ps : List Pt.Point} (h : Sg.riseB ps = true) : (Sg.bodyB r ps).data.toList = [83, 69, 71, 49] ++ (Wr.putL r ++ (Wr.putL (ps.length : Int) ++ (Cl.textsL (Sg.names ps) ++ (Cl.intsD 0 (Sg.times ps) ++ Cl.intsD 0 (Sg.vals ps))))) := by
  unfold Sg.bodyB
  simp only [Wr.append_list, Wr.putB_list, sg_texts_list (sg_names_short h), sg_ints_list (sg_times_all h), sg_ints_list (sg_vals_all h), List.append_assoc]
  rfl
theorem cols_body {r : Int} {ps : List Pt.Point} (hr : 1 ≤ r ∧ r ≤ 512) (hp : Sg.riseB ps = true) : Sg.colsR (Sg.bodyB r ps) = (r, ps, true) := by
  have hl := body_list (r := r) hp
  have hn := rise_len hp
  have hz := zip_back ps
  have hsh := sg_names_short hp
  have hti := sg_times_all hp
  have hva := sg_vals_all hp
  have hN := names_len ps
  have hT := times_len ps
  have hV := vals_len ps
  have hsz : (Sg.bodyB r ps).size = (Sg.bodyB r ps).data.toList.length := (Wr.len_list _).symm
  rw [hl] at hsz
  generalize Sg.bodyB r ps = s at *
  generalize Sg.names ps = N at *
  generalize Sg.times ps = T at *
  generalize Sg.vals ps = V at *
  have hm : s.extract 0 4 = Sg.mark := by
    apply Wr.ext_list
    rw [Lib.extract_data, hl]; rfl
  have g1 : Wr.getN s.data.toList 4 = (r, 4 + ((Wr.putL r).length : Int), 0) := by
    have := Wr.getN_put [83, 69, 71, 49] (Wr.putL (ps.length : Int) ++ (Cl.textsL N ++ (Cl.intsD 0 T ++ Cl.intsD 0 V))) r ((Wr.isNum_iff r).2 (by omega))
    rw [← hl] at this
    simpa using this
  have g2 : Wr.getN s.data.toList (4 + ((Wr.putL r).length : Int)) = ((ps.length : Int), 4 + ((Wr.putL r).length : Int) + ((Wr.putL (ps.length : Int)).length : Int), 0) := by
    have := Wr.getN_put ([83, 69, 71, 49] ++ Wr.putL r) (Cl.textsL N ++ (Cl.intsD 0 T ++ Cl.intsD 0 V)) (ps.length : Int) ((Wr.isNum_iff _).2 (by omega))
    rw [List.append_assoc, ← hl, List.length_append, Int.natCast_add] at this
    exact this
  have g3 := Cl.getTexts_put s N ([83, 69, 71, 49] ++ Wr.putL r ++ Wr.putL (ps.length : Int)) (Cl.intsD 0 T ++ Cl.intsD 0 V) (by rw [hl]; simp) hsh (by omega)
  have g4 := Cl.getInts_put s T ([83, 69, 71, 49] ++ Wr.putL r ++ Wr.putL (ps.length : Int) ++ Cl.textsL N) (Cl.intsD 0 V) (by rw [hl]; simp) hti (by omega)
  have g5 := Cl.getInts_put s V ([83, 69, 71, 49] ++ Wr.putL r ++ Wr.putL (ps.length : Int) ++ Cl.textsL N ++ Cl.intsD 0 T) [] (by rw [hl]; simp) hva (by omega)
  rw [hN] at g3
  rw [hT] at g4
  rw [hV] at g5
  simp only [List.length_append, Int.natCast_add, List.length_cons, List.length_nil] at g3 g4 g5
  have h1 := rd_good g1 hr
  have h2 := rd_good (lo := 0) (hi := 64) g2 (by omega)
  have hend : (0 : Int) + 1 + 1 + 1 + 1 + ((Wr.putL r).length : Int) + ((Wr.putL (ps.length : Int)).length : Int) + ((Cl.textsL N).length : Int) + ((Cl.intsD 0 T).length : Int) + ((Cl.intsD 0 V).length : Int) = (s.size : Int) := by
    rw [hsz]; simp; omega
  rw [cols_yes (n := ps.length) h1 h2 hm g3 g4 (by rw [← hend]; exact g5), hz, hp]
theorem body_size {r : Int} {ps : List Pt.Point} : 4 ≤ (Sg.bodyB r ps).size := by
  unfold Sg.bodyB
  simp only [ByteArray.size_append]
  have : Sg.mark.size = 4 := rfl
  omega
theorem body_le {r : Int} {ps : List Pt.Point} (h : Sg.riseB ps = true) : (Sg.bodyB r ps).size ≤ 4000 := by
  have h1 := rise_len h
  have h2 := textsB_le (names_short (rise_may h)) (by rw [names_len]; omega)
  have h3 := intsB_le (times_small (rise_may h))
  have h4 := intsB_le (vals_small (rise_may h))
  have h5 := Wr.putL_len r
  have h6 := Wr.putL_len (ps.length : Int)
  rw [names_len] at h2
  rw [times_len] at h3
  rw [vals_len] at h4
  unfold Sg.bodyB
  simp only [ByteArray.size_append, Wr.putB_size]
  have : Sg.mark.size = 4 := rfl
  omega
theorem file_size (b : ByteArray) : (Sg.fileB b).size = b.size + 8 := by
  unfold Sg.fileB; rw [ByteArray.size_append, Sg.tailB_size]
theorem file_list (b : ByteArray) : (Sg.fileB b).data.toList = b.data.toList ++ Sg.tailL (Sm.hashL b.data.toList) := by
  unfold Sg.fileB; rw [Wr.append_list]; rfl
theorem file_front (b : ByteArray) : (Sg.fileB b).extract 0 b.size = b := by
  apply Wr.ext_list
  rw [Lib.extract_data, file_list, ← Wr.len_list]; simp
theorem file_back (b : ByteArray) : (Sg.fileB b).extract b.size (b.size + 8) = Sg.tailB (Sm.hashL b.data.toList) := by
  apply Wr.ext_list
  rw [Lib.extract_data, file_list, ← Wr.len_list]
  have h8 := Sg.tailL_length (Sm.hashL b.data.toList)
  show _ = Sg.tailL _
  generalize Sg.tailL (Sm.hashL b.data.toList) = t at *
  simp [← h8]
theorem get_file {r : Int} {ps : List Pt.Point} (hr : 1 ≤ r ∧ r ≤ 512) (hp : Sg.riseB ps = true) : Sg.getR (Sg.fileB (Sg.bodyB r ps)) = (r, ps, 0) := by
  have hc := cols_body hr hp
  rw [get_good (m := (Sg.bodyB r ps).size) (file_size _) body_size (file_front _) (file_back _) rfl (by rw [hc]), hc]
/-- a byte more: the tail does not fit -/
theorem get_cut {s : ByteArray} (h : s.size < 12) : (Sg.getR s).2.2 = 1300 := by rw [get_short h]
theorem take_set_list {l : List UInt8} (n k : Nat) (b : UInt8) : (l.set k b).take n = (l.take n).set k b := by rw [List.take_set]
/-- one byte turned: the sum tells -/
theorem get_turned {b : ByteArray} (hb : 4 ≤ b.size) (k : Nat) (hk : k < (Sg.fileB b).size) (d : UInt8) (hd : d ≠ (Sg.fileB b)[k]) : Sg.getR (turned (Sg.fileB b) k d) = (0, [], 1301) := by
  have hl := file_list b
  have hsz := file_size b
  have hlen := Wr.len_list b
  have h8 := Sg.tailL_length (Sm.hashL b.data.toList)
  have htl : (turned (Sg.fileB b) k d).data.toList = (Sg.fileB b).data.toList.set k d := rfl
  have hts : (turned (Sg.fileB b) k d).size = b.size + 8 := by rw [turned_size, hsz]
  have hlk : k < (Sg.fileB b).data.toList.length := by rw [Wr.len_list]; exact hk
  have hd' : d ≠ (Sg.fileB b).data.toList[k] := by
    have e : (Sg.fileB b)[k] = (Sg.fileB b).data.toList[k] := by simp; rfl
    rw [← e]; exact hd
  have hx : ∀ a c, ((turned (Sg.fileB b) k d).extract a c).data.toList = (((b.data.toList ++ Sg.tailL (Sm.hashL b.data.toList)).set k d).drop a).take (c - a) := fun a c => by rw [Lib.extract_data, htl, hl]
  have hk2 : k < b.data.toList.length + (Sg.tailL (Sm.hashL b.data.toList)).length := by rw [hlen, h8, ← hsz]; exact hk
  have hdk : d ≠ (b.data.toList ++ Sg.tailL (Sm.hashL b.data.toList))[k]'(by rw [List.length_append]; exact hk2) := by
    intro e; apply hd'; rw [e]; simp only [hl]
  clear hd hd' hl
  have hn : b.size = b.data.toList.length := hlen.symm
  have hsub : b.size + 8 - b.size = 8 := by omega
  refine get_tail (m := b.size) hts hb rfl rfl ?_
  intro he
  have he' : Sg.tailL (Sm.hashL ((turned (Sg.fileB b) k d).extract 0 b.size).data.toList) = ((turned (Sg.fileB b) k d).extract b.size (b.size + 8)).data.toList := congrArg (fun x : ByteArray => x.data.toList) he
  rw [hx, hx, hsub, hn, Nat.sub_zero, List.drop_zero] at he'
  generalize hB : b.data.toList = B at *
  by_cases hkB : k < B.length
  · rw [List.set_append, if_pos hkB, List.take_left' (by simp), List.drop_left' (by simp), List.take_of_length_le (by omega)] at he'
    have h3 := Sg.tail_inj (Sm.hashL_lt _) (Sm.hashL_lt _) he'
    rw [List.set_eq_take_append_cons_drop, if_pos hkB] at h3
    have h4 : B = B.take k ++ B[k] :: B.drop (k + 1) := by rw [← List.drop_eq_getElem_cons hkB, List.take_append_drop]
    have hne : d ≠ B[k] := by
      intro e; apply hdk; rw [List.getElem_append_left hkB]; exact e
    exact Sm.hash_turned (B.take k) (B.drop (k + 1)) d B[k] hne (h3.trans (congrArg Sm.hashL h4))
  · rw [List.set_append, if_neg hkB, List.take_left' rfl, List.drop_left' rfl, List.take_of_length_le (by simp; omega)] at he'
    generalize Sg.tailL (Sm.hashL B) = T at *
    have hlt : k - B.length < T.length := by omega
    have h5 : T[k - B.length] = d := by
      have : T[k - B.length]? = (T.set (k - B.length) d)[k - B.length]? := by rw [← he']
      rw [List.getElem?_set_self hlt, List.getElem?_eq_getElem hlt] at this
      exact Option.some.inj this
    apply hdk
    rw [List.getElem_append_right (by omega)]
    exact h5.symm
end Go.Proofs.Ythdbmgjlegpbaaa
/- The walk through awake of cachetlaw15. -/
namespace Go.Proofs.Ythdbmgjlegpbaaa
open Go.RowKit
set_option linter.unusedVariables false

def Qr.p1 : Pt.Point := (⟨#[97]⟩, 1, 7)
theorem qr_wf1 : Pt.wf Qr.p1 := by unfold Pt.wf Qr.p1; simp
theorem qr_rise1 : Sg.riseB [Qr.p1] = true := by decide +kernel
theorem qr_reads_one (W : World) (p : Pt.Point) : Reads (W.alloc (.cells #[.string p.1, .int .i64 p.2.1, .int .i64 p.2.2] 52)) (W.heap.size + 1) 3 (some ⟨W.heap.size, 0, none⟩) [p].length ([p].flatMap pointCells) :=
  Reads.new W 52 3 1 (pointCells p) rfl
theorem rsgput_one (r : Int) (p : Pt.Point) (W : World) (g : Nat) (hg : W.heap.size = g) (hp : Pt.wf p) (hz : p.1.size ≤ 9223372036854775807) :
    Calls Try.prog 37 #[.int .i64 r, .slice (some ⟨g, 0, none⟩) 1 1] (W.alloc (.cells #[.string p.1, .int .i64 p.2.1, .int .i64 p.2.2] 52)) fun e w' => e = .returned (.tuple #[.string (Sg.putR r [p]).1, .int .i64 (Sg.putR r [p]).2]) ∧ Below (g + 1) (W.alloc (.cells #[.string p.1, .int .i64 p.2.1, .int .i64 p.2.2] 52)) w' := by
  subst hg
  have := rsgput_any r (some ⟨W.heap.size, 0, none⟩) 1 [p] (W.alloc (.cells #[.string p.1, .int .i64 p.2.1, .int .i64 p.2.2] 52)) (W.heap.size + 1) (qr_reads_one W p) (by simp) (by simp) (by simpa using hp) (by simpa using hz)
  simp only [World.size_alloc] at this
  exact this
/-- query.Last of one text and no buffer -/
theorem last_one (S s : ByteArray) (t : Int) (W : World) (g : Nat) (hg : W.heap.size = g) (hS : S.size ≤ 140737488355328) :
    Calls Try.prog 24 #[.slice (some ⟨g, 0, none⟩) 1 1, .slice none 0 0, .string s, .int .i64 t] (W.alloc (.cells #[.string S] 9)) fun e w' => e = .returned (.tuple #[.int .i64 (Qr.lastR [S] [] s t).1, .bool (Qr.lastR [S] [] s t).2.1, .int .i64 (Qr.lastR [S] [] s t).2.2]) ∧ Below (g + 1) (W.alloc (.cells #[.string S] 9)) w' := by
  subst hg
  have := last_any (some ⟨W.heap.size, 0, none⟩) 1 [S] (none, 0, []) s t (W.alloc (.cells #[.string S] 9)) (W.heap.size + 1) (Reads.new W 9 1 1 [.string S] rfl) Reads.none_ (by simp) (by simp) (by simpa using hS) (by simp)
  unfold LastPost at this
  simp only [World.size_alloc] at this
  exact this
theorem qr_last1 : Qr.lastR [Sg.fileB (Sg.bodyB 1 [Qr.p1])] [] ⟨#[97]⟩ 1 = (7, true, 0) := by
  have h : Sg.getR (Sg.fileB (Sg.bodyB 1 [Qr.p1])) = (1, [Qr.p1], 0) := get_file (by omega) qr_rise1
  unfold Qr.lastR Qr.okS
  simp only [List.all_cons, List.all_nil, h, List.map_cons, List.map_nil, Qr.ptsOf]
  decide +kernel
theorem qr_last2 : Qr.lastR [Sg.fileB (Sg.bodyB 1 [Qr.p1])] [] ⟨#[97]⟩ 2 = (0, false, 0) := by
  have h : Sg.getR (Sg.fileB (Sg.bodyB 1 [Qr.p1])) = (1, [Qr.p1], 0) := get_file (by omega) qr_rise1
  unfold Qr.lastR Qr.okS
  simp only [List.all_cons, List.all_nil, h, List.map_cons, List.map_nil, Qr.ptsOf]
  decide +kernel
theorem qr_last3 : Qr.lastR [⟨#[120]⟩] [] ⟨#[97]⟩ 2 = (0, false, 1500) := by
  have h : Sg.getR ⟨#[120]⟩ = (0, [], 1300) := get_short (by decide)
  unfold Qr.lastR Qr.okS
  simp only [List.all_cons, List.all_nil, h, List.map_cons, List.map_nil, Qr.ptsOf]
  decide +kernel
def Qr.p34 : List Pt.Point := [(⟨#[]⟩, 0, 3), (⟨#[]⟩, 0, 4)]
theorem qr_agg : Qr.aggR Qr.p34 2 = (7, true, 0) := by decide +kernel
theorem agg_two (W : World) (g : Nat) (hg : W.heap.size = g) :
    Calls Try.prog 29 #[.slice (some ⟨g, 0, none⟩) 2 2, .int .i64 2] (W.alloc (.cells #[.string ⟨#[]⟩, .int .i64 0, .int .i64 3, .string ⟨#[]⟩, .int .i64 0, .int .i64 4] 52)) fun e w' => e = .returned (.tuple #[.int .i64 7, .bool true, .int .i64 0]) ∧ Below (g + 1) (W.alloc (.cells #[.string ⟨#[]⟩, .int .i64 0, .int .i64 3, .string ⟨#[]⟩, .int .i64 0, .int .i64 4] 52)) w' := by
  subst hg
  have := aggregate_any (some ⟨W.heap.size, 0, none⟩) 2 Qr.p34 2 (W.alloc (.cells #[.string ⟨#[]⟩, .int .i64 0, .int .i64 3, .string ⟨#[]⟩, .int .i64 0, .int .i64 4] 52)) (W.heap.size + 1) (Reads.new W 52 3 2 (Qr.p34.flatMap pointCells) rfl) (by simp) (by decide) (by intro p hp; unfold Qr.p34 at hp; simp at hp; rcases hp with rfl | rfl <;> (unfold Pt.wf; simp))
  rw [qr_agg] at this
  unfold AggPost at this
  simp only [World.size_alloc] at this
  exact this
set_option maxRecDepth 100000 in
set_option maxHeartbeats 2000000 in
theorem awake15 (w : World) : Calls Try.prog 28 #[] w fun e w' => e = .returned (.bool true) ∧ Below w.heap.size w w' := by
  have h1 := fun W g hg => rsgput_one 1 Qr.p1 W g hg qr_wf1 (by decide)
  have hfs : (Sg.fileB (Sg.bodyB 1 [Qr.p1])).size ≤ 5000 := by rw [file_size]; have := body_le (r := 1) qr_rise1; omega
  have h2 := fun W g hg => last_one (Sg.fileB (Sg.bodyB 1 [Qr.p1])) ⟨#[97]⟩ 1 W g hg (by omega)
  have h3 := fun W g hg => last_one (Sg.fileB (Sg.bodyB 1 [Qr.p1])) ⟨#[97]⟩ 2 W g hg (by omega)
  have h4 := fun W g hg => last_one ⟨#[120]⟩ ⟨#[97]⟩ 2 W g hg (by decide)
  rw [putR_good (by omega) qr_rise1] at h1
  rw [qr_last1] at h2
  rw [qr_last2] at h3
  rw [qr_last3] at h4
  generalize Sg.fileB (Sg.bodyB 1 [Qr.p1]) = S at *
  simp only [Qr.p1] at h1
  have H1 := fun W g hg => Lib.hid (h1 W g hg)
  have H2 := fun W g hg => Lib.hid (h2 W g hg)
  have H3 := fun W g hg => Lib.hid (h3 W g hg)
  have H4 := fun W g hg => Lib.hid (h4 W g hg)
  have H5 := fun W g hg => Lib.hid (agg_two W g hg)
  clear h1 h2 h3 h4
  go_enter Try.func28, Try.ntmps28
  go_wp2_with fail
  refine (H1 w _ rfl).out.mono ?_
  rintro e w1 ⟨rfl, hb1⟩
  have Hb1 : Hid (Below w.heap.size w w1) := ((Below.refl _ _).alloc (Nat.le_refl _) _).trans (hb1.mono (by omega))
  have hs1 := Hb1.out.size
  clear hb1
  simp only
  go_wp2_with fail
  refine (H2 w1 _ rfl).out.mono ?_
  rintro e w2 ⟨rfl, hb2⟩
  have Hb2 : Hid (Below w.heap.size w w2) := (Hb1.out.alloc hs1 _).trans (hb2.mono (by omega))
  have hs2 := Hb2.out.size
  clear hb2
  simp only
  go_wp2_with fail
  refine (H3 w2 _ rfl).out.mono ?_
  rintro e w3 ⟨rfl, hb3⟩
  have Hb3 : Hid (Below w.heap.size w w3) := (Hb2.out.alloc hs2 _).trans (hb3.mono (by omega))
  have hs3 := Hb3.out.size
  clear hb3
  simp only
  go_wp2_with fail
  refine (H4 w3 _ rfl).out.mono ?_
  rintro e w4 ⟨rfl, hb4⟩
  have Hb4 : Hid (Below w.heap.size w w4) := (Hb3.out.alloc hs3 _).trans (hb4.mono (by omega))
  have hs4 := Hb4.out.size
  clear hb4
  simp only
  go_wp2_with fail
  refine (H5 w4 _ rfl).out.mono ?_
  rintro e w5 ⟨rfl, hb5⟩
  have Hb5 : Hid (Below w.heap.size w w5) := (Hb4.out.alloc hs4 _).trans (hb5.mono (by omega))
  clear hb5
  simp only
  go_wp2_with fail
  refine (errno_any _ _).mono ?_
  rintro e w' ⟨rfl, rfl⟩
  go_wp2_with fail
  refine (errno_any _ _).mono ?_
  rintro e w' ⟨rfl, rfl⟩
  go_wp2_with fail
  refine (errno_any _ _).mono ?_
  rintro e w' ⟨rfl, rfl⟩
  go_wp2_with fail
  refine (errno_any _ _).mono ?_
  rintro e w' ⟨rfl, rfl⟩
  go_wp2_with fail
  go_ret
  exact ⟨rfl, Hb5.out⟩
end Go.Proofs.Ythdbmgjlegpbaaa
/- A cell of a row of the call's own, written. -/
namespace Go.Proofs.Ythdbmgjlegpbaaa
open Go.RowKit
set_option linter.unusedVariables false

theorem own_set {w : World} {base g : Nat} {e : TypeId} {size n cap : Nat} {xs : List Value} (h : w.ownsRow base e size (.slice (some ⟨g, 0, none⟩) n cap) n xs) (j : Nat) (u : Value) :
    (w.setCell ⟨g, j, none⟩ u).ownsRow base e size (.slice (some ⟨g, 0, none⟩) n cap) n (xs.set j u) := by
  refine ⟨by rw [List.length_set]; exact h.1, ?_⟩
  rcases h.2 with ⟨hv, _⟩ | ⟨g', cap', cur, hv, hg, hh, hnc, hcm, hcs, hx⟩
  · cases hv
  · injection hv with e1 e2 e3
    injection e1 with e1
    injection e1 with e1
    subst e1; subst e3
    have hB : Blk w g e cur := hh
    exact .inr ⟨g, cap, cur.setIfInBounds j u, rfl, hg, hB.set_ j u, hnc, hcm, by rw [Array.size_setIfInBounds]; exact hcs, by rw [Array.toList_setIfInBounds, List.take_set, hx]⟩
theorem own_frozen {w : World} {base g : Nat} {e : TypeId} {size n cap : Nat} {xs : List Value} (h : w.ownsRow base e size (.slice (some ⟨g, 0, none⟩) n cap) n xs) (j : Nat) : w.frozen? ⟨g, j, none⟩ = false := by
  rcases h.2 with ⟨hv, _⟩ | ⟨g', cap', cur, hv, hg, hh, hnc, hcm, hcs, hx⟩
  · cases hv
  · injection hv with e1 e2 e3
    injection e1 with e1
    injection e1 with e1
    subst e1
    have hB : Blk w g e cur := hh
    exact hB.frozen j
/-- the row's form where it is not empty -/
theorem own_some {w : World} {base : Nat} {e : TypeId} {size n cap : Nat} {A : Option Addr} {xs : List Value} (h : w.ownsRow base e size (.slice A n cap) n xs) (hn : 0 < n) : ∃ g, A = some ⟨g, 0, none⟩ ∧ base ≤ g ∧ g < w.heap.size := by
  obtain ⟨g, c, hv, hg, hlt⟩ := h.form hn
  injection hv with e1 e2 e3
  exact ⟨g, e1, hg, hlt⟩
theorem own_cell {w : World} {base g : Nat} {e : TypeId} {size n cap : Nat} {xs : List Value} (h : w.ownsRow base e size (.slice (some ⟨g, 0, none⟩) n cap) n xs) {j : Nat} {u : Value} (hu : xs[j]? = some u) : w.cell? ⟨g, j, none⟩ = some u := by
  have := h.cells (g := g) rfl j u hu
  rwa [add_mk, Nat.zero_add] at this
theorem flat_set {α : Type} (f : α → List Value) (size : Nat) (hf : ∀ x, (f x).length = size) (xs : List α) (k j : Nat) (y : α) (u : Value) (hk : k < xs.length) (hj : j < size) (hy : f y = (f xs[k]).set j u) : (xs.flatMap f).set (k * size + j) u = (xs.set k y).flatMap f := by
  induction xs generalizing k with
  | nil => simp at hk
  | cons x xs ih =>
    cases k with
    | zero =>
      rw [List.flatMap_cons, Nat.zero_mul, Nat.zero_add, List.set_append, if_pos (by rw [hf]; exact hj), List.set_cons_zero, List.flatMap_cons, hy]; rfl
    | succ k =>
      rw [List.flatMap_cons, List.set_append, if_neg (by rw [hf, Nat.add_mul]; omega), hf, show (k + 1) * size + j - size = k * size + j from by rw [Nat.add_mul]; omega, List.set_cons_succ, List.flatMap_cons, ih k (by simpa using hk) (by simpa using hy)]
end Go.Proofs.Ythdbmgjlegpbaaa
