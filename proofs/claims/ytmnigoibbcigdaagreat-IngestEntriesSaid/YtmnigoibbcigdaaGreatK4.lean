/- Joined texts: SeMay, IgMach, IgMach2, RmMach, PtWalks, PtMay, PtBatch, IgMay. -/
import Derived.Test.YtmnigoibbcigdaaGreatK1
import Derived.Test.YtmnigoibbcigdaaGreatK2
import Derived.Test.YtmnigoibbcigdaaGreatK3
import Derived.Test.YtmnigoibbcigdaaGreatRows
import Derived.BigQuiet
/- Which tables may be, a session's place, copies: the walks through session.may, find and their reference (chapter 10). -/
namespace Go.Proofs.YtmnigoibbcigdaaGreat
open Go.RowKit
set_option linter.unusedVariables false

theorem info_srow : (Tryz.prog.info? 96).map (fun i => (i.zero, i.size, i.bytes)) = some (some (.agg #[.int .i64 0, .int .i64 0, .int .i64 0, .int .i64 0]), 4, 32) := by kernel_rfl
theorem row_cells {w wr : World} {B b off k : Nat} {ps : List Se.Row} (hlt : k < ps.length) (hc : ∀ j u, (ps.flatMap rowCells)[j]? = some u → w.cell? ⟨b, off + j, none⟩ = some u) (hk : ∀ p : Addr, p.block < B → wr.cell? p = w.cell? p) (hb : b < B) :
    wr.cell? ⟨b, off + k * 4, none⟩ = some (.int .i64 ps[k].1) ∧ wr.cell? ⟨b, off + k * 4 + 1, none⟩ = some (.int .i64 ps[k].2.1) ∧ wr.cell? ⟨b, off + k * 4 + 2, none⟩ = some (.int .i64 ps[k].2.2.1) ∧ wr.cell? ⟨b, off + k * 4 + 3, none⟩ = some (.int .i64 ps[k].2.2.2) := by
  refine ⟨?_, ?_, ?_, ?_⟩
  · rw [hk ⟨b, _, none⟩ hb]; have := hc (k * 4 + 0) (.int .i64 ps[k].1) (by rw [flat_at rowCells 4 (fun _ => rfl) ps k 0 hlt (by omega)]; rfl); rwa [← Nat.add_assoc] at this
  · rw [hk ⟨b, _, none⟩ hb]; have := hc (k * 4 + 1) (.int .i64 ps[k].2.1) (by rw [flat_at rowCells 4 (fun _ => rfl) ps k 1 hlt (by omega)]; rfl); rwa [← Nat.add_assoc] at this
  · rw [hk ⟨b, _, none⟩ hb]; have := hc (k * 4 + 2) (.int .i64 ps[k].2.2.1) (by rw [flat_at rowCells 4 (fun _ => rfl) ps k 2 hlt (by omega)]; rfl); rwa [← Nat.add_assoc] at this
  · rw [hk ⟨b, _, none⟩ hb]; have := hc (k * 4 + 3) (.int .i64 ps[k].2.2.2) (by rw [flat_at rowCells 4 (fun _ => rfl) ps k 3 hlt (by omega)]; rfl); rwa [← Nat.add_assoc] at this
theorem may_done {ps : List Se.Row} {k : Nat} (h4 : ps.length ≤ 4) (hk : ¬ k < ps.length) (hk2 : k ≤ ps.length) (ha : (List.range k).all (Se.upB ps) = true) : Se.mayB ps = true := by
  obtain rfl : k = ps.length := by omega
  unfold Se.mayB; rw [ha, decide_eq_true h4]; rfl
theorem up_yes {ps : List Se.Row} {j : Nat} (hj : j + 1 < ps.length) (h : ¬ ps[j + 1].1 ≤ (ps[j]'(by omega)).1) : Se.upB ps (j + 1) = true := by
  unfold Se.upB; rw [Nat.add_sub_cancel, Se.getD_lt (by omega), Se.getD_lt hj, decide_eq_false (by omega), decide_eq_true (by omega)]; rfl
theorem up_no {ps : List Se.Row} {j : Nat} (hj : j + 1 < ps.length) (h : ps[j + 1].1 ≤ (ps[j]'(by omega)).1) : Se.mayB ps = false := by
  refine Se.range_stop hj ?_
  unfold Se.upB; rw [Nat.add_sub_cancel, Se.getD_lt (by omega), Se.getD_lt hj, decide_eq_false (by omega), decide_eq_false (by omega)]; rfl
theorem may_long {ps : List Se.Row} (h : ¬ ps.length ≤ 4) : Se.mayB ps = false := by unfold Se.mayB; rw [decide_eq_false h]; rfl
theorem cell_keep {w : World} {p : Addr} {u : Value} (o : Obj) (h : w.cell? p = some u) : (w.alloc o).cell? p = some u := (World.cell?_alloc_lt w o p (World.block_lt_of_cell? w _ h)).trans h
/-- the world as it was, but for draws -/
def Drawn (w w' : World) : Prop := ∃ n, w' = w.drewN n
theorem Drawn.below {w w' : World} (h : Drawn w w') (B : Nat) : Below B w w' := by obtain ⟨n, rfl⟩ := h; exact below_drewN (Below.refl _ _) n
theorem Drawn.cell {w w' : World} (h : Drawn w w') (p : Addr) : w'.cell? p = w.cell? p := by obtain ⟨n, rfl⟩ := h; rfl

set_option maxRecDepth 100000 in
set_option maxHeartbeats 800000 in
theorem semay_any (A : Option Addr) (c : Nat) (ps : List Se.Row) (w : World) (B : Nat) (hr : Reads w B 4 A ps.length (ps.flatMap rowCells)) :
    Calls Tryz.prog 81 #[.slice A ps.length c] w fun e w' => e = .returned (.bool (Se.mayB ps)) ∧ Drawn w w' := by
  have HR := Lib.hid hr
  have HLong := Lib.hid (@may_long ps)
  have HNo := Lib.hid (fun j hj h => @up_no ps j hj h)
  have HDn := Lib.hid (fun k h4 hk hk2 ha => @may_done ps k h4 hk hk2 ha)
  clear hr
  generalize Se.mayB ps = res at *
  by_cases h4 : ps.length ≤ 4
  · go_enter Tryz.func81, Tryz.ntmps81
    go_wp2_with fail
    go_loopw [3, 9] (fun _ i wr => ∃ k n : Nat, k ≤ ps.length ∧ i = .int .i64 (k : Int) ∧ Hid ((List.range k).all (Se.upB ps) = true) ∧ wr = w.drewN n) (fun _ i _ => ps.length - (intOf i).toNat)
    case atStart => exact ⟨0, 0, Nat.zero_le _, rfl, Lib.hid (by simp), rfl⟩
    case round =>
      obtain ⟨k, n, hk, rfl, ha, rfl⟩ := hrel
      by_cases hlt : k < ps.length
      · by_cases hk0 : k = 0
        · subst hk0
          have hd : decide ((0 : Int) < 0) = false := by decide
          go_wp2_with fail
          go_quiet (fail)
          go_wp2_with fail
          go_roundw
          case rel => exact ⟨1, n + nq, by omega, by go_num, Lib.hid (by simp [Se.upB]), rfl⟩
          case measure => simp [intOf]; omega
        · obtain ⟨j, rfl⟩ : ∃ j, k = j + 1 := ⟨k - 1, by omega⟩
          obtain ⟨b, off, rfl, hbl, hc⟩ := HR.out.2 (by omega)
          have hc0 := (row_cells (wr := w) hlt hc (fun p hp => rfl) hbl).1
          have hp0 := (row_cells (wr := w) (show j < ps.length by omega) hc (fun p hp => rfl) hbl).1
          have hd : decide ((0 : Int) < (j : Int) + 1) = true := decide_eq_true (by omega)
          have hi0 : (0 : Int) ≤ (j : Int) := by omega
          have hi1 : (j : Int) < (ps.length : Int) := by omega
          have hU := Lib.hid (fun h => Se.range_step ha.out (up_yes hlt h))
          have hN := Lib.hid (fun h => HNo.out j hlt h)
          clear ha hc HNo HDn HLong HR
          generalize ps[j + 1].1 = x at *
          generalize (ps[j]'(by omega)).1 = y at *
          by_cases hxy : x ≤ y
          · have HRf : Hid (res = false) := hN.out hxy
            have hdx : decide (x ≤ y) = true := decide_eq_true hxy
            clear hU hN
            go_wp2_with fail
            go_quiet (fail)
            go_wp2_with fail
            go_ret
            exact ⟨ret_bool HRf.out.symm, n + nq, by rw [World.drewN_drewN]⟩
          · have HU := Lib.hid (hU.out hxy)
            have hdx : decide (x ≤ y) = false := decide_eq_false hxy
            clear hU hN
            go_wp2_with fail
            go_quiet (fail)
            go_wp2_with fail
            go_roundw
            case rel => exact ⟨j + 1 + 1, n + nq, by omega, by go_num, HU, rfl⟩
            case measure => simp [intOf]; omega
      · have HRt : Hid (res = true) := HDn.out k h4 hlt hk ha.out
        clear ha
        go_wp2_with fail
        go_ret
        exact ⟨ret_bool HRt.out.symm, _, rfl⟩
  · have HRf : Hid (res = false) := HLong.out h4
    go_enter Tryz.func81, Tryz.ntmps81
    go_wp2_with fail
    go_ret
    exact ⟨ret_bool HRf.out.symm, 0, rfl⟩

set_option maxRecDepth 100000 in
set_option maxHeartbeats 800000 in
theorem rtable_any (A : Option Addr) (c : Nat) (ps : List Se.Row) (w : World) (B : Nat) (hr : Reads w B 4 A ps.length (ps.flatMap rowCells)) (hn : ps.length ≤ 140737488355328) :
    Calls Tryz.prog 73 #[.slice A ps.length c] w fun e w' => e = .returned (.bool (Se.mayB ps)) ∧ Drawn w w' := by
  have HR := Lib.hid hr
  have HLong := Lib.hid (@may_long ps)
  have HNo := Lib.hid (fun j hj h => @up_no ps j hj h)
  have HDn := Lib.hid (fun k h4 hk hk2 ha => @may_done ps k h4 hk hk2 ha)
  have HZ : Hid (ps.length = 0 → Se.mayB ps = true) := fun h => by unfold Se.mayB; rw [h]; rfl
  clear hr
  generalize Se.mayB ps = res at *
  go_enter Tryz.func73, Tryz.ntmps73
  go_wp2_with fail
  go_loopw [3] (fun i wr => ∃ k n : Nat, (k ≤ ps.length ∨ k = 1) ∧ 1 ≤ k ∧ i = .int .i64 (k : Int) ∧ Hid (k ≤ ps.length → (List.range k).all (Se.upB ps) = true) ∧ wr = w.drewN n) (fun i _ => ps.length - (intOf i).toNat)
  case atStart => exact ⟨1, 0, .inr rfl, Nat.le_refl _, rfl, Lib.hid (fun _ => by simp [Se.upB]), rfl⟩
  case round =>
    obtain ⟨k, n, hk, hk1, rfl, ha, rfl⟩ := hrel
    by_cases hlt : k < ps.length
    · obtain ⟨j, rfl⟩ : ∃ j, k = j + 1 := ⟨k - 1, by omega⟩
      obtain ⟨b, off, rfl, hbl, hc⟩ := HR.out.2 (by omega)
      have hc0 := (row_cells (wr := w) hlt hc (fun p hp => rfl) hbl).1
      have hp0 := (row_cells (wr := w) (show j < ps.length by omega) hc (fun p hp => rfl) hbl).1
      have hi0 : (0 : Int) ≤ (j : Int) := by omega
      have hi1 : (j : Int) < (ps.length : Int) := by omega
      have hU := Lib.hid (fun h => Se.range_step (ha.out (by omega)) (up_yes hlt h))
      have hN := Lib.hid (fun h => HNo.out j hlt h)
      clear ha hc HNo HDn HLong HR HZ
      generalize ps[j + 1].1 = x at *
      generalize (ps[j]'(by omega)).1 = y at *
      by_cases hxy : x ≤ y
      · have HRf : Hid (res = false) := hN.out hxy
        have hdx : decide (x ≤ y) = true := decide_eq_true hxy
        clear hU hN
        go_wp2_with fail
        go_quiet (fail)
        go_wp2_with fail
        go_ret
        exact ⟨ret_bool HRf.out.symm, n + nq, by rw [World.drewN_drewN]⟩
      · have HU := Lib.hid (hU.out hxy)
        have hdx : decide (x ≤ y) = false := decide_eq_false hxy
        clear hU hN
        go_wp2_with fail
        go_quiet (fail)
        go_wp2_with fail
        go_roundw
        case rel => exact ⟨j + 1 + 1, n + nq, by omega, by omega, by go_num, Lib.hid (fun _ => HU.out), rfl⟩
        case measure => simp [intOf]; omega
    · have HRt : Hid (res = decide (ps.length ≤ 4)) := by
        show _ = _
        by_cases h4 : ps.length ≤ 4
        · rw [decide_eq_true h4]
          by_cases h0 : ps.length = 0
          · exact HZ.out h0
          · exact HDn.out k h4 hlt (by omega) (ha.out (by omega))
        · rw [decide_eq_false h4]; exact HLong.out h4
      clear ha
      go_wp2_with fail
      go_ret
      exact ⟨ret_bool (by rw [HRt.out]; first | rfl | (simp; omega)), _, rfl⟩

theorem find1_any (r : Se.Row) (s : Int) (g : Nat) (w : World) (hc : w.cell? ⟨g, 0, none⟩ = some (.int .i64 s)) :
    Calls Tryz.prog 105 #[.agg #[.int .i64 r.1, .int .i64 r.2.1, .int .i64 r.2.2.1, .int .i64 r.2.2.2], .pointer (some ⟨g, 0, none⟩)] w fun e w' => e = .returned (.bool (decide (r.1 = s))) ∧ Below w.heap.size w w' := by
  have hc1 := cell_keep (.cells #[.int .i64 r.1, .int .i64 r.2.1, .int .i64 r.2.2.1, .int .i64 r.2.2.2] 96) hc
  go_enter Tryz.func105, Tryz.ntmps105
  go_wp2
  go_ret
  exact ⟨ret_bool (by rw [Bool.eq_iff_iff]; simp), (Below.refl w.heap.size w).alloc (Nat.le_refl _) _⟩
theorem findV_at {ps : List Se.Row} {s : Int} {k : Nat} (hk : k < ps.length) (h : ps[k].1 = s) (hb : ∀ j (hj : j < ps.length), j < k → ps[j].1 ≠ s) : Se.findV ps s = (k : Int) := by
  have := Se.idx_first hk h (fun j hj => hb j (by omega) hj)
  unfold Se.findV; rw [this, if_pos hk]
theorem findV_none {ps : List Se.Row} {s : Int} {k : Nat} (hk : ¬ k < ps.length) (hb : ∀ j (hj : j < ps.length), j < k → ps[j].1 ≠ s) : Se.findV ps s = -1 := by
  have := Se.idx_none (rows := ps) (s := s) (fun j hj => hb j hj (by omega))
  unfold Se.findV; rw [this, if_neg (by omega)]
theorem find_step {ps : List Se.Row} {s : Int} {k : Nat} (hk : k < ps.length) (hb : ∀ j (hj : j < ps.length), j < k → ps[j].1 ≠ s) (h : ps[k].1 ≠ s) : ∀ j (hj : j < ps.length), j < k + 1 → ps[j].1 ≠ s := by
  intro j hj hjk
  by_cases e : j = k
  · subst e; exact h
  · exact hb j hj (by omega)
set_option maxRecDepth 100000 in
set_option maxHeartbeats 800000 in
theorem indexFuncR_any (A : Option Addr) (c : Nat) (ps : List Se.Row) (s : Int) (g : Nat) (w : World) (B : Nat) (hr : Reads w B 4 A ps.length (ps.flatMap rowCells)) (hB : B ≤ w.heap.size) (hn : ps.length ≤ 140737488355328) (hcs : w.cell? ⟨g, 0, none⟩ = some (.int .i64 s)) :
    Calls Tryz.prog 104 #[.slice A ps.length c, .func (.func 105) #[] #[.pointer (some ⟨g, 0, none⟩)]] w fun e w' => e = .returned (.int .i64 (Se.findV ps s)) ∧ Below w.heap.size w w' := by
  have HR := Lib.hid hr
  have hgl := World.block_lt_of_cell? w _ hcs
  have HC := fun W (hb : Below w.heap.size w W) => Lib.hid ((hb.cell (p := ⟨g, 0, none⟩) hgl).trans hcs)
  have HAt := Lib.hid (fun k hk h hb => @findV_at ps s k hk h hb)
  have HNo := Lib.hid (fun k hk hb => @findV_none ps s k hk hb)
  clear hr hcs
  generalize Se.findV ps s = res at *
  go_enter Tryz.func104, Tryz.ntmps104
  go_wp2_with fail
  go_loopw [5, 8] (fun _ i wr => ∃ k : Nat, k ≤ ps.length ∧ i = .int .i64 (k : Int) ∧ Hid (∀ j (hj : j < ps.length), j < k → ps[j].1 ≠ s) ∧ Hid (Below w.heap.size w wr)) (fun _ i _ => ps.length - (intOf i).toNat)
  case atStart => exact ⟨0, Nat.zero_le _, rfl, Lib.hid (fun _ _ h => absurd h (by omega)), Lib.hid (Below.refl _ _)⟩
  case round =>
    obtain ⟨k, hk, rfl, ha, hbw⟩ := hrel
    by_cases hlt : k < ps.length
    · obtain ⟨b, off, rfl, hbl, hc⟩ := HR.out.2 (by omega)
      obtain ⟨hc0, hc1, hc2, hc3⟩ := row_cells (wr := wr) hlt hc (fun p hp => hbw.out.cell (p := p) (by omega)) hbl
      have H1 := Lib.hid (find1_any ps[k] s g wr (HC wr hbw.out).out)
      have HS := Lib.hid (fun h => HAt.out k hlt h ha.out)
      have HG := Lib.hid (fun h => find_step hlt ha.out h)
      clear hc ha HC HAt HNo
      by_cases hm : ps[k].1 = s
      · have hF := Lib.hid (HS.out hm)
        rw [decide_eq_true hm] at H1
        clear HS HG hm
        go_wp2_with fail
        refine H1.out.mono ?_
        rintro e w1 ⟨rfl, hb1⟩
        go_wp2_with fail
        go_ret
        exact ⟨ret_int hF.out.symm, hbw.out.trans (hb1.mono hbw.out.size)⟩
      · have hF := Lib.hid (HG.out hm)
        rw [decide_eq_false hm] at H1
        clear HS HG hm
        go_wp2_with fail
        refine H1.out.mono ?_
        rintro e w1 ⟨rfl, hb1⟩
        go_wp2_with fail
        go_roundw
        case rel => exact ⟨k + 1, by omega, by go_num, hF, Lib.hid (hbw.out.trans (hb1.mono hbw.out.size))⟩
        case measure => simp [intOf]; omega
    · have hF := Lib.hid (HNo.out k hlt ha.out)
      clear ha HC HAt HNo
      go_wp2_with fail
      go_ret
      exact ⟨ret_int hF.out.symm, hbw.out⟩
theorem find_any (A : Option Addr) (c : Nat) (ps : List Se.Row) (s : Int) (w : World) (B : Nat) (hr : Reads w B 4 A ps.length (ps.flatMap rowCells)) (hB : B ≤ w.heap.size) (hn : ps.length ≤ 140737488355328) :
    Calls Tryz.prog 89 #[.slice A ps.length c, .int .i64 s] w fun e w' => e = .returned (.int .i64 (Se.findV ps s)) ∧ Below w.heap.size w w' := by
  have hb1 : Below w.heap.size w (w.alloc (.cells #[.int .i64 s] 3)) := (Below.refl _ _).alloc (Nat.le_refl _) _
  have H1 := Lib.hid (indexFuncR_any A c ps s w.heap.size (w.alloc (.cells #[.int .i64 s] 3)) B (hr.alloc hB _) (by simp; omega) hn (cell_new w _ _ 0))
  have Hb1 := Lib.hid hb1
  clear hr hb1
  generalize Se.findV ps s = res at *
  go_enter Tryz.func89, Tryz.ntmps89
  go_wp2_with fail
  refine H1.out.mono ?_
  rintro e w1 ⟨rfl, hb⟩
  go_wp2_with fail
  go_ret
  exact ⟨rfl, Hb1.out.trans (hb.mono Hb1.out.size)⟩
set_option maxRecDepth 100000 in
set_option maxHeartbeats 800000 in
theorem rat_any (A : Option Addr) (c : Nat) (ps : List Se.Row) (s : Int) (w : World) (B : Nat) (hr : Reads w B 4 A ps.length (ps.flatMap rowCells)) (hn : ps.length ≤ 140737488355328) :
    Calls Tryz.prog 74 #[.slice A ps.length c, .int .i64 s] w fun e w' => e = .returned (.int .i64 (Se.findV ps s)) ∧ w = w' := by
  have HR := Lib.hid hr
  have HAt := Lib.hid (fun k hk h hb => @findV_at ps s k hk h hb)
  have HNo := Lib.hid (fun k hk hb => @findV_none ps s k hk hb)
  clear hr
  generalize Se.findV ps s = res at *
  go_enter Tryz.func74, Tryz.ntmps74
  go_wp2_with fail
  go_loopw [5] (fun i wr => ∃ k : Nat, k ≤ ps.length ∧ i = .int .i64 (k : Int) ∧ Hid (∀ j (hj : j < ps.length), j < k → ps[j].1 ≠ s) ∧ wr = w) (fun i _ => ps.length - (intOf i).toNat)
  case atStart => exact ⟨0, Nat.zero_le _, rfl, Lib.hid (fun _ _ h => absurd h (by omega)), rfl⟩
  case round =>
    obtain ⟨k, hk, rfl, ha, rfl⟩ := hrel
    by_cases hlt : k < ps.length
    · obtain ⟨b, off, rfl, hbl, hc⟩ := HR.out.2 (by omega)
      have hc0 := (row_cells (wr := wr) hlt hc (fun p hp => rfl) hbl).1
      have HS := Lib.hid (fun h => HAt.out k hlt h ha.out)
      have HG := Lib.hid (fun h => find_step hlt ha.out h)
      clear hc ha HAt HNo HR
      generalize ps[k].1 = x at *
      by_cases hm : x = s
      · have hF := Lib.hid (HS.out hm)
        have hd : (x == s) = true := by simp [hm]
        clear HS HG hm
        go_wp2_with fail
        go_ret
        exact ⟨ret_int hF.out.symm, rfl⟩
      · have hF := Lib.hid (HG.out hm)
        have hd : (x == s) = false := by simp [hm]
        clear HS HG hm
        go_wp2_with fail
        go_roundw
        case rel => exact ⟨k + 1, by omega, by go_num, hF, by first | rfl | trivial⟩
        case measure => simp [intOf]; omega
    · have hF := Lib.hid (HNo.out k hlt ha.out)
      clear ha HAt HNo
      go_wp2_with fail
      go_ret
      exact ⟨ret_int hF.out.symm, rfl⟩
theorem rowCells_one (xs : List Se.Row) : ∀ u ∈ xs.flatMap rowCells, u.oneCell' = true := by
  intro u hu
  simp only [List.mem_flatMap, rowCells, List.mem_cons, List.not_mem_nil, or_false] at hu
  obtain ⟨x, _, hu⟩ := hu
  rcases hu with rfl | rfl | rfl | rfl <;> rfl
/-- a copy in the call's own memory -/
def OwnPost (w : World) (xs : List Se.Row) (e : Ending) (w' : World) : Prop := ∃ v, e = .returned v ∧ w'.ownsRow w.heap.size 96 4 v xs.length (xs.flatMap rowCells) ∧ Below w.heap.size w w'
set_option maxRecDepth 100000 in
set_option maxHeartbeats 400000 in
theorem rcopied_any (A : Option Addr) (c : Nat) (xs : List Se.Row) (w : World) (b1 : Nat) (hr : Reads w b1 4 A xs.length (xs.flatMap rowCells)) (hB : b1 ≤ w.heap.size) (hn : xs.length * 32 ≤ 140737488355328) :
    Calls Tryz.prog 75 #[.slice A xs.length c] w (OwnPost w xs) := by
  obtain ⟨i0, hi, hz0, hz1, hz2⟩ := info_parts info_srow
  have hown0 := own_empty w w.heap.size 96 4 (Nat.le_refl _)
  have hr1 := hr.alloc hB (.cells #[] 96)
  have hb0 : Below w.heap.size w (w.alloc (.cells #[] 96)) := (Below.refl _ _).alloc (Nat.le_refl _) _
  go_enter Tryz.func75, Tryz.ntmps75
  go_wp2_with (at_builtin; refine wpList_append_all _ rfl _ _ 26 rfl w.heap.size 96 i0 _ 4 32 Tryz.underlying26 hi hz0 hz1 hz2 rfl (by decide) _ 0 [] (by rfl) hown0 b1 A xs.length c (xs.flatMap rowCells) (by rfl) hr1 (rowCells_one xs) (by unfold maxLen; omega) (by omega) w hb0 (by simp) ?_; intro v1 w1 hown1 hb1 _)
  go_ret
  exact ⟨_, rfl, by simpa using hown1, hb1⟩
set_option maxRecDepth 100000 in
set_option maxHeartbeats 400000 in
theorem cloneR_any (A : Option Addr) (c : Nat) (xs : List Se.Row) (w : World) (b1 : Nat) (hr : Reads w b1 4 A xs.length (xs.flatMap rowCells)) (hB : b1 ≤ w.heap.size) (hn : xs.length * 32 ≤ 140737488355328) :
    Calls Tryz.prog 51 #[.slice A xs.length c] w (OwnPost w xs) := by
  cases A with
  | none =>
    have h0 : xs.length = 0 := by
      rcases Nat.eq_zero_or_pos xs.length with h | h
      · exact h
      · obtain ⟨b, off, e, _⟩ := hr.2 h
        cases e
    have hx : xs = [] := List.eq_nil_of_length_eq_zero h0
    subst hx
    have hnil := fun W => Lib.run_eql_slice_nil (P := Tryz.prog) W 26 96 none 0 c 0 0 Tryz.underlying26
    clear hr h0
    go_enter Tryz.func51, Tryz.ntmps51
    go_wp2_with fail
    go_ret
    exact ⟨_, rfl, own_nil _ _ _ _, Below.refl _ _⟩
  | some ad =>
    obtain ⟨i0, hi, hz0, hz1, hz2⟩ := info_parts info_srow
    have hown0 := own_empty w w.heap.size 96 4 (Nat.le_refl _)
    have hr1 := hr.alloc hB (.cells #[] 96)
    have hb0 : Below w.heap.size w (w.alloc (.cells #[] 96)) := (Below.refl _ _).alloc (Nat.le_refl _) _
    have hnil := fun W => Lib.run_eql_slice_nil (P := Tryz.prog) W 26 96 (some ad) xs.length c 0 0 Tryz.underlying26
    go_enter Tryz.func51, Tryz.ntmps51
    go_wp2_with (at_builtin; refine wpList_append_all _ rfl _ _ 26 rfl w.heap.size 96 i0 _ 4 32 Tryz.underlying26 hi hz0 hz1 hz2 rfl (by decide) _ 0 [] (by rfl) hown0 b1 (some ad) xs.length c (xs.flatMap rowCells) (by rfl) hr1 (rowCells_one xs) (by unfold maxLen; omega) (by omega) w hb0 (by simp) ?_; intro v1 w1 hown1 hb1 _)
    go_ret
    exact ⟨_, rfl, by simpa using hown1, hb1⟩
end Go.Proofs.YtmnigoibbcigdaaGreat
/- The machine in memory; what it tells (chapter 11). -/
namespace Go.Proofs.YtmnigoibbcigdaaGreat
open Go.RowKit
set_option linter.unusedVariables false

structure Ig.M where
  at_ : Int
  rows : List Se.Row
  opn : List Pt.Point
  digs : List Int
  seals : List (Int × ByteArray)
/-- the machine M lies in block g, its four slices in rows of its own -/
structure Mach (w : World) (base g : Nat) (m : Ig.M) (vr vo vd vs : Value) : Prop where
  blk : Blk w g 53 #[.int .i64 m.at_, vr, vo, vd, vs]
  low : base ≤ g
  rows : w.ownsRow base 96 4 vr m.rows.length (m.rows.flatMap rowCells)
  opn : w.ownsRow base 66 3 vo m.opn.length (m.opn.flatMap pointCells)
  digs : w.ownsRow base 56 1 vd m.digs.length (m.digs.flatMap digCells)
  seals : w.ownsRow base 59 2 vs m.seals.length (m.seals.flatMap fileCells)
/-- the machine's blocks -/
def Foot (g : Nat) (vr vo vd vs : Value) (k : Nat) : Prop := k = g ∨ vr.ownBlock = some k ∨ vo.ownBlock = some k ∨ vd.ownBlock = some k ∨ vs.ownBlock = some k
section
variable {w w' : World} {base g : Nat} {m : Ig.M} {vr vo vd vs : Value}
theorem Mach.only (h : Mach w base g m vr vo vd vs) {S : Nat → Prop} (ho : Only S w w') (hs : ∀ k, Foot g vr vo vd vs k → ¬ S k) : Mach w' base g m vr vo vd vs :=
  ⟨h.blk.only ho (hs g (.inl rfl)), h.low, own_only h.rows ho (fun k hk => hs k (.inr (.inl hk))), own_only h.opn ho (fun k hk => hs k (.inr (.inr (.inl hk)))), own_only h.digs ho (fun k hk => hs k (.inr (.inr (.inr (.inl hk))))), own_only h.seals ho (fun k hk => hs k (.inr (.inr (.inr (.inr hk)))))⟩
theorem Mach.below (h : Mach w base g m vr vo vd vs) (hb : Below w.heap.size w w') : Mach w' base g m vr vo vd vs := h.only (Only.new (fun _ => False) hb) (fun _ _ q => q)
theorem Mach.lt (h : Mach w base g m vr vo vd vs) {k : Nat} (hk : Foot g vr vo vd vs k) : base ≤ k ∧ k < w.heap.size := by
  rcases hk with rfl | hk | hk | hk | hk
  · exact ⟨h.low, h.blk.lt⟩
  · exact own_lt h.rows hk
  · exact own_lt h.opn hk
  · exact own_lt h.digs hk
  · exact own_lt h.seals hk
theorem Mach.cells (h : Mach w base g m vr vo vd vs) : w.cell? ⟨g, 0, none⟩ = some (.int .i64 m.at_) ∧ w.cell? ⟨g, 1, none⟩ = some vr ∧ w.cell? ⟨g, 2, none⟩ = some vo ∧ w.cell? ⟨g, 3, none⟩ = some vd ∧ w.cell? ⟨g, 4, none⟩ = some vs :=
  ⟨h.blk.cell 0, h.blk.cell 1, h.blk.cell 2, h.blk.cell 3, h.blk.cell 4⟩
end
section
variable {w : World} {base g : Nat} {m : Ig.M} {vr vo vd vs : Value}
set_option maxRecDepth 100000 in
theorem machAt_any (h : Mach w base g m vr vo vd vs) : Calls Tryz.prog 32 #[.pointer (some ⟨g, 0, none⟩)] w fun e w' => e = .returned (.int .i64 m.at_) ∧ w = w' := by
  obtain ⟨c0, c1, c2, c3, c4⟩ := h.cells
  clear h
  go_enter Tryz.func32, Tryz.ntmps32
  go_wp2_with fail
  go_ret
  exact ⟨rfl, rfl⟩
set_option maxRecDepth 100000 in
theorem machOpen_any (h : Mach w base g m vr vo vd vs) (hn : m.opn.length * 32 ≤ 140737488355328) : Calls Tryz.prog 28 #[.pointer (some ⟨g, 0, none⟩)] w (OwnPPost w m.opn) := by
  obtain ⟨c0, c1, c2, c3, c4⟩ := h.cells
  obtain ⟨A, c, rfl, hnc, hr⟩ := own_slice h.opn
  have HC := Lib.hid (cloneP_any A c m.opn w w.heap.size hr (Nat.le_refl _) hn)
  clear h hr
  go_enter Tryz.func28, Tryz.ntmps28
  go_wp2_with fail
  refine HC.out.mono ?_
  rintro e w1 ⟨v, rfl, hown, hb⟩
  obtain ⟨A1, c1, rfl, _, _⟩ := own_slice hown
  go_wp2_with fail
  go_ret
  exact ⟨_, rfl, hown, hb⟩
set_option maxRecDepth 100000 in
theorem machRows_any (h : Mach w base g m vr vo vd vs) (hn : m.rows.length * 32 ≤ 140737488355328) : Calls Tryz.prog 29 #[.pointer (some ⟨g, 0, none⟩)] w (OwnPost w m.rows) := by
  obtain ⟨c0, c1, c2, c3, c4⟩ := h.cells
  obtain ⟨A, c, rfl, hnc, hr⟩ := own_slice h.rows
  have HC := Lib.hid (cloneR_any A c m.rows w w.heap.size hr (Nat.le_refl _) hn)
  clear h hr
  go_enter Tryz.func29, Tryz.ntmps29
  go_wp2_with fail
  refine HC.out.mono ?_
  rintro e w1 ⟨v, rfl, hown, hb⟩
  obtain ⟨A1, c1, rfl, _, _⟩ := own_slice hown
  go_wp2_with fail
  go_ret
  exact ⟨_, rfl, hown, hb⟩
set_option maxRecDepth 100000 in
theorem machDigs_any (h : Mach w base g m vr vo vd vs) (hn : m.digs.length * 8 ≤ 140737488355328) : Calls Tryz.prog 30 #[.pointer (some ⟨g, 0, none⟩)] w (OwnDPost w m.digs) := by
  obtain ⟨c0, c1, c2, c3, c4⟩ := h.cells
  obtain ⟨A, c, rfl, hnc, hr⟩ := own_slice h.digs
  have HC := Lib.hid (cloneD_any A c m.digs w w.heap.size hr (Nat.le_refl _) hn)
  clear h hr
  go_enter Tryz.func30, Tryz.ntmps30
  go_wp2_with fail
  refine HC.out.mono ?_
  rintro e w1 ⟨v, rfl, hown, hb⟩
  obtain ⟨A1, c1, rfl, _, _⟩ := own_slice hown
  go_wp2_with fail
  go_ret
  exact ⟨_, rfl, hown, hb⟩
set_option maxRecDepth 100000 in
theorem machSeals_any (h : Mach w base g m vr vo vd vs) (hn : m.seals.length * 24 ≤ 140737488355328) : Calls Tryz.prog 31 #[.pointer (some ⟨g, 0, none⟩)] w (OwnFPost w m.seals) := by
  obtain ⟨c0, c1, c2, c3, c4⟩ := h.cells
  obtain ⟨A, c, rfl, hnc, hr⟩ := own_slice h.seals
  have HC := Lib.hid (cloneF_any A c m.seals w w.heap.size hr (Nat.le_refl _) hn)
  clear h hr
  go_enter Tryz.func31, Tryz.ntmps31
  go_wp2_with fail
  refine HC.out.mono ?_
  rintro e w1 ⟨v, rfl, hown, hb⟩
  obtain ⟨A1, c1, rfl, _, _⟩ := own_slice hown
  go_wp2_with fail
  go_ret
  exact ⟨_, rfl, hown, hb⟩
end
def Ig.m0 : Ig.M := ⟨0, [], [], [], []⟩
set_option maxRecDepth 100000 in
theorem machNew_any (w : World) : Calls Tryz.prog 4 #[] w fun e w' => e = .returned (.pointer (some ⟨w.heap.size, 0, none⟩)) ∧ Mach w' w.heap.size w.heap.size Ig.m0 (.slice none 0 0) (.slice none 0 0) (.slice none 0 0) (.slice none 0 0) ∧ Below w.heap.size w w' := by
  have hP := Blk.new w 53 #[.int .i64 0, .slice none 0 0, .slice none 0 0, .slice none 0 0, .slice none 0 0]
  go_enter Tryz.func4, Tryz.ntmps4
  go_wp2_with fail
  go_ret
  exact ⟨rfl, ⟨hP, Nat.le_refl _, own_nil _ _ _ _, own_nil _ _ _ _, own_nil _ _ _ _, own_nil _ _ _ _⟩, (Below.refl _ _).alloc (Nat.le_refl _) _⟩
end Go.Proofs.YtmnigoibbcigdaaGreat
/- A field of the machine is written (chapter 11). -/
namespace Go.Proofs.YtmnigoibbcigdaaGreat
open Go.RowKit
set_option linter.unusedVariables false

section
variable {w w' : World} {base g : Nat} {m : Ig.M} {vr vo vd vs : Value}
theorem only_cell (w : World) (g j : Nat) (u : Value) : Only (fun k => k = g) w (w.setCell ⟨g, j, none⟩ u) := (Only.refl (fun k => k = g) w).setCell (p := ⟨g, j, none⟩) (fun _ => rfl) u
/-- a row of the machine's lies in another block than the machine -/
theorem Mach.apart (h : Mach w base g m vr vo vd vs) {e : TypeId} {b size n : Nat} {v : Value} {xs : List Value} (hv : w.ownsRow b e size v n xs) (hne : e ≠ 53) : ∀ k, v.ownBlock = some k → ¬ k = g := fun k hk e' => by
  subst e'; exact own_blk_ne hv h.blk hne hk
theorem Mach.setAt (h : Mach w base g m vr vo vd vs) (x : Int) : Mach (w.setCell ⟨g, 0, none⟩ (.int .i64 x)) base g { m with at_ := x } vr vo vd vs :=
  ⟨h.blk.set_ 0 _, h.low, own_only h.rows (only_cell w g 0 _) (h.apart h.rows (by decide)), own_only h.opn (only_cell w g 0 _) (h.apart h.opn (by decide)), own_only h.digs (only_cell w g 0 _) (h.apart h.digs (by decide)), own_only h.seals (only_cell w g 0 _) (h.apart h.seals (by decide))⟩
theorem Mach.setRows (h : Mach w base g m vr vo vd vs) {v : Value} {R : List Se.Row} (hv : w.ownsRow base 96 4 v R.length (R.flatMap rowCells)) : Mach (w.setCell ⟨g, 1, none⟩ v) base g { m with rows := R } v vo vd vs :=
  ⟨h.blk.set_ 1 _, h.low, own_only hv (only_cell w g 1 _) (h.apart hv (by decide)), own_only h.opn (only_cell w g 1 _) (h.apart h.opn (by decide)), own_only h.digs (only_cell w g 1 _) (h.apart h.digs (by decide)), own_only h.seals (only_cell w g 1 _) (h.apart h.seals (by decide))⟩
/-- the buffer's row was worked on, then the field is written -/
theorem Mach.setOpen (h : Mach w base g m vr vo vd vs) (ho : Only (fun k => vo.ownBlock = some k) w w') {v : Value} {P : List Pt.Point} (hv : w'.ownsRow base 66 3 v P.length (P.flatMap pointCells)) : Mach (w'.setCell ⟨g, 2, none⟩ v) base g { m with opn := P } vr v vd vs := by
  have hb : Blk w' g 53 #[.int .i64 m.at_, vr, vo, vd, vs] := h.blk.only ho (fun e => h.apart h.opn (by decide) g e rfl)
  have ne : ∀ {e : TypeId} {size n : Nat} {u : Value} {xs : List Value}, w.ownsRow base e size u n xs → e ≠ 66 → ∀ k, u.ownBlock = some k → ¬ vo.ownBlock = some k := fun hu hne k hk q => by
    rcases own_own_ne hu h.opn hne with z | z
    · rw [z] at hk; cases hk
    · exact z (hk.trans q.symm)
  have hr := own_only h.rows ho (ne h.rows (by decide))
  have hd := own_only h.digs ho (ne h.digs (by decide))
  have hs := own_only h.seals ho (ne h.seals (by decide))
  have ap : ∀ {e : TypeId} {size n : Nat} {u : Value} {xs : List Value}, w'.ownsRow base e size u n xs → e ≠ 53 → ∀ k, u.ownBlock = some k → ¬ k = g := fun hu hne k hk q => by
    subst q; exact own_blk_ne hu hb hne hk
  exact ⟨hb.set_ 2 _, h.low, own_only hr (only_cell w' g 2 _) (ap hr (by decide)), own_only hv (only_cell w' g 2 _) (ap hv (by decide)), own_only hd (only_cell w' g 2 _) (ap hd (by decide)), own_only hs (only_cell w' g 2 _) (ap hs (by decide))⟩
theorem Mach.setDigs (h : Mach w base g m vr vo vd vs) (ho : Only (fun k => vd.ownBlock = some k) w w') {v : Value} {D : List Int} (hv : w'.ownsRow base 56 1 v D.length (D.flatMap digCells)) : Mach (w'.setCell ⟨g, 3, none⟩ v) base g { m with digs := D } vr vo v vs := by
  have hb : Blk w' g 53 #[.int .i64 m.at_, vr, vo, vd, vs] := h.blk.only ho (fun e => h.apart h.digs (by decide) g e rfl)
  have ne : ∀ {e : TypeId} {size n : Nat} {u : Value} {xs : List Value}, w.ownsRow base e size u n xs → e ≠ 56 → ∀ k, u.ownBlock = some k → ¬ vd.ownBlock = some k := fun hu hne k hk q => by
    rcases own_own_ne hu h.digs hne with z | z
    · rw [z] at hk; cases hk
    · exact z (hk.trans q.symm)
  have hr := own_only h.rows ho (ne h.rows (by decide))
  have hp := own_only h.opn ho (ne h.opn (by decide))
  have hs := own_only h.seals ho (ne h.seals (by decide))
  have ap : ∀ {e : TypeId} {size n : Nat} {u : Value} {xs : List Value}, w'.ownsRow base e size u n xs → e ≠ 53 → ∀ k, u.ownBlock = some k → ¬ k = g := fun hu hne k hk q => by
    subst q; exact own_blk_ne hu hb hne hk
  exact ⟨hb.set_ 3 _, h.low, own_only hr (only_cell w' g 3 _) (ap hr (by decide)), own_only hp (only_cell w' g 3 _) (ap hp (by decide)), own_only hv (only_cell w' g 3 _) (ap hv (by decide)), own_only hs (only_cell w' g 3 _) (ap hs (by decide))⟩
theorem Mach.setSeals (h : Mach w base g m vr vo vd vs) (ho : Only (fun k => vs.ownBlock = some k) w w') {v : Value} {F : List (Int × ByteArray)} (hv : w'.ownsRow base 59 2 v F.length (F.flatMap fileCells)) : Mach (w'.setCell ⟨g, 4, none⟩ v) base g { m with seals := F } vr vo vd v := by
  have hb : Blk w' g 53 #[.int .i64 m.at_, vr, vo, vd, vs] := h.blk.only ho (fun e => h.apart h.seals (by decide) g e rfl)
  have ne : ∀ {e : TypeId} {size n : Nat} {u : Value} {xs : List Value}, w.ownsRow base e size u n xs → e ≠ 59 → ∀ k, u.ownBlock = some k → ¬ vs.ownBlock = some k := fun hu hne k hk q => by
    rcases own_own_ne hu h.seals hne with z | z
    · rw [z] at hk; cases hk
    · exact z (hk.trans q.symm)
  have hr := own_only h.rows ho (ne h.rows (by decide))
  have hp := own_only h.opn ho (ne h.opn (by decide))
  have hd := own_only h.digs ho (ne h.digs (by decide))
  have ap : ∀ {e : TypeId} {size n : Nat} {u : Value} {xs : List Value}, w'.ownsRow base e size u n xs → e ≠ 53 → ∀ k, u.ownBlock = some k → ¬ k = g := fun hu hne k hk q => by
    subst q; exact own_blk_ne hu hb hne hk
  exact ⟨hb.set_ 4 _, h.low, own_only hr (only_cell w' g 4 _) (ap hr (by decide)), own_only hp (only_cell w' g 4 _) (ap hp (by decide)), own_only hd (only_cell w' g 4 _) (ap hd (by decide)), own_only hv (only_cell w' g 4 _) (ap hv (by decide))⟩
end
end Go.Proofs.YtmnigoibbcigdaaGreat
/- The reference's machine in memory (chapter 11). Printed by gen_rmach.py. -/
namespace Go.Proofs.YtmnigoibbcigdaaGreat
open Go.RowKit
set_option linter.unusedVariables false

/-- the reference's machine M lies in block g, its four slices in rows of its own -/
structure RMach (w : World) (base g : Nat) (m : Ig.M) (vr vo vd vs : Value) : Prop where
  blk : Blk w g 31 #[.int .i64 m.at_, vr, vo, vd, vs]
  low : base ≤ g
  rows : w.ownsRow base 96 4 vr m.rows.length (m.rows.flatMap rowCells)
  opn : w.ownsRow base 66 3 vo m.opn.length (m.opn.flatMap pointCells)
  digs : w.ownsRow base 56 1 vd m.digs.length (m.digs.flatMap digCells)
  seals : w.ownsRow base 59 2 vs m.seals.length (m.seals.flatMap fileCells)
section
variable {w w' : World} {base g : Nat} {m : Ig.M} {vr vo vd vs : Value}
theorem RMach.only (h : RMach w base g m vr vo vd vs) {S : Nat → Prop} (ho : Only S w w') (hs : ∀ k, Foot g vr vo vd vs k → ¬ S k) : RMach w' base g m vr vo vd vs :=
  ⟨h.blk.only ho (hs g (.inl rfl)), h.low, own_only h.rows ho (fun k hk => hs k (.inr (.inl hk))), own_only h.opn ho (fun k hk => hs k (.inr (.inr (.inl hk)))), own_only h.digs ho (fun k hk => hs k (.inr (.inr (.inr (.inl hk))))), own_only h.seals ho (fun k hk => hs k (.inr (.inr (.inr (.inr hk)))))⟩
theorem RMach.below (h : RMach w base g m vr vo vd vs) (hb : Below w.heap.size w w') : RMach w' base g m vr vo vd vs := h.only (Only.new (fun _ => False) hb) (fun _ _ q => q)
theorem RMach.lt (h : RMach w base g m vr vo vd vs) {k : Nat} (hk : Foot g vr vo vd vs k) : base ≤ k ∧ k < w.heap.size := by
  rcases hk with rfl | hk | hk | hk | hk
  · exact ⟨h.low, h.blk.lt⟩
  · exact own_lt h.rows hk
  · exact own_lt h.opn hk
  · exact own_lt h.digs hk
  · exact own_lt h.seals hk
theorem RMach.cells (h : RMach w base g m vr vo vd vs) : w.cell? ⟨g, 0, none⟩ = some (.int .i64 m.at_) ∧ w.cell? ⟨g, 1, none⟩ = some vr ∧ w.cell? ⟨g, 2, none⟩ = some vo ∧ w.cell? ⟨g, 3, none⟩ = some vd ∧ w.cell? ⟨g, 4, none⟩ = some vs :=
  ⟨h.blk.cell 0, h.blk.cell 1, h.blk.cell 2, h.blk.cell 3, h.blk.cell 4⟩
end
section
variable {w w' : World} {base g : Nat} {m : Ig.M} {vr vo vd vs : Value}
/-- a row of the machine's lies in another block than the machine -/
theorem RMach.apart (h : RMach w base g m vr vo vd vs) {e : TypeId} {b size n : Nat} {v : Value} {xs : List Value} (hv : w.ownsRow b e size v n xs) (hne : e ≠ 31) : ∀ k, v.ownBlock = some k → ¬ k = g := fun k hk e' => by
  subst e'; exact own_blk_ne hv h.blk hne hk
theorem RMach.setAt (h : RMach w base g m vr vo vd vs) (x : Int) : RMach (w.setCell ⟨g, 0, none⟩ (.int .i64 x)) base g { m with at_ := x } vr vo vd vs :=
  ⟨h.blk.set_ 0 _, h.low, own_only h.rows (only_cell w g 0 _) (h.apart h.rows (by decide)), own_only h.opn (only_cell w g 0 _) (h.apart h.opn (by decide)), own_only h.digs (only_cell w g 0 _) (h.apart h.digs (by decide)), own_only h.seals (only_cell w g 0 _) (h.apart h.seals (by decide))⟩
theorem RMach.setRows (h : RMach w base g m vr vo vd vs) {v : Value} {R : List Se.Row} (hv : w.ownsRow base 96 4 v R.length (R.flatMap rowCells)) : RMach (w.setCell ⟨g, 1, none⟩ v) base g { m with rows := R } v vo vd vs :=
  ⟨h.blk.set_ 1 _, h.low, own_only hv (only_cell w g 1 _) (h.apart hv (by decide)), own_only h.opn (only_cell w g 1 _) (h.apart h.opn (by decide)), own_only h.digs (only_cell w g 1 _) (h.apart h.digs (by decide)), own_only h.seals (only_cell w g 1 _) (h.apart h.seals (by decide))⟩
/-- the buffer's row was worked on, then the field is written -/
theorem RMach.setOpen (h : RMach w base g m vr vo vd vs) (ho : Only (fun k => vo.ownBlock = some k) w w') {v : Value} {P : List Pt.Point} (hv : w'.ownsRow base 66 3 v P.length (P.flatMap pointCells)) : RMach (w'.setCell ⟨g, 2, none⟩ v) base g { m with opn := P } vr v vd vs := by
  have hb : Blk w' g 31 #[.int .i64 m.at_, vr, vo, vd, vs] := h.blk.only ho (fun e => h.apart h.opn (by decide) g e rfl)
  have ne : ∀ {e : TypeId} {size n : Nat} {u : Value} {xs : List Value}, w.ownsRow base e size u n xs → e ≠ 66 → ∀ k, u.ownBlock = some k → ¬ vo.ownBlock = some k := fun hu hne k hk q => by
    rcases own_own_ne hu h.opn hne with z | z
    · rw [z] at hk; cases hk
    · exact z (hk.trans q.symm)
  have hr := own_only h.rows ho (ne h.rows (by decide))
  have hd := own_only h.digs ho (ne h.digs (by decide))
  have hs := own_only h.seals ho (ne h.seals (by decide))
  have ap : ∀ {e : TypeId} {size n : Nat} {u : Value} {xs : List Value}, w'.ownsRow base e size u n xs → e ≠ 31 → ∀ k, u.ownBlock = some k → ¬ k = g := fun hu hne k hk q => by
    subst q; exact own_blk_ne hu hb hne hk
  exact ⟨hb.set_ 2 _, h.low, own_only hr (only_cell w' g 2 _) (ap hr (by decide)), own_only hv (only_cell w' g 2 _) (ap hv (by decide)), own_only hd (only_cell w' g 2 _) (ap hd (by decide)), own_only hs (only_cell w' g 2 _) (ap hs (by decide))⟩
theorem RMach.setDigs (h : RMach w base g m vr vo vd vs) (ho : Only (fun k => vd.ownBlock = some k) w w') {v : Value} {D : List Int} (hv : w'.ownsRow base 56 1 v D.length (D.flatMap digCells)) : RMach (w'.setCell ⟨g, 3, none⟩ v) base g { m with digs := D } vr vo v vs := by
  have hb : Blk w' g 31 #[.int .i64 m.at_, vr, vo, vd, vs] := h.blk.only ho (fun e => h.apart h.digs (by decide) g e rfl)
  have ne : ∀ {e : TypeId} {size n : Nat} {u : Value} {xs : List Value}, w.ownsRow base e size u n xs → e ≠ 56 → ∀ k, u.ownBlock = some k → ¬ vd.ownBlock = some k := fun hu hne k hk q => by
    rcases own_own_ne hu h.digs hne with z | z
    · rw [z] at hk; cases hk
    · exact z (hk.trans q.symm)
  have hr := own_only h.rows ho (ne h.rows (by decide))
  have hp := own_only h.opn ho (ne h.opn (by decide))
  have hs := own_only h.seals ho (ne h.seals (by decide))
  have ap : ∀ {e : TypeId} {size n : Nat} {u : Value} {xs : List Value}, w'.ownsRow base e size u n xs → e ≠ 31 → ∀ k, u.ownBlock = some k → ¬ k = g := fun hu hne k hk q => by
    subst q; exact own_blk_ne hu hb hne hk
  exact ⟨hb.set_ 3 _, h.low, own_only hr (only_cell w' g 3 _) (ap hr (by decide)), own_only hp (only_cell w' g 3 _) (ap hp (by decide)), own_only hv (only_cell w' g 3 _) (ap hv (by decide)), own_only hs (only_cell w' g 3 _) (ap hs (by decide))⟩
theorem RMach.setSeals (h : RMach w base g m vr vo vd vs) (ho : Only (fun k => vs.ownBlock = some k) w w') {v : Value} {F : List (Int × ByteArray)} (hv : w'.ownsRow base 59 2 v F.length (F.flatMap fileCells)) : RMach (w'.setCell ⟨g, 4, none⟩ v) base g { m with seals := F } vr vo vd v := by
  have hb : Blk w' g 31 #[.int .i64 m.at_, vr, vo, vd, vs] := h.blk.only ho (fun e => h.apart h.seals (by decide) g e rfl)
  have ne : ∀ {e : TypeId} {size n : Nat} {u : Value} {xs : List Value}, w.ownsRow base e size u n xs → e ≠ 59 → ∀ k, u.ownBlock = some k → ¬ vs.ownBlock = some k := fun hu hne k hk q => by
    rcases own_own_ne hu h.seals hne with z | z
    · rw [z] at hk; cases hk
    · exact z (hk.trans q.symm)
  have hr := own_only h.rows ho (ne h.rows (by decide))
  have hp := own_only h.opn ho (ne h.opn (by decide))
  have hd := own_only h.digs ho (ne h.digs (by decide))
  have ap : ∀ {e : TypeId} {size n : Nat} {u : Value} {xs : List Value}, w'.ownsRow base e size u n xs → e ≠ 31 → ∀ k, u.ownBlock = some k → ¬ k = g := fun hu hne k hk q => by
    subst q; exact own_blk_ne hu hb hne hk
  exact ⟨hb.set_ 4 _, h.low, own_only hr (only_cell w' g 4 _) (ap hr (by decide)), own_only hp (only_cell w' g 4 _) (ap hp (by decide)), own_only hd (only_cell w' g 4 _) (ap hd (by decide)), own_only hv (only_cell w' g 4 _) (ap hv (by decide))⟩
end
end Go.Proofs.YtmnigoibbcigdaaGreat
/- The walks through point.Name, Small, May, Batch and the references' Name, Small, May, Batch. -/
namespace Go.Proofs.YtmnigoibbcigdaaGreat
open Go.RowKit
set_option linter.unusedVariables false

theorem nameC_yes1 {c : UInt8} (h : (97 : Int) ≤ (c.toNat : Int)) (h' : (c.toNat : Int) ≤ 122) : Pt.nameC c = true := by unfold Pt.nameC; simp; omega
theorem nameC_yes2 {c : UInt8} (h : (48 : Int) ≤ (c.toNat : Int)) (h' : (c.toNat : Int) ≤ 57) : Pt.nameC c = true := by unfold Pt.nameC; simp; omega
theorem nameC_yes3 {c : UInt8} (h : ((c.toNat : Int) == 95) = true) : Pt.nameC c = true := by rw [beq_iff_eq] at h; unfold Pt.nameC; simp; omega
theorem nameC_no {c : UInt8} (h : ¬ ((97 : Int) ≤ (c.toNat : Int) ∧ (c.toNat : Int) ≤ 122)) (h' : ¬ ((48 : Int) ≤ (c.toNat : Int) ∧ (c.toNat : Int) ≤ 57)) (h'' : ((c.toNat : Int) == 95) = false) : Pt.nameC c = false := by
  rw [beq_eq_false_iff_ne] at h''; unfold Pt.nameC; simp; omega
theorem name_none {s : ByteArray} (h : s.size = 0) : Pt.nameB s = false := by unfold Pt.nameB; simp [h]
theorem name_much {s : ByteArray} (h : ¬ s.size ≤ 12) : Pt.nameB s = false := by unfold Pt.nameB; simp [h]
theorem name_stop {s : ByteArray} {k : Nat} (hk : k < s.size) (h : Pt.nameC s[k] = false) : Pt.nameB s = false := by
  unfold Pt.nameB
  have : s.data.toList.all Pt.nameC = false := by
    rw [List.all_eq_false]
    exact ⟨s[k], by simp; exact Array.getElem_mem _, by rw [h]; simp⟩
  rw [this]; simp
theorem name_step {s : ByteArray} {k : Nat} (hk : k < s.size) (ha : (s.data.toList.take k).all Pt.nameC = true) (h : Pt.nameC s[k] = true) : (s.data.toList.take (k + 1)).all Pt.nameC = true := by
  rw [take_snoc s k hk, List.all_append, ha]; simp [h]
theorem name_done {s : ByteArray} {k : Nat} (h1 : 1 ≤ s.size) (h2 : s.size ≤ 12) (hk : ¬ k < s.size) (ha : (s.data.toList.take k).all Pt.nameC = true) : Pt.nameB s = true := by
  rw [List.take_of_length_le (by simp; omega)] at ha
  unfold Pt.nameB; simp [ha, h1, h2]

set_option maxRecDepth 100000 in
set_option maxHeartbeats 800000 in
theorem name_any (s : ByteArray) (w : World) : Calls Tryz.prog 115 #[.string s] w fun e w' => e = .returned (.bool (Pt.nameB s)) ∧ w = w' := by
  by_cases h0 : s.size = 0
  · have hf := Lib.hid (name_none h0)
    have he := empty_of h0
    subst he
    clear h0
    generalize Pt.nameB ⟨#[]⟩ = b at *
    go_enter Tryz.func115, Tryz.ntmps115
    go_wp2
    go_step3
    go_wp2
    rw [Exit.noGoto_ret]
    go_ret
    exact ⟨ret_bool hf.out.symm, rfl⟩
  · have hne := nonempty_of h0
    by_cases h12 : s.size ≤ 12
    · go_enter Tryz.func115, Tryz.ntmps115
      go_wp2
      go_step3
      go_wp2
      go_step3
      go_wp2
      go_loop [14] (fun i => ∃ k : Nat, k ≤ s.size ∧ i = .int .i64 (k : Int) ∧ Hid ((s.data.toList.take k).all Pt.nameC = true)) (fun i => s.size - (intOf i).toNat)
      case atStart => exact ⟨0, Nat.zero_le _, rfl, Lib.hid (by simp)⟩
      case round =>
        obtain ⟨k, hk, rfl, ha⟩ := hrel
        by_cases hlt : k < s.size
        · have hc8 : s[k].toNat < 256 := s[k].toNat_lt
          have hk1 := fun h => name_step hlt ha.out h
          have hk2 := name_stop hlt
          have HY := Lib.hid hk1
          have HN := Lib.hid hk2
          clear hk1 hk2 ha
          go_wp2
          all_goals first
            | (go_round
               case rel => exact ⟨k + 1, by omega, by go_num, Lib.hid (HY.out (by first | exact nameC_yes1 ‹_› ‹_› | exact nameC_yes2 ‹_› ‹_› | exact nameC_yes3 ‹_›))⟩
               case measure => simp [intOf]; omega)
            | ((try rw [Exit.noGoto_ret])
               go_ret
               exact ⟨ret_bool (HN.out (nameC_no (by omega) (by omega) ‹_›)).symm, rfl⟩)
        · have hst := Lib.hid (name_done (by omega) h12 hlt ha.out)
          clear ha
          go_wp2
          (try rw [Exit.noGoto_ret])
          go_ret
          exact ⟨ret_bool hst.out.symm, rfl⟩
    · have hf := Lib.hid (name_much h12)
      generalize Pt.nameB s = b at *
      go_enter Tryz.func115, Tryz.ntmps115
      go_wp2
      go_step3
      go_wp2
      rw [Exit.noGoto_ret]
      go_ret
      exact ⟨ret_bool hf.out.symm, rfl⟩

theorem small_eq (x : Int) (hx : -9223372036854775808 ≤ x ∧ x ≤ 9223372036854775807) : (x == wrap64 (wrap32 x)) = Pt.smallB x := by
  rw [Bool.eq_iff_iff, beq_iff_eq, Pt.smallB_iff]
  have h32 : wrap32 x = (x + 2147483648) % 4294967296 - 2147483648 := by unfold wrap32; rfl
  rw [h32, IntWalk.wrap64_in _ ⟨by omega, by omega⟩]
  omega
set_option maxRecDepth 100000 in
theorem small_any (x : Int) (w : World) (hx : -9223372036854775808 ≤ x ∧ x ≤ 9223372036854775807) : Calls Tryz.prog 96 #[.int .i64 x] w fun e w' => e = .returned (.bool (Pt.smallB x)) ∧ w = w' := by
  have H := Lib.hid (small_eq x hx)
  clear hx
  generalize Pt.smallB x = b at *
  go_enter Tryz.func96, Tryz.ntmps96
  go_wp2
  go_ret
  exact ⟨ret_bool H.out, rfl⟩
end Go.Proofs.YtmnigoibbcigdaaGreat
/- The walks through May of point and of its reference. -/
namespace Go.Proofs.YtmnigoibbcigdaaGreat
open Go.RowKit
set_option linter.unusedVariables false

set_option maxRecDepth 100000 in
theorem rsmall_any (x : Int) (w : World) : Calls Tryz.prog 100 #[.int .i64 x] w fun e w' => e = .returned (.bool (Pt.smallB x)) ∧ w = w' := by
  by_cases h1 : -2147483648 ≤ x
  · by_cases h2 : x ≤ 2147483647
    · have H : Hid (Pt.smallB x = true) := (Pt.smallB_iff x).2 ⟨h1, h2⟩
      go_enter Tryz.func100, Tryz.ntmps100
      go_wp2
      go_ret
      exact ⟨ret_bool H.out.symm, rfl⟩
    · have H : Hid (Pt.smallB x = false) := (Pt.smallB_false x).2 (by omega)
      go_enter Tryz.func100, Tryz.ntmps100
      go_wp2
      go_ret
      exact ⟨ret_bool H.out.symm, rfl⟩
  · have H : Hid (Pt.smallB x = false) := (Pt.smallB_false x).2 (by omega)
    go_enter Tryz.func100, Tryz.ntmps100
    go_wp2
    go_ret
    exact ⟨ret_bool H.out.symm, rfl⟩

set_option maxRecDepth 100000 in
set_option maxHeartbeats 800000 in
theorem rname_any (s : ByteArray) (w : World) : Calls Tryz.prog 116 #[.string s] w fun e w' => e = .returned (.bool (Pt.nameB s)) ∧ w = w' := by
  by_cases h0 : s.size < 1
  · have hf := Lib.hid (name_none (s := s) (by omega))
    generalize Pt.nameB s = b at *
    go_enter Tryz.func116, Tryz.ntmps116
    go_wp2
    go_ret
    exact ⟨ret_bool hf.out.symm, rfl⟩
  · by_cases h12 : s.size ≤ 12
    · go_enter Tryz.func116, Tryz.ntmps116
      go_wp2
      go_loop [3] (fun i => ∃ k : Nat, k ≤ s.size ∧ i = .int .i64 (k : Int) ∧ Hid ((s.data.toList.take k).all Pt.nameC = true)) (fun i => s.size - (intOf i).toNat)
      case atStart => exact ⟨0, Nat.zero_le _, rfl, Lib.hid (by simp)⟩
      case round =>
        obtain ⟨k, hk, rfl, ha⟩ := hrel
        by_cases hlt : k < s.size
        · have hc8 : s[k].toNat < 256 := s[k].toNat_lt
          have HY := Lib.hid fun h => name_step hlt ha.out h
          have HN := Lib.hid (name_stop hlt)
          clear ha
          by_cases h95 : s[k].toNat = 95
          · have hz : ((s[k].toNat : Int) != 95) = false := by rw [h95]; rfl
            have hY := Lib.hid (HY.out (nameC_yes3 (beq_iff_eq.2 (by omega))))
            clear h95 HY HN
            go_wp2
            go_round
            case rel => exact ⟨k + 1, by omega, by go_num, hY⟩
            case measure => simp [intOf]; omega
          · have hz : ((s[k].toNat : Int) != 95) = true := by simp; omega
            have hz' : ((s[k].toNat : Int) == 95) = false := by simp; omega
            by_cases hl : 97 ≤ s[k].toNat ∧ s[k].toNat ≤ 122
            · obtain ⟨hl1, hl2⟩ := hl
              have hY := Lib.hid (HY.out (nameC_yes1 (by omega) (by omega)))
              clear h95 HY HN hz'
              go_wp2
              go_round
              case rel => exact ⟨k + 1, by omega, by go_num, hY⟩
              case measure => simp [intOf]; omega
            · by_cases hd : 48 ≤ s[k].toNat ∧ s[k].toNat ≤ 57
              · obtain ⟨hd1, hd2⟩ := hd
                have hl' : s[k].toNat < 97 := by omega
                have hY := Lib.hid (HY.out (nameC_yes2 (by omega) (by omega)))
                clear h95 HY HN hz' hl
                go_wp2
                go_round
                case rel => exact ⟨k + 1, by omega, by go_num, hY⟩
                case measure => simp [intOf]; omega
              · have hN := Lib.hid (HN.out (nameC_no (by omega) (by omega) hz'))
                clear h95 HY HN hz'
                have hl' : s[k].toNat < 97 ∨ 122 < s[k].toNat := by omega
                have hd' : s[k].toNat < 48 ∨ 57 < s[k].toNat := by omega
                clear hl hd
                rcases hl' with hl' | hl' <;> rcases hd' with hd' | hd'
                all_goals first
                  | (exfalso; omega)
                  | (go_wp2
                     go_ret
                     exact ⟨ret_bool hN.out.symm, rfl⟩)
        · have hst := Lib.hid (name_done (by omega) h12 hlt ha.out)
          clear ha
          go_wp2
          go_ret
          exact ⟨ret_bool hst.out.symm, rfl⟩
    · have hf := Lib.hid (name_much h12)
      generalize Pt.nameB s = b at *
      go_enter Tryz.func116, Tryz.ntmps116
      go_wp2
      go_ret
      exact ⟨ret_bool hf.out.symm, rfl⟩

/-- a point's numbers are ints -/
def Pt.wf (p : Pt.Point) : Prop := (-9223372036854775808 ≤ p.2.1 ∧ p.2.1 ≤ 9223372036854775807) ∧ (-9223372036854775808 ≤ p.2.2 ∧ p.2.2 ≤ 9223372036854775807)
def ptV (p : Pt.Point) : Value := .agg #[.string p.1, .int .i64 p.2.1, .int .i64 p.2.2]

set_option maxRecDepth 100000 in
theorem may_any (p : Pt.Point) (w : World) (hp : Pt.wf p) : Calls Tryz.prog 94 #[.agg #[.string p.1, .int .i64 p.2.1, .int .i64 p.2.2]] w fun e w' => e = .returned (.bool (Pt.mayB p)) ∧ Below w.heap.size w w' := by
  obtain ⟨s, t, v⟩ := p
  have H1 := fun W => Lib.hid (name_any s W)
  have H2 := fun W => Lib.hid (small_any t W hp.1)
  have H3 := fun W => Lib.hid (small_any v W hp.2)
  have hm : Pt.mayB (s, t, v) = (Pt.nameB s && Pt.smallB t && Pt.smallB v) := rfl
  clear hp
  generalize Pt.mayB (s, t, v) = b at *
  generalize Pt.nameB s = b1 at *
  generalize Pt.smallB t = b2 at *
  generalize Pt.smallB v = b3 at *
  have Hm := Lib.hid hm
  clear hm
  have hb := (Below.refl w.heap.size w).alloc (Nat.le_refl _) (.cells #[.string s, .int .i64 t, .int .i64 v] 66)
  cases b1
  · go_enter Tryz.func94, Tryz.ntmps94
    go_wp2_with fail
    refine (H1 _).out.mono ?_
    rintro e w' ⟨rfl, rfl⟩
    go_wp2_with fail
    go_ret
    exact ⟨ret_bool (by rw [Hm.out]; rfl), hb⟩
  · cases b2
    · go_enter Tryz.func94, Tryz.ntmps94
      go_wp2_with fail
      refine (H1 _).out.mono ?_
      rintro e w' ⟨rfl, rfl⟩
      go_wp2_with fail
      refine (H2 _).out.mono ?_
      rintro e w' ⟨rfl, rfl⟩
      go_wp2_with fail
      go_ret
      exact ⟨ret_bool (by rw [Hm.out]; rfl), hb⟩
    · go_enter Tryz.func94, Tryz.ntmps94
      go_wp2_with fail
      refine (H1 _).out.mono ?_
      rintro e w' ⟨rfl, rfl⟩
      go_wp2_with fail
      refine (H2 _).out.mono ?_
      rintro e w' ⟨rfl, rfl⟩
      go_wp2_with fail
      refine (H3 _).out.mono ?_
      rintro e w' ⟨rfl, rfl⟩
      go_wp2_with fail
      go_ret
      exact ⟨ret_bool (by rw [Hm.out]; rfl), hb⟩

set_option maxRecDepth 100000 in
theorem rmay_any (p : Pt.Point) (w : World) (hp : Pt.wf p) : Calls Tryz.prog 97 #[.agg #[.string p.1, .int .i64 p.2.1, .int .i64 p.2.2]] w fun e w' => e = .returned (.bool (Pt.mayB p)) ∧ Below w.heap.size w w' := by
  obtain ⟨s, t, v⟩ := p
  have H1 := fun W => Lib.hid (rname_any s W)
  have H2 := fun W => Lib.hid (rsmall_any t W)
  have H3 := fun W => Lib.hid (rsmall_any v W)
  have hm : Pt.mayB (s, t, v) = (Pt.nameB s && Pt.smallB t && Pt.smallB v) := rfl
  clear hp
  generalize Pt.mayB (s, t, v) = b at *
  generalize Pt.nameB s = b1 at *
  generalize Pt.smallB t = b2 at *
  generalize Pt.smallB v = b3 at *
  have Hm := Lib.hid hm
  clear hm
  have hb := (Below.refl w.heap.size w).alloc (Nat.le_refl _) (.cells #[.string s, .int .i64 t, .int .i64 v] 66)
  cases b1
  · go_enter Tryz.func97, Tryz.ntmps97
    go_wp2_with fail
    refine (H1 _).out.mono ?_
    rintro e w' ⟨rfl, rfl⟩
    go_wp2_with fail
    go_ret
    exact ⟨ret_bool (by rw [Hm.out]; rfl), hb⟩
  · cases b2
    · go_enter Tryz.func97, Tryz.ntmps97
      go_wp2_with fail
      refine (H1 _).out.mono ?_
      rintro e w' ⟨rfl, rfl⟩
      go_wp2_with fail
      refine (H2 _).out.mono ?_
      rintro e w' ⟨rfl, rfl⟩
      go_wp2_with fail
      go_ret
      exact ⟨ret_bool (by rw [Hm.out]; rfl), hb⟩
    · go_enter Tryz.func97, Tryz.ntmps97
      go_wp2_with fail
      refine (H1 _).out.mono ?_
      rintro e w' ⟨rfl, rfl⟩
      go_wp2_with fail
      refine (H2 _).out.mono ?_
      rintro e w' ⟨rfl, rfl⟩
      go_wp2_with fail
      refine (H3 _).out.mono ?_
      rintro e w' ⟨rfl, rfl⟩
      go_wp2_with fail
      go_ret
      exact ⟨ret_bool (by rw [Hm.out]; rfl), hb⟩
end Go.Proofs.YtmnigoibbcigdaaGreat
/- The walks through Batch of point and of its reference. -/
namespace Go.Proofs.YtmnigoibbcigdaaGreat
open Go.RowKit
set_option linter.unusedVariables false

theorem batch_stop {ps : List Pt.Point} {k : Nat} (hk : k < ps.length) (h : Pt.mayB ps[k] = false) : ps.any (fun p => !Pt.mayB p) = true := by
  rw [List.any_eq_true]
  exact ⟨ps[k], List.getElem_mem _, by rw [h]; rfl⟩
theorem batch_step {ps : List Pt.Point} {k : Nat} (hk : k < ps.length) (ha : (ps.take k).any (fun p => !Pt.mayB p) = false) (h : Pt.mayB ps[k] = true) : (ps.take (k + 1)).any (fun p => !Pt.mayB p) = false := by
  rw [List.take_succ_eq_append_getElem hk, List.any_append, ha]; simp [h]
theorem batch_done {ps : List Pt.Point} {k : Nat} (hk : ¬ k < ps.length) (ha : (ps.take k).any (fun p => !Pt.mayB p) = false) : ps.any (fun p => !Pt.mayB p) = false := by
  rwa [List.take_of_length_le (by omega)] at ha
theorem batch_eq (ps : List Pt.Point) : Pt.batchB ps = (decide (ps.length ≤ 8) && !ps.any (fun p => !Pt.mayB p)) := by
  unfold Pt.batchB; congr 1
  induction ps with
  | nil => rfl
  | cons p ps ih => rw [List.all_cons, List.any_cons, ih]; simp

def IdxPost (w : World) (b : Bool) (e : Ending) (w' : World) : Prop := ∃ i : Int, e = .returned (.int .i64 i) ∧ decide (0 ≤ i) = b ∧ Below w.heap.size w w'

theorem batch1_any (p : Pt.Point) (w : World) (hp : Pt.wf p) : Calls Tryz.prog 103 #[.agg #[.string p.1, .int .i64 p.2.1, .int .i64 p.2.2]] w fun e w' => e = .returned (.bool (!Pt.mayB p)) ∧ Below w.heap.size w w' := by
  have H1 := fun W => Lib.hid (may_any p W hp)
  generalize Pt.mayB p = b at *
  go_enter Tryz.func103, Tryz.ntmps103
  go_wp2_with fail
  refine (H1 _).out.mono ?_
  rintro e w' ⟨rfl, hb⟩
  go_wp2_with fail
  go_ret
  exact ⟨rfl, ((Below.refl w.heap.size w).alloc (Nat.le_refl _) _).trans (hb.mono (by simp))⟩

set_option maxRecDepth 100000 in
set_option maxHeartbeats 400000 in
theorem indexFunc_any (A : Option Addr) (c : Nat) (ps : List Pt.Point) (w : World) (B : Nat) (hr : Reads w B 3 A ps.length (ps.flatMap pointCells)) (hB : B ≤ w.heap.size) (hn : ps.length ≤ 140737488355328) (hwf : ∀ p ∈ ps, Pt.wf p) :
    Calls Tryz.prog 117 #[.slice A ps.length c, .func (.func 103) #[] #[]] w (IdxPost w (ps.any fun p => !Pt.mayB p)) := by
  have HW := Lib.hid hwf
  have HR := Lib.hid hr
  clear hwf hr
  go_enter Tryz.func117, Tryz.ntmps117
  go_wp2
  go_loopw [5, 8] (fun _ i wr => ∃ k : Nat, k ≤ ps.length ∧ i = .int .i64 (k : Int) ∧ Hid ((ps.take k).any (fun p => !Pt.mayB p) = false) ∧ Hid (Below w.heap.size w wr)) (fun _ i _ => ps.length - (intOf i).toNat)
  case atStart => exact ⟨0, Nat.zero_le _, rfl, Lib.hid (by simp), Lib.hid (Below.refl _ _)⟩
  case round =>
    obtain ⟨k, hk, rfl, ha, hbw⟩ := hrel
    by_cases hlt : k < ps.length
    · obtain ⟨b, off, rfl, hbl, hc⟩ := HR.out.2 (by omega)
      have hbw1 := hbw.out
      have hcell0 : wr.cell? ⟨b, off + k * 3, none⟩ = some (.string ps[k].1) := by have := hc (k * 3 + 0) (.string ps[k].1) (by rw [flat_at pointCells 3 (fun _ => rfl) ps k 0 hlt (by omega)]; rfl); rw [hbw1.cell (p := ⟨b, _, none⟩) (show b < _ by omega)]; rwa [← Nat.add_assoc] at this
      have hcell1 : wr.cell? ⟨b, off + k * 3 + 1, none⟩ = some (.int .i64 ps[k].2.1) := by have := hc (k * 3 + 1) (.int .i64 ps[k].2.1) (by rw [flat_at pointCells 3 (fun _ => rfl) ps k 1 hlt (by omega)]; rfl); rw [hbw1.cell (p := ⟨b, _, none⟩) (show b < _ by omega)]; rwa [← Nat.add_assoc] at this
      have hcell2 : wr.cell? ⟨b, off + k * 3 + 2, none⟩ = some (.int .i64 ps[k].2.2) := by have := hc (k * 3 + 2) (.int .i64 ps[k].2.2) (by rw [flat_at pointCells 3 (fun _ => rfl) ps k 2 hlt (by omega)]; rfl); rw [hbw1.cell (p := ⟨b, _, none⟩) (show b < _ by omega)]; rwa [← Nat.add_assoc] at this
      have H1 := fun W => Lib.hid (batch1_any ps[k] W (HW.out _ (List.getElem_mem _)))
      have HS := Lib.hid fun h => batch_stop hlt h
      have HG := Lib.hid fun h => batch_step hlt ha.out h
      clear hc ha hbw1
      cases hm : Pt.mayB ps[k]
      · have hF := Lib.hid (HS.out hm)
        rw [hm] at H1
        clear HS HG hm
        go_wp2_with fail
        refine (H1 _).out.mono ?_
        rintro e w1 ⟨rfl, hb1⟩
        go_wp2_with fail
        go_ret
        exact ⟨_, rfl, by rw [hF.out]; simp, hbw.out.trans (hb1.mono hbw.out.size)⟩
      · have hF := Lib.hid (HG.out hm)
        rw [hm] at H1
        clear HS HG hm
        go_wp2_with fail
        refine (H1 _).out.mono ?_
        rintro e w1 ⟨rfl, hb1⟩
        go_wp2_with fail
        go_roundw
        case rel => exact ⟨k + 1, by omega, by go_num, hF, Lib.hid (hbw.out.trans (hb1.mono hbw.out.size))⟩
        case measure => simp [intOf]; omega
    · have hF := Lib.hid (batch_done hlt ha.out)
      clear ha
      go_wp2_with fail
      go_ret
      exact ⟨_, rfl, by rw [hF.out]; rfl, hbw.out⟩

set_option maxRecDepth 100000 in
theorem containsFunc_any (A : Option Addr) (c : Nat) (ps : List Pt.Point) (w : World) (B : Nat) (hr : Reads w B 3 A ps.length (ps.flatMap pointCells)) (hB : B ≤ w.heap.size) (hn : ps.length ≤ 140737488355328) (hwf : ∀ p ∈ ps, Pt.wf p) :
    Calls Tryz.prog 102 #[.slice A ps.length c, .func (.func 103) #[] #[]] w fun e w' => e = .returned (.bool (ps.any fun p => !Pt.mayB p)) ∧ Below w.heap.size w w' := by
  have H1 := fun W => Lib.hid fun (h : w = W) => (show Calls Tryz.prog 117 #[.slice A ps.length c, .func (.func 103) #[] #[]] W (IdxPost W (ps.any fun p => !Pt.mayB p)) from h ▸ indexFunc_any A c ps w B hr hB hn hwf)
  clear hr hwf
  go_enter Tryz.func102, Tryz.ntmps102
  go_wp2_with fail
  refine ((H1 _).out rfl).mono ?_
  rintro e w1 ⟨i, rfl, hi, hb⟩
  have Hi := Lib.hid hi
  clear hi
  go_wp2_with fail
  go_ret
  exact ⟨ret_bool Hi.out, hb⟩

set_option maxRecDepth 100000 in
theorem batch_any (A : Option Addr) (c : Nat) (ps : List Pt.Point) (w : World) (B : Nat) (hr : Reads w B 3 A ps.length (ps.flatMap pointCells)) (hB : B ≤ w.heap.size) (hn : ps.length ≤ 140737488355328) (hwf : ∀ p ∈ ps, Pt.wf p) :
    Calls Tryz.prog 88 #[.slice A ps.length c] w fun e w' => e = .returned (.bool (Pt.batchB ps)) ∧ Below w.heap.size w w' := by
  have H1 := Lib.hid (containsFunc_any A c ps w B hr hB hn hwf)
  have He := batch_eq ps
  clear hr hwf
  by_cases h8 : ps.length ≤ 8
  · have HE : Hid (Pt.batchB ps = !ps.any (fun p => !Pt.mayB p)) := by show _ = _; rw [He]; simp [h8]
    clear He
    generalize Pt.batchB ps = r at *
    generalize ps.any (fun p => !Pt.mayB p) = b at *
    go_enter Tryz.func88, Tryz.ntmps88
    go_wp2_with fail
    refine H1.out.mono ?_
    rintro e w1 ⟨rfl, hb⟩
    go_wp2_with fail
    go_ret
    exact ⟨ret_bool HE.out.symm, hb⟩
  · have HE : Hid (Pt.batchB ps = false) := by show _ = _; rw [He]; simp [h8]
    clear He
    generalize Pt.batchB ps = r at *
    go_enter Tryz.func88, Tryz.ntmps88
    go_wp2_with fail
    go_ret
    exact ⟨ret_bool HE.out.symm, Below.refl _ _⟩

end Go.Proofs.YtmnigoibbcigdaaGreat
/- Which entries may be: plain, and the walk through message.MayEntry (chapter 11). -/
namespace Go.Proofs.YtmnigoibbcigdaaGreat
open Go.RowKit
set_option linter.unusedVariables false

def Ig.numB (x : Int) : Bool := decide (0 ≤ x) && decide (x ≤ 2147483647)
def Ig.mayB (v c s n : Int) (ps : List Pt.Point) : Bool := [v, c, s, n].all Ig.numB && (Pt.batchB ps && (decide (0 < s) || decide (ps.length = 0)))
theorem Ig.num_yes {x : Int} (h0 : ¬ x < 0) (h1 : ¬ 2147483647 < x) : Ig.numB x = true := by unfold Ig.numB; simp; omega
theorem Ig.num_no {x : Int} (h : x < 0 ∨ 2147483647 < x) : Ig.numB x = false := by unfold Ig.numB; simp; omega
theorem Ig.may_len {v c s n : Int} {bs : List Pt.Point} (h : Ig.mayB v c s n bs = true) : bs.length ≤ 8 := by
  unfold Ig.mayB at h; rw [Bool.and_eq_true, Bool.and_eq_true] at h; exact Pt.batch_len h.2.1
theorem Ig.may_stop {v c s n : Int} {ps : List Pt.Point} {k : Nat} (hk : k < [v, c, s, n].length) (h : Ig.numB ([v, c, s, n][k]) = false) : Ig.mayB v c s n ps = false := by
  unfold Ig.mayB
  have : [v, c, s, n].all Ig.numB = false := by
    rw [List.all_eq_false]; exact ⟨_, List.getElem_mem hk, by rw [h]; simp⟩
  rw [this]; rfl
theorem Ig.may_go {v c s n : Int} {ps : List Pt.Point} (h : [v, c, s, n].all Ig.numB = true) : Ig.mayB v c s n ps = (Pt.batchB ps && (decide (0 < s) || decide (ps.length = 0))) := by
  unfold Ig.mayB; rw [h]; rfl
set_option maxRecDepth 100000 in
set_option maxHeartbeats 1000000 in
theorem mayEntry_any (v c s n : Int) (A : Option Addr) (d : Nat) (ps : List Pt.Point) (w : World) (B : Nat) (hr : Reads w B 3 A ps.length (ps.flatMap pointCells)) (hB : B ≤ w.heap.size) (hn : ps.length ≤ 140737488355328) (hwf : ∀ p ∈ ps, Pt.wf p) :
    Calls Tryz.prog 64 #[.agg #[.int .i64 v, .int .i64 c, .int .i64 s, .int .i64 n, .slice A ps.length d]] w fun e w' => e = .returned (.bool (Ig.mayB v c s n ps)) ∧ Below w.heap.size w w' := by
  have HBt := fun W (hb : Below w.heap.size w W) => Lib.hid (batch_any A d ps W B (hr.below (hb.mono hB)) (by have := hb.size; omega) hn hwf)
  have HSt := Lib.hid (fun k hk h => @Ig.may_stop v c s n ps k hk h)
  have HGo := Lib.hid (@Ig.may_go v c s n ps)
  clear hr hwf
  generalize Ig.mayB v c s n ps = res at *
  generalize Pt.batchB ps = bt at *
  go_enter Tryz.func64, Tryz.ntmps64
  go_wp2_with fail
  have hE := (Blk.new w 36 #[.int .i64 v, .int .i64 c, .int .i64 s, .int .i64 n, .slice A ps.length d]).alloc (.cells #[.int .i64 v, .int .i64 c, .int .i64 s, .int .i64 n] 3)
  have hX := Blk.new (w.alloc (.cells #[.int .i64 v, .int .i64 c, .int .i64 s, .int .i64 n, .slice A ps.length d] 36)) 3 #[.int .i64 v, .int .i64 c, .int .i64 s, .int .i64 n]
  rw [World.size_alloc] at hX
  have hb2 : Below w.heap.size w ((w.alloc (.cells #[.int .i64 v, .int .i64 c, .int .i64 s, .int .i64 n, .slice A ps.length d] 36)).alloc (.cells #[.int .i64 v, .int .i64 c, .int .i64 s, .int .i64 n] 3)) := ((Below.refl _ _).alloc (Nat.le_refl _) _).alloc (by simp) _
  have HE := Lib.hid hE
  have HX := Lib.hid hX
  have Hb2 := Lib.hid hb2
  clear hE hX hb2
  generalize (w.alloc (.cells #[.int .i64 v, .int .i64 c, .int .i64 s, .int .i64 n, .slice A ps.length d] 36)).alloc (.cells #[.int .i64 v, .int .i64 c, .int .i64 s, .int .i64 n] 3) = w2 at *
  go_loopw [4, 15] (fun _ i wr => ∃ k : Nat, k ≤ 4 ∧ i = .int .i64 (k : Int) ∧ Hid (([v, c, s, n].take k).all Ig.numB = true) ∧ w2 = wr) (fun _ i _ => 4 - (intOf i).toNat)
  case atStart => exact ⟨0, Nat.zero_le _, rfl, Lib.hid (by simp), rfl⟩
  case round =>
    obtain ⟨k, hk, rfl, ha, rfl⟩ := hrel
    by_cases hlt : k < 4
    · have hlt' : k < [v, c, s, n].length := hlt
      have hcell : w2.cell? ⟨w.heap.size + 1, k, none⟩ = some (.int .i64 [v, c, s, n][k]) := (HX.out.cell k).trans (by
        rcases (by omega : k = 0 ∨ k = 1 ∨ k = 2 ∨ k = 3) with rfl | rfl | rfl | rfl <;> rfl)
      have HS := Lib.hid (fun h => HSt.out k hlt' h)
      have HG : Hid (Ig.numB [v, c, s, n][k] = true → ([v, c, s, n].take (k + 1)).all Ig.numB = true) := fun h => by
        rw [List.take_succ_eq_append_getElem hlt', List.all_append, ha.out]; simp [h]
      clear HSt HGo HBt
      generalize [v, c, s, n][k] = x at *
      by_cases h0 : x < 0
      · have Hres := Lib.hid (HS.out (Ig.num_no (.inl h0)))
        clear HS HG
        go_wp2_with fail
        go_ret
        exact ⟨ret_bool Hres.out.symm, Hb2.out⟩
      · by_cases h1 : 2147483647 < x
        · have Hres := Lib.hid (HS.out (Ig.num_no (.inr h1)))
          clear HS HG
          go_wp2_with fail
          go_ret
          exact ⟨ret_bool Hres.out.symm, Hb2.out⟩
        · have Hn := Lib.hid (HG.out (Ig.num_yes h0 h1))
          clear HS HG
          go_wp2_with fail
          go_roundw
          case rel => exact ⟨k + 1, by omega, by go_num, Hn, trivial⟩
          case measure => simp [intOf]; omega
    · have htk : [v, c, s, n].take k = [v, c, s, n] := List.take_of_length_le (by simp; omega)
      rw [htk] at ha
      have Hres := Lib.hid (HGo.out ha.out)
      have c2 := HE.out.cell 2
      have c4 := HE.out.cell 4
      simp only [List.getElem?_toArray, List.getElem?_cons_zero, List.getElem?_cons_succ] at c2 c4
      clear HSt HGo htk ha
      go_wp2_with fail
      refine (HBt w2 Hb2.out).out.mono ?_
      rintro e w3 ⟨rfl, hb3⟩
      have d2 := (hb3.cell (p := ⟨w.heap.size, 2, none⟩) HE.out.lt).trans c2
      have d4 := (hb3.cell (p := ⟨w.heap.size, 4, none⟩) HE.out.lt).trans c4
      have Hb3 : Hid (Below w.heap.size w w3) := Hb2.out.trans (hb3.mono Hb2.out.size)
      clear hb3 c2 c4
      cases bt
      · go_wp2_with fail
        go_ret
        exact ⟨ret_bool (by rw [Hres.out]; first | rfl | (simp; done) | (simp [*]; done) | (simp; omega) | (simp [*]; omega)), Hb3.out⟩
      · by_cases hs : 0 < s
        · go_wp2_with fail
          go_ret
          exact ⟨ret_bool (by rw [Hres.out]; first | rfl | (simp; done) | (simp [*]; done) | (simp; omega) | (simp [*]; omega)), Hb3.out⟩
        · by_cases hz : ps.length = 0
          · have hzb : ((ps.length : Int) == 0) = true := by simp [hz]
            go_wp2_with fail
            go_ret
            exact ⟨ret_bool (by rw [Hres.out]; first | rfl | (simp; done) | (simp [*]; done) | (simp; omega) | (simp [*]; omega)), Hb3.out⟩
          · have hzb : ((ps.length : Int) == 0) = false := beq_eq_false_iff_ne.2 (by omega)
            go_wp2_with fail
            go_ret
            exact ⟨ret_bool (by rw [Hres.out]; first | rfl | (simp; done) | (simp [*]; done) | (simp; omega) | (simp [*]; omega)), Hb3.out⟩
end Go.Proofs.YtmnigoibbcigdaaGreat
