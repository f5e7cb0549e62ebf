/- Which tables may be, a session's place, copies: the walks through session.may, find and their reference (chapter 10). -/
import Derived.Test.YtllbjegnjjeaeaaSePlain2
import Derived.Test.YtllbjegnjjeaeaaSameRows
import Derived.Test.YtllbjegnjjeaeaaOwnRow
import Derived.Test.YtllbjegnjjeaeaaAft
import Derived.BigQuiet
namespace Go.Proofs.Ytllbjegnjjeaeaa
open Go.RowKit
set_option linter.unusedVariables false

theorem info_srow : (Try.prog.info? 49).map (fun i => (i.zero, i.size, i.bytes)) = some (some (.agg #[.int .i64 0, .int .i64 0, .int .i64 0, .int .i64 0]), 4, 32) := by kernel_rfl
theorem row_cells {w wr : World} {B b off k : Nat} {ps : List Se.Row} (hlt : k < ps.length) (hc : ∀ j u, (ps.flatMap rowCells)[j]? = some u → w.cell? ⟨b, off + j, none⟩ = some u) (hk : ∀ p : Addr, p.block < B → wr.cell? p = w.cell? p) (hb : b < B) :
    wr.cell? ⟨b, off + k * 4, none⟩ = some (.int .i64 ps[k].1) ∧ wr.cell? ⟨b, off + k * 4 + 1, none⟩ = some (.int .i64 ps[k].2.1) ∧ wr.cell? ⟨b, off + k * 4 + 2, none⟩ = some (.int .i64 ps[k].2.2.1) ∧ wr.cell? ⟨b, off + k * 4 + 3, none⟩ = some (.int .i64 ps[k].2.2.2) := by
  refine ⟨?_, ?_, ?_, ?_⟩
  · rw [hk ⟨b, _, none⟩ hb]; have := hc (k * 4 + 0) (.int .i64 ps[k].1) (by rw [flat_at rowCells 4 (fun _ => rfl) ps k 0 hlt (by omega)]; rfl); rwa [← Nat.add_assoc] at this
  · rw [hk ⟨b, _, none⟩ hb]; have := hc (k * 4 + 1) (.int .i64 ps[k].2.1) (by rw [flat_at rowCells 4 (fun _ => rfl) ps k 1 hlt (by omega)]; rfl); rwa [← Nat.add_assoc] at this
  · rw [hk ⟨b, _, none⟩ hb]; have := hc (k * 4 + 2) (.int .i64 ps[k].2.2.1) (by rw [flat_at rowCells 4 (fun _ => rfl) ps k 2 hlt (by omega)]; rfl); rwa [← Nat.add_assoc] at this
  · rw [hk ⟨b, _, none⟩ hb]; have := hc (k * 4 + 3) (.int .i64 ps[k].2.2.2) (by rw [flat_at rowCells 4 (fun _ => rfl) ps k 3 hlt (by omega)]; rfl); rwa [← Nat.add_assoc] at this
theorem may_done {ps : List Se.Row} {k : Nat} (h4 : ps.length ≤ 4) (hk : ¬ k < ps.length) (hk2 : k ≤ ps.length) (ha : (List.range k).all (Se.upB ps) = true) : Se.mayB ps = true := by
  obtain rfl : k = ps.length := by omega
  unfold Se.mayB; rw [ha, decide_eq_true h4]; rfl
theorem up_yes {ps : List Se.Row} {j : Nat} (hj : j + 1 < ps.length) (h : ¬ ps[j + 1].1 ≤ (ps[j]'(by omega)).1) : Se.upB ps (j + 1) = true := by
  unfold Se.upB; rw [Nat.add_sub_cancel, Se.getD_lt (by omega), Se.getD_lt hj, decide_eq_false (by omega), decide_eq_true (by omega)]; rfl
theorem up_no {ps : List Se.Row} {j : Nat} (hj : j + 1 < ps.length) (h : ps[j + 1].1 ≤ (ps[j]'(by omega)).1) : Se.mayB ps = false := by
  refine Se.range_stop hj ?_
  unfold Se.upB; rw [Nat.add_sub_cancel, Se.getD_lt (by omega), Se.getD_lt hj, decide_eq_false (by omega), decide_eq_false (by omega)]; rfl
theorem may_long {ps : List Se.Row} (h : ¬ ps.length ≤ 4) : Se.mayB ps = false := by unfold Se.mayB; rw [decide_eq_false h]; rfl
theorem cell_keep {w : World} {p : Addr} {u : Value} (o : Obj) (h : w.cell? p = some u) : (w.alloc o).cell? p = some u := (World.cell?_alloc_lt w o p (World.block_lt_of_cell? w _ h)).trans h
/-- the world as it was, but for draws -/
def Drawn (w w' : World) : Prop := ∃ n, w' = w.drewN n
theorem Drawn.below {w w' : World} (h : Drawn w w') (B : Nat) : Below B w w' := by obtain ⟨n, rfl⟩ := h; exact below_drewN (Below.refl _ _) n
theorem Drawn.cell {w w' : World} (h : Drawn w w') (p : Addr) : w'.cell? p = w.cell? p := by obtain ⟨n, rfl⟩ := h; rfl

set_option maxRecDepth 100000 in
set_option maxHeartbeats 800000 in
theorem semay_any (A : Option Addr) (c : Nat) (ps : List Se.Row) (w : World) (B : Nat) (hr : Reads w B 4 A ps.length (ps.flatMap rowCells)) :
    Calls Try.prog 26 #[.slice A ps.length c] w fun e w' => e = .returned (.bool (Se.mayB ps)) ∧ Drawn w w' := by
  have HR := Lib.hid hr
  have HLong := Lib.hid (@may_long ps)
  have HNo := Lib.hid (fun j hj h => @up_no ps j hj h)
  have HDn := Lib.hid (fun k h4 hk hk2 ha => @may_done ps k h4 hk hk2 ha)
  clear hr
  generalize Se.mayB ps = res at *
  by_cases h4 : ps.length ≤ 4
  · go_enter Try.func26, Try.ntmps26
    go_wp2_with fail
    go_loopw [3, 9] (fun _ i wr => ∃ k n : Nat, k ≤ ps.length ∧ i = .int .i64 (k : Int) ∧ Hid ((List.range k).all (Se.upB ps) = true) ∧ wr = w.drewN n) (fun _ i _ => ps.length - (intOf i).toNat)
    case atStart => exact ⟨0, 0, Nat.zero_le _, rfl, Lib.hid (by simp), rfl⟩
    case round =>
      obtain ⟨k, n, hk, rfl, ha, rfl⟩ := hrel
      by_cases hlt : k < ps.length
      · by_cases hk0 : k = 0
        · subst hk0
          have hd : decide ((0 : Int) < 0) = false := by decide
          go_wp2_with fail
          go_quiet (fail)
          go_wp2_with fail
          go_roundw
          case rel => exact ⟨1, n + nq, by omega, by go_num, Lib.hid (by simp [Se.upB]), rfl⟩
          case measure => simp [intOf]; omega
        · obtain ⟨j, rfl⟩ : ∃ j, k = j + 1 := ⟨k - 1, by omega⟩
          obtain ⟨b, off, rfl, hbl, hc⟩ := HR.out.2 (by omega)
          have hc0 := (row_cells (wr := w) hlt hc (fun p hp => rfl) hbl).1
          have hp0 := (row_cells (wr := w) (show j < ps.length by omega) hc (fun p hp => rfl) hbl).1
          have hd : decide ((0 : Int) < (j : Int) + 1) = true := decide_eq_true (by omega)
          have hi0 : (0 : Int) ≤ (j : Int) := by omega
          have hi1 : (j : Int) < (ps.length : Int) := by omega
          have hU := Lib.hid (fun h => Se.range_step ha.out (up_yes hlt h))
          have hN := Lib.hid (fun h => HNo.out j hlt h)
          clear ha hc HNo HDn HLong HR
          generalize ps[j + 1].1 = x at *
          generalize (ps[j]'(by omega)).1 = y at *
          by_cases hxy : x ≤ y
          · have HRf : Hid (res = false) := hN.out hxy
            have hdx : decide (x ≤ y) = true := decide_eq_true hxy
            clear hU hN
            go_wp2_with fail
            go_quiet (fail)
            go_wp2_with fail
            go_ret
            exact ⟨ret_bool HRf.out.symm, n + nq, by rw [World.drewN_drewN]⟩
          · have HU := Lib.hid (hU.out hxy)
            have hdx : decide (x ≤ y) = false := decide_eq_false hxy
            clear hU hN
            go_wp2_with fail
            go_quiet (fail)
            go_wp2_with fail
            go_roundw
            case rel => exact ⟨j + 1 + 1, n + nq, by omega, by go_num, HU, rfl⟩
            case measure => simp [intOf]; omega
      · have HRt : Hid (res = true) := HDn.out k h4 hlt hk ha.out
        clear ha
        go_wp2_with fail
        go_ret
        exact ⟨ret_bool HRt.out.symm, _, rfl⟩
  · have HRf : Hid (res = false) := HLong.out h4
    go_enter Try.func26, Try.ntmps26
    go_wp2_with fail
    go_ret
    exact ⟨ret_bool HRf.out.symm, 0, rfl⟩

set_option maxRecDepth 100000 in
set_option maxHeartbeats 800000 in
theorem rtable_any (A : Option Addr) (c : Nat) (ps : List Se.Row) (w : World) (B : Nat) (hr : Reads w B 4 A ps.length (ps.flatMap rowCells)) (hn : ps.length ≤ 140737488355328) :
    Calls Try.prog 29 #[.slice A ps.length c] w fun e w' => e = .returned (.bool (Se.mayB ps)) ∧ Drawn w w' := by
  have HR := Lib.hid hr
  have HLong := Lib.hid (@may_long ps)
  have HNo := Lib.hid (fun j hj h => @up_no ps j hj h)
  have HDn := Lib.hid (fun k h4 hk hk2 ha => @may_done ps k h4 hk hk2 ha)
  have HZ : Hid (ps.length = 0 → Se.mayB ps = true) := fun h => by unfold Se.mayB; rw [h]; rfl
  clear hr
  generalize Se.mayB ps = res at *
  go_enter Try.func29, Try.ntmps29
  go_wp2_with fail
  go_loopw [3] (fun i wr => ∃ k n : Nat, (k ≤ ps.length ∨ k = 1) ∧ 1 ≤ k ∧ i = .int .i64 (k : Int) ∧ Hid (k ≤ ps.length → (List.range k).all (Se.upB ps) = true) ∧ wr = w.drewN n) (fun i _ => ps.length - (intOf i).toNat)
  case atStart => exact ⟨1, 0, .inr rfl, Nat.le_refl _, rfl, Lib.hid (fun _ => by simp [Se.upB]), rfl⟩
  case round =>
    obtain ⟨k, n, hk, hk1, rfl, ha, rfl⟩ := hrel
    by_cases hlt : k < ps.length
    · obtain ⟨j, rfl⟩ : ∃ j, k = j + 1 := ⟨k - 1, by omega⟩
      obtain ⟨b, off, rfl, hbl, hc⟩ := HR.out.2 (by omega)
      have hc0 := (row_cells (wr := w) hlt hc (fun p hp => rfl) hbl).1
      have hp0 := (row_cells (wr := w) (show j < ps.length by omega) hc (fun p hp => rfl) hbl).1
      have hi0 : (0 : Int) ≤ (j : Int) := by omega
      have hi1 : (j : Int) < (ps.length : Int) := by omega
      have hU := Lib.hid (fun h => Se.range_step (ha.out (by omega)) (up_yes hlt h))
      have hN := Lib.hid (fun h => HNo.out j hlt h)
      clear ha hc HNo HDn HLong HR HZ
      generalize ps[j + 1].1 = x at *
      generalize (ps[j]'(by omega)).1 = y at *
      by_cases hxy : x ≤ y
      · have HRf : Hid (res = false) := hN.out hxy
        have hdx : decide (x ≤ y) = true := decide_eq_true hxy
        clear hU hN
        go_wp2_with fail
        go_quiet (fail)
        go_wp2_with fail
        go_ret
        exact ⟨ret_bool HRf.out.symm, n + nq, by rw [World.drewN_drewN]⟩
      · have HU := Lib.hid (hU.out hxy)
        have hdx : decide (x ≤ y) = false := decide_eq_false hxy
        clear hU hN
        go_wp2_with fail
        go_quiet (fail)
        go_wp2_with fail
        go_roundw
        case rel => exact ⟨j + 1 + 1, n + nq, by omega, by omega, by go_num, Lib.hid (fun _ => HU.out), rfl⟩
        case measure => simp [intOf]; omega
    · have HRt : Hid (res = decide (ps.length ≤ 4)) := by
        show _ = _
        by_cases h4 : ps.length ≤ 4
        · rw [decide_eq_true h4]
          by_cases h0 : ps.length = 0
          · exact HZ.out h0
          · exact HDn.out k h4 hlt (by omega) (ha.out (by omega))
        · rw [decide_eq_false h4]; exact HLong.out h4
      clear ha
      go_wp2_with fail
      go_ret
      exact ⟨ret_bool (by rw [HRt.out]; first | rfl | (simp; omega)), _, rfl⟩

theorem find1_any (r : Se.Row) (s : Int) (g : Nat) (w : World) (hc : w.cell? ⟨g, 0, none⟩ = some (.int .i64 s)) :
    Calls Try.prog 44 #[.agg #[.int .i64 r.1, .int .i64 r.2.1, .int .i64 r.2.2.1, .int .i64 r.2.2.2], .pointer (some ⟨g, 0, none⟩)] w fun e w' => e = .returned (.bool (decide (r.1 = s))) ∧ Below w.heap.size w w' := by
  have hc1 := cell_keep (.cells #[.int .i64 r.1, .int .i64 r.2.1, .int .i64 r.2.2.1, .int .i64 r.2.2.2] 49) hc
  go_enter Try.func44, Try.ntmps44
  go_wp2
  go_ret
  exact ⟨ret_bool (by rw [Bool.eq_iff_iff]; simp), (Below.refl w.heap.size w).alloc (Nat.le_refl _) _⟩
theorem findV_at {ps : List Se.Row} {s : Int} {k : Nat} (hk : k < ps.length) (h : ps[k].1 = s) (hb : ∀ j (hj : j < ps.length), j < k → ps[j].1 ≠ s) : Se.findV ps s = (k : Int) := by
  have := Se.idx_first hk h (fun j hj => hb j (by omega) hj)
  unfold Se.findV; rw [this, if_pos hk]
theorem findV_none {ps : List Se.Row} {s : Int} {k : Nat} (hk : ¬ k < ps.length) (hb : ∀ j (hj : j < ps.length), j < k → ps[j].1 ≠ s) : Se.findV ps s = -1 := by
  have := Se.idx_none (rows := ps) (s := s) (fun j hj => hb j hj (by omega))
  unfold Se.findV; rw [this, if_neg (by omega)]
theorem find_step {ps : List Se.Row} {s : Int} {k : Nat} (hk : k < ps.length) (hb : ∀ j (hj : j < ps.length), j < k → ps[j].1 ≠ s) (h : ps[k].1 ≠ s) : ∀ j (hj : j < ps.length), j < k + 1 → ps[j].1 ≠ s := by
  intro j hj hjk
  by_cases e : j = k
  · subst e; exact h
  · exact hb j hj (by omega)
set_option maxRecDepth 100000 in
set_option maxHeartbeats 800000 in
theorem indexFuncR_any (A : Option Addr) (c : Nat) (ps : List Se.Row) (s : Int) (g : Nat) (w : World) (B : Nat) (hr : Reads w B 4 A ps.length (ps.flatMap rowCells)) (hB : B ≤ w.heap.size) (hn : ps.length ≤ 140737488355328) (hcs : w.cell? ⟨g, 0, none⟩ = some (.int .i64 s)) :
    Calls Try.prog 43 #[.slice A ps.length c, .func (.func 44) #[] #[.pointer (some ⟨g, 0, none⟩)]] w fun e w' => e = .returned (.int .i64 (Se.findV ps s)) ∧ Below w.heap.size w w' := by
  have HR := Lib.hid hr
  have hgl := World.block_lt_of_cell? w _ hcs
  have HC := fun W (hb : Below w.heap.size w W) => Lib.hid ((hb.cell (p := ⟨g, 0, none⟩) hgl).trans hcs)
  have HAt := Lib.hid (fun k hk h hb => @findV_at ps s k hk h hb)
  have HNo := Lib.hid (fun k hk hb => @findV_none ps s k hk hb)
  clear hr hcs
  generalize Se.findV ps s = res at *
  go_enter Try.func43, Try.ntmps43
  go_wp2_with fail
  go_loopw [5, 8] (fun _ i wr => ∃ k : Nat, k ≤ ps.length ∧ i = .int .i64 (k : Int) ∧ Hid (∀ j (hj : j < ps.length), j < k → ps[j].1 ≠ s) ∧ Hid (Below w.heap.size w wr)) (fun _ i _ => ps.length - (intOf i).toNat)
  case atStart => exact ⟨0, Nat.zero_le _, rfl, Lib.hid (fun _ _ h => absurd h (by omega)), Lib.hid (Below.refl _ _)⟩
  case round =>
    obtain ⟨k, hk, rfl, ha, hbw⟩ := hrel
    by_cases hlt : k < ps.length
    · obtain ⟨b, off, rfl, hbl, hc⟩ := HR.out.2 (by omega)
      obtain ⟨hc0, hc1, hc2, hc3⟩ := row_cells (wr := wr) hlt hc (fun p hp => hbw.out.cell (p := p) (by omega)) hbl
      have H1 := Lib.hid (find1_any ps[k] s g wr (HC wr hbw.out).out)
      have HS := Lib.hid (fun h => HAt.out k hlt h ha.out)
      have HG := Lib.hid (fun h => find_step hlt ha.out h)
      clear hc ha HC HAt HNo
      by_cases hm : ps[k].1 = s
      · have hF := Lib.hid (HS.out hm)
        rw [decide_eq_true hm] at H1
        clear HS HG hm
        go_wp2_with fail
        refine H1.out.mono ?_
        rintro e w1 ⟨rfl, hb1⟩
        go_wp2_with fail
        go_ret
        exact ⟨ret_int hF.out.symm, hbw.out.trans (hb1.mono hbw.out.size)⟩
      · have hF := Lib.hid (HG.out hm)
        rw [decide_eq_false hm] at H1
        clear HS HG hm
        go_wp2_with fail
        refine H1.out.mono ?_
        rintro e w1 ⟨rfl, hb1⟩
        go_wp2_with fail
        go_roundw
        case rel => exact ⟨k + 1, by omega, by go_num, hF, Lib.hid (hbw.out.trans (hb1.mono hbw.out.size))⟩
        case measure => simp [intOf]; omega
    · have hF := Lib.hid (HNo.out k hlt ha.out)
      clear ha HC HAt HNo
      go_wp2_with fail
      go_ret
      exact ⟨ret_int hF.out.symm, hbw.out⟩
theorem find_any (A : Option Addr) (c : Nat) (ps : List Se.Row) (s : Int) (w : World) (B : Nat) (hr : Reads w B 4 A ps.length (ps.flatMap rowCells)) (hB : B ≤ w.heap.size) (hn : ps.length ≤ 140737488355328) :
    Calls Try.prog 27 #[.slice A ps.length c, .int .i64 s] w fun e w' => e = .returned (.int .i64 (Se.findV ps s)) ∧ Below w.heap.size w w' := by
  have hb1 : Below w.heap.size w (w.alloc (.cells #[.int .i64 s] 3)) := (Below.refl _ _).alloc (Nat.le_refl _) _
  have H1 := Lib.hid (indexFuncR_any A c ps s w.heap.size (w.alloc (.cells #[.int .i64 s] 3)) B (hr.alloc hB _) (by simp; omega) hn (cell_new w _ _ 0))
  have Hb1 := Lib.hid hb1
  clear hr hb1
  generalize Se.findV ps s = res at *
  go_enter Try.func27, Try.ntmps27
  go_wp2_with fail
  refine H1.out.mono ?_
  rintro e w1 ⟨rfl, hb⟩
  go_wp2_with fail
  go_ret
  exact ⟨rfl, Hb1.out.trans (hb.mono Hb1.out.size)⟩
set_option maxRecDepth 100000 in
set_option maxHeartbeats 800000 in
theorem rat_any (A : Option Addr) (c : Nat) (ps : List Se.Row) (s : Int) (w : World) (B : Nat) (hr : Reads w B 4 A ps.length (ps.flatMap rowCells)) (hn : ps.length ≤ 140737488355328) :
    Calls Try.prog 30 #[.slice A ps.length c, .int .i64 s] w fun e w' => e = .returned (.int .i64 (Se.findV ps s)) ∧ w = w' := by
  have HR := Lib.hid hr
  have HAt := Lib.hid (fun k hk h hb => @findV_at ps s k hk h hb)
  have HNo := Lib.hid (fun k hk hb => @findV_none ps s k hk hb)
  clear hr
  generalize Se.findV ps s = res at *
  go_enter Try.func30, Try.ntmps30
  go_wp2_with fail
  go_loopw [5] (fun i wr => ∃ k : Nat, k ≤ ps.length ∧ i = .int .i64 (k : Int) ∧ Hid (∀ j (hj : j < ps.length), j < k → ps[j].1 ≠ s) ∧ wr = w) (fun i _ => ps.length - (intOf i).toNat)
  case atStart => exact ⟨0, Nat.zero_le _, rfl, Lib.hid (fun _ _ h => absurd h (by omega)), rfl⟩
  case round =>
    obtain ⟨k, hk, rfl, ha, rfl⟩ := hrel
    by_cases hlt : k < ps.length
    · obtain ⟨b, off, rfl, hbl, hc⟩ := HR.out.2 (by omega)
      have hc0 := (row_cells (wr := wr) hlt hc (fun p hp => rfl) hbl).1
      have HS := Lib.hid (fun h => HAt.out k hlt h ha.out)
      have HG := Lib.hid (fun h => find_step hlt ha.out h)
      clear hc ha HAt HNo HR
      generalize ps[k].1 = x at *
      by_cases hm : x = s
      · have hF := Lib.hid (HS.out hm)
        have hd : (x == s) = true := by simp [hm]
        clear HS HG hm
        go_wp2_with fail
        go_ret
        exact ⟨ret_int hF.out.symm, rfl⟩
      · have hF := Lib.hid (HG.out hm)
        have hd : (x == s) = false := by simp [hm]
        clear HS HG hm
        go_wp2_with fail
        go_roundw
        case rel => exact ⟨k + 1, by omega, by go_num, hF, by first | rfl | trivial⟩
        case measure => simp [intOf]; omega
    · have hF := Lib.hid (HNo.out k hlt ha.out)
      clear ha HAt HNo
      go_wp2_with fail
      go_ret
      exact ⟨ret_int hF.out.symm, rfl⟩
theorem rowCells_one (xs : List Se.Row) : ∀ u ∈ xs.flatMap rowCells, u.oneCell' = true := by
  intro u hu
  simp only [List.mem_flatMap, rowCells, List.mem_cons, List.not_mem_nil, or_false] at hu
  obtain ⟨x, _, hu⟩ := hu
  rcases hu with rfl | rfl | rfl | rfl <;> rfl
/-- a copy in the call's own memory -/
def OwnPost (w : World) (xs : List Se.Row) (e : Ending) (w' : World) : Prop := ∃ v, e = .returned v ∧ w'.ownsRow w.heap.size 49 4 v xs.length (xs.flatMap rowCells) ∧ Below w.heap.size w w'
set_option maxRecDepth 100000 in
set_option maxHeartbeats 400000 in
theorem rcopied_any (A : Option Addr) (c : Nat) (xs : List Se.Row) (w : World) (b1 : Nat) (hr : Reads w b1 4 A xs.length (xs.flatMap rowCells)) (hB : b1 ≤ w.heap.size) (hn : xs.length * 32 ≤ 140737488355328) :
    Calls Try.prog 31 #[.slice A xs.length c] w (OwnPost w xs) := by
  obtain ⟨i0, hi, hz0, hz1, hz2⟩ := info_parts info_srow
  have hown0 := own_empty w w.heap.size 49 4 (Nat.le_refl _)
  have hr1 := hr.alloc hB (.cells #[] 49)
  have hb0 : Below w.heap.size w (w.alloc (.cells #[] 49)) := (Below.refl _ _).alloc (Nat.le_refl _) _
  go_enter Try.func31, Try.ntmps31
  go_wp2_with (at_builtin; refine wpList_append_all _ rfl _ _ 22 rfl w.heap.size 49 i0 _ 4 32 Try.underlying22 hi hz0 hz1 hz2 rfl (by decide) _ 0 [] (by rfl) hown0 b1 A xs.length c (xs.flatMap rowCells) (by rfl) hr1 (rowCells_one xs) (by unfold maxLen; omega) (by omega) w hb0 (by simp) ?_; intro v1 w1 hown1 hb1 _)
  go_ret
  exact ⟨_, rfl, by simpa using hown1, hb1⟩
set_option maxRecDepth 100000 in
set_option maxHeartbeats 400000 in
theorem cloneR_any (A : Option Addr) (c : Nat) (xs : List Se.Row) (w : World) (b1 : Nat) (hr : Reads w b1 4 A xs.length (xs.flatMap rowCells)) (hB : b1 ≤ w.heap.size) (hn : xs.length * 32 ≤ 140737488355328) :
    Calls Try.prog 25 #[.slice A xs.length c] w (OwnPost w xs) := by
  cases A with
  | none =>
    have h0 : xs.length = 0 := by
      rcases Nat.eq_zero_or_pos xs.length with h | h
      · exact h
      · obtain ⟨b, off, e, _⟩ := hr.2 h
        cases e
    have hx : xs = [] := List.eq_nil_of_length_eq_zero h0
    subst hx
    have hnil := fun W => Lib.run_eql_slice_nil (P := Try.prog) W 22 49 none 0 c 0 0 Try.underlying22
    clear hr h0
    go_enter Try.func25, Try.ntmps25
    go_wp2_with fail
    go_ret
    exact ⟨_, rfl, own_nil _ _ _ _, Below.refl _ _⟩
  | some ad =>
    obtain ⟨i0, hi, hz0, hz1, hz2⟩ := info_parts info_srow
    have hown0 := own_empty w w.heap.size 49 4 (Nat.le_refl _)
    have hr1 := hr.alloc hB (.cells #[] 49)
    have hb0 : Below w.heap.size w (w.alloc (.cells #[] 49)) := (Below.refl _ _).alloc (Nat.le_refl _) _
    have hnil := fun W => Lib.run_eql_slice_nil (P := Try.prog) W 22 49 (some ad) xs.length c 0 0 Try.underlying22
    go_enter Try.func25, Try.ntmps25
    go_wp2_with (at_builtin; refine wpList_append_all _ rfl _ _ 22 rfl w.heap.size 49 i0 _ 4 32 Try.underlying22 hi hz0 hz1 hz2 rfl (by decide) _ 0 [] (by rfl) hown0 b1 (some ad) xs.length c (xs.flatMap rowCells) (by rfl) hr1 (rowCells_one xs) (by unfold maxLen; omega) (by omega) w hb0 (by simp) ?_; intro v1 w1 hown1 hb1 _)
    go_ret
    exact ⟨_, rfl, by simpa using hown1, hb1⟩
end Go.Proofs.Ytllbjegnjjeaeaa
