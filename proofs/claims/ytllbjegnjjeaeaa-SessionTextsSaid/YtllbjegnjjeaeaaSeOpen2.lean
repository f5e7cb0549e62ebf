/- The walk through session.open (chapter 10). -/
import Derived.Test.YtllbjegnjjeaeaaSeOpen
namespace Go.Proofs.Ytllbjegnjjeaeaa
open Go.RowKit
set_option linter.unusedVariables false

theorem flat_take {α : Type} (f : α → List Value) (size : Nat) (hf : ∀ x, (f x).length = size) (xs : List α) (i : Nat) : (xs.flatMap f).take (i * size) = (xs.take i).flatMap f := by
  induction xs generalizing i with
  | nil => simp
  | cons x xs ih =>
    cases i with
    | zero => simp
    | succ i =>
      rw [List.flatMap_cons, List.take_succ_cons, List.flatMap_cons, List.take_append, List.take_of_length_le (by rw [hf, Nat.add_mul]; omega), hf, show (i + 1) * size - size = i * size from by rw [Nat.add_mul]; omega, ih]
theorem flat_drop {α : Type} (f : α → List Value) (size : Nat) (hf : ∀ x, (f x).length = size) (xs : List α) (i : Nat) : (xs.flatMap f).drop (i * size) = (xs.drop i).flatMap f := by
  induction xs generalizing i with
  | nil => simp
  | cons x xs ih =>
    cases i with
    | zero => simp
    | succ i =>
      rw [List.flatMap_cons, List.drop_succ_cons, List.drop_append, List.drop_eq_nil_of_le (by rw [hf, Nat.add_mul]; omega), hf, show (i + 1) * size - size = i * size from by rw [Nat.add_mul]; omega, ih, List.nil_append]
theorem ins_flat (ps : List Se.Row) (t : Int) : (ps.flatMap rowCells).take (Se.lo ps t * 4) ++ ([.int .i64 t, .int .i64 0, .int .i64 t, .int .i64 t] ++ (ps.flatMap rowCells).drop (Se.lo ps t * 4)) = (Se.ins ps t).flatMap rowCells := by
  rw [flat_take rowCells 4 (fun _ => rfl), flat_drop rowCells 4 (fun _ => rfl)]
  unfold Se.ins
  rw [List.flatMap_append, List.flatMap_cons]; rfl
theorem del_flat (ps : List Se.Row) (i : Nat) : (ps.flatMap rowCells).take (i * 4) ++ (ps.flatMap rowCells).drop ((i + 1) * 4) = (ps.eraseIdx i).flatMap rowCells := by
  rw [flat_take rowCells 4 (fun _ => rfl), flat_drop rowCells 4 (fun _ => rfl), List.eraseIdx_eq_take_drop_succ, List.flatMap_append]
def OpenPost (w : World) (base : Nat) (v : Value) (qs : List Se.Row) (e : Ending) (w' : World) : Prop :=
  ∃ v', e = .returned v' ∧ w'.ownsRow base 49 4 v' qs.length (qs.flatMap rowCells) ∧ Only (fun k => v.ownBlock = some k) w w'
theorem open_small {ps : List Se.Row} {t : Int} (h : ps.length + 1 ≤ 4) : Se.openR ps t = Se.ins ps t := by unfold Se.openR; rw [if_pos (by rw [Se.ins_len]; exact h)]
theorem open_big {ps : List Se.Row} {t : Int} (h : ¬ ps.length + 1 ≤ 4) : Se.openR ps t = (Se.ins ps t).eraseIdx (Se.leastK (Se.ins ps t) (Se.ins ps t).length) := by unfold Se.openR; rw [if_neg (by rw [Se.ins_len]; exact h)]
theorem least_step (q : List Se.Row) (j : Nat) (hj : j < q.length) : Se.leastK q (j + 1) = if q[j].2.2.2 < (q[Se.leastK q j]'(by have := Se.leastK_le q j; omega)).2.2.2 then j else Se.leastK q j := by
  rw [Se.leastK, Se.getD_lt hj, Se.getD_lt (by have := Se.leastK_le q j; omega)]
theorem row_own_cells {w : World} {base g cap : Nat} {qs : List Se.Row} {n : Nat} (h : w.ownsRow base 49 4 (.slice (some ⟨g, 0, none⟩) n cap) n (qs.flatMap rowCells)) (k : Nat) (hk : k < qs.length) :
    w.cell? ⟨g, k * 4, none⟩ = some (.int .i64 qs[k].1) ∧ w.cell? ⟨g, k * 4 + 1, none⟩ = some (.int .i64 qs[k].2.1) ∧ w.cell? ⟨g, k * 4 + 2, none⟩ = some (.int .i64 qs[k].2.2.1) ∧ w.cell? ⟨g, k * 4 + 3, none⟩ = some (.int .i64 qs[k].2.2.2) :=
  ⟨own_cell h (by have := flat_at rowCells 4 (fun _ => rfl) qs k 0 hk (by omega); rw [Nat.add_zero] at this; rw [this]; rfl), own_cell h (by rw [flat_at rowCells 4 (fun _ => rfl) qs k 1 hk (by omega)]; rfl), own_cell h (by rw [flat_at rowCells 4 (fun _ => rfl) qs k 2 hk (by omega)]; rfl), own_cell h (by rw [flat_at rowCells 4 (fun _ => rfl) qs k 3 hk (by omega)]; rfl)⟩
set_option maxRecDepth 100000 in
set_option maxHeartbeats 2000000 in
theorem open_any (v : Value) (ps : List Se.Row) (t : Int) (w : World) (base : Nat) (hown : w.ownsRow base 49 4 v ps.length (ps.flatMap rowCells)) (hbase : base ≤ w.heap.size) (hm : Se.mayB ps = true) :
    Calls Try.prog 28 #[v, .int .i64 t] w (OpenPost w base v (Se.openR ps t)) := by
  have h4 := Se.may_len hm
  have hlo := Se.lo_le ps t
  have HS := Lib.hid (fun i j hij hj => Se.may_lt hm i j hij hj)
  have Hsm := Lib.hid (@open_small ps t)
  have Hbg := Lib.hid (@open_big ps t)
  have HI := Lib.hid (ins_flat ps t)
  have hil := Se.ins_len ps t
  have H1x := Lib.hid (rowCells_one ps)
  obtain ⟨A, c, rfl, hnc, _⟩ := own_slice hown
  have Hown := Lib.hid hown
  have HBs := fun W (hb : Below w.heap.size w W) => Lib.hid (bsR_any A c ps t W w.heap.size ((Reads.of_own Hown.out).below hb) hb.size (by omega) HS.out)
  have hwo : ∀ k, Value.ownBlock (.slice A ps.length c) = some k → k < w.heap.size := fun k hk => (own_lt hown hk).2
  have Hwo := Lib.hid hwo
  clear hown hwo
  generalize Se.openR ps t = res at *
  generalize Se.ins ps t = q at *
  generalize Se.lo ps t = lo at *
  go_enter Try.func28, Try.ntmps28
  go_wp2_with fail
  have hP := Blk.new w 49 #[.int .i64 t, .int .i64 0, .int .i64 t, .int .i64 t]
  have hb0 : Below w.heap.size w (w.alloc (.cells #[.int .i64 t, .int .i64 0, .int .i64 t, .int .i64 t] 49)) := (Below.refl _ _).alloc (Nat.le_refl _) _
  have HP := Lib.hid hP
  have Hb0 := Lib.hid hb0
  clear hP hb0
  generalize w.alloc (.cells #[.int .i64 t, .int .i64 0, .int .i64 t, .int .i64 t] 49) = w1 at *
  refine (HBs w1 Hb0.out).out.mono ?_
  rintro e w2 ⟨bf, rfl, hb2⟩
  have Hb2 : Hid (Below w.heap.size w w2) := Hb0.out.trans (hb2.mono Hb0.out.size)
  have hrow := Blk.below HP.out hb2 HP.out.lt
  have hr0 := hrow.cell 0
  have hr1 := hrow.cell 1
  have hr2 := hrow.cell 2
  have hr3 := hrow.cell 3
  have hs2 := Hb2.out.size
  simp only [List.getElem?_toArray, List.getElem?_cons_zero, List.getElem?_cons_succ] at hr0 hr1 hr2 hr3
  clear hb2 hrow HP Hb0 HBs
  generalize w.heap.size = h0 at hr0 hr1 hr2 hr3
  go_wp2_with fail
  have hV := Blk.new w2 49 #[.int .i64 t, .int .i64 0, .int .i64 t, .int .i64 t]
  have hb3 : Below w.heap.size w (w2.alloc (.cells #[.int .i64 t, .int .i64 0, .int .i64 t, .int .i64 t] 49)) := Hb2.out.alloc hs2 _
  have hO3 := own_only Hown.out (Only.new (fun _ => False) hb3) (fun _ _ h => h)
  have HIn := Lib.hid (insertR_any (.slice A ps.length c) ps.length lo w2.heap.size base (ps.flatMap rowCells) [.int .i64 t, .int .i64 0, .int .i64 t, .int .i64 t] _ hO3 hlo rfl H1x.out (by simp [Value.oneCell']) hV (fun e => by have := Hwo.out _ e; omega) (by simp; omega) (by omega))
  rw [HI.out] at HIn
  have Hb3 := Lib.hid hb3
  clear hV hb3 hO3 hr0 hr1 hr2 hr3
  generalize w2.alloc (.cells #[.int .i64 t, .int .i64 0, .int .i64 t, .int .i64 t] 49) = w3 at *
  refine HIn.out.mono ?_
  rintro e w4 ⟨v4, rfl, hown4, ho4, hblk4⟩
  have Ho4 : Hid (Only (fun k => Value.ownBlock (.slice A ps.length c) = some k) w w4) := (Only.new _ Hb3.out).trans ho4 (fun _ _ h => h)
  obtain ⟨A4, c4, rfl, hnc4, _⟩ := own_slice hown4
  obtain ⟨g, rfl, hg1, hg2⟩ := own_some hown4 (by omega)
  have Hblk4 : Hid (∀ k, k < w.heap.size → g = k → Value.ownBlock (.slice A ps.length c) = some k) := fun k hk e => by
    rcases hblk4 g rfl with h | h
    · rw [← e]; exact h
    · have := Hb3.out.size; omega
  have Hown4 := Lib.hid hown4
  clear hown4 ho4 hblk4 HIn Hb2 Hb3
  by_cases h3 : ps.length + 1 ≤ 4
  · have Hres : Hid (res = q) := Hsm.out h3
    have hlen : ((ps.length : Int) + 1 ≤ 4) := by omega
    clear Hsm Hbg
    go_wp2_with fail
    go_ret
    exact ⟨_, rfl, by rw [Hres.out, hil]; exact Hown4.out, Ho4.out⟩
  · have Hres := Lib.hid (Hbg.out h3)
    have hlen : ¬ ((ps.length : Int) + 1 ≤ 4) := by omega
    have HC := fun k hk => Lib.hid (row_own_cells Hown4.out k hk)
    have HLs := Lib.hid (fun j hj => least_step q j hj)
    have HLl := Lib.hid (fun j => Se.leastK_le q j)
    clear Hsm Hbg
    go_wp2_with fail
    go_loopw [8, 9, 31] (fun l _ i wr => ∃ j n m : Nat, j ≤ ps.length + 1 ∧ i = .int .i64 (j : Int) ∧ l = .int .i64 (m : Int) ∧ Hid (m = Se.leastK q j) ∧ wr = w4.drewN n) (fun _ _ i _ => ps.length + 1 - (intOf i).toNat)
    case atStart => exact ⟨0, 0, 0, Nat.zero_le _, rfl, rfl, Lib.hid rfl, rfl⟩
    case round =>
      obtain ⟨j, n, m, hj, rfl, rfl, hmk, rfl⟩ := hrel
      have hml : m ≤ j - 1 := by rw [hmk.out]; exact HLl.out j
      by_cases hlt : j < ps.length + 1
      · have hc1 := (HC j (by omega)).out.2.2.2
        have hc2 := (HC m (by omega)).out.2.2.2
        have hst := HLs.out j (by omega)
        have hst2 : Hid (Se.leastK q (j + 1) = if (q[j]'(by omega)).2.2.2 < (q[m]'(by omega)).2.2.2 then j else m) := by
          show _ = _
          rw [hst]
          have : ∀ k (hk : k < q.length), k = m → (if (q[j]'(by omega)).2.2.2 < q[k].2.2.2 then j else k) = (if (q[j]'(by omega)).2.2.2 < (q[m]'(by omega)).2.2.2 then j else m) := fun k hk e => by subst e; rfl
          exact this _ _ hmk.out.symm
        clear hst
        generalize (q[j]'(by omega)).2.2.2 = x at *
        generalize (q[m]'(by omega)).2.2.2 = y at *
        by_cases hxy : x < y
        · have hF : Hid (j = Se.leastK q (j + 1)) := by show _ = _; rw [hst2.out, if_pos hxy]
          have hd : decide (x < y) = true := decide_eq_true hxy
          clear hst2
          go_wp2_with fail
          go_quiet (fail)
          go_wp2_with fail
          go_roundw
          case rel => exact ⟨j + 1, n + nq, j, by omega, by go_num, rfl, hF, by first | rfl | rw [World.drewN_drewN]⟩
          case measure => simp [intOf]; omega
        · have hF : Hid (m = Se.leastK q (j + 1)) := by show _ = _; rw [hst2.out, if_neg hxy]
          have hd : decide (x < y) = false := decide_eq_false hxy
          clear hst2
          go_wp2_with fail
          go_quiet (fail)
          go_wp2_with fail
          go_roundw
          case rel => exact ⟨j + 1, n + nq, m, by omega, by go_num, rfl, hF, by first | rfl | rw [World.drewN_drewN]⟩
          case measure => simp [intOf]; omega
      · obtain rfl : j = ps.length + 1 := by omega
        have Hres2 : Hid (res = q.eraseIdx m) := by show _ = _; rw [Hres.out, hil, ← hmk.out]
        have HD := Lib.hid (deleteR_any g ps.length c4 m base (q.flatMap rowCells) (w4.drewN n) (own_drewN Hown4.out n) (by omega) (rowCells_one q) (by omega))
        rw [del_flat q m] at HD
        have hel : (q.eraseIdx m).length = ps.length := by rw [List.length_eraseIdx_of_lt (by omega), hil]; omega
        have Hel := Lib.hid hel
        have hw1 : IntKind.i64.wrap ((m : Int) + 1) = (m : Int) + 1 := by rw [IntKind.wrap_i64]; omega
        clear hmk HC HLs HLl hel
        go_wp2_with fail
        refine HD.out.mono ?_
        rintro e w6 ⟨v6, rfl, hown6, ho6, _⟩
        have Hown6 := Lib.hid hown6
        have Ho6 : Hid (Only (fun k => Value.ownBlock (.slice A ps.length c) = some k) w w6) := (Ho4.out.drewN n).trans ho6 (fun k hk h => Hblk4.out k hk (by simpa [Value.ownBlock] using h))
        clear hown6 ho6 HD
        go_wp2_with fail
        go_ret
        exact ⟨_, rfl, by rw [Hres2.out, Hel.out]; exact Hown6.out, Ho6.out⟩
end Go.Proofs.Ytllbjegnjjeaeaa
