/- Joined texts: SeOpen2, SeApply, WireWalks, WireGet, ReaderNum. -/
import Derived.Test.YtmnigoibbcigdaaGreatK1
import Derived.Test.YtmnigoibbcigdaaGreatK2
import Derived.Test.YtmnigoibbcigdaaGreatK5
import Derived.Test.YtmnigoibbcigdaaGreatRows
/- The walk through session.open (chapter 10). -/
namespace Go.Proofs.YtmnigoibbcigdaaGreat
open Go.RowKit
set_option linter.unusedVariables false

theorem flat_take {α : Type} (f : α → List Value) (size : Nat) (hf : ∀ x, (f x).length = size) (xs : List α) (i : Nat) : (xs.flatMap f).take (i * size) = (xs.take i).flatMap f := by
  induction xs generalizing i with
  | nil => simp
  | cons x xs ih =>
    cases i with
    | zero => simp
    | succ i =>
      rw [List.flatMap_cons, List.take_succ_cons, List.flatMap_cons, List.take_append, List.take_of_length_le (by rw [hf, Nat.add_mul]; omega), hf, show (i + 1) * size - size = i * size from by rw [Nat.add_mul]; omega, ih]
theorem flat_drop {α : Type} (f : α → List Value) (size : Nat) (hf : ∀ x, (f x).length = size) (xs : List α) (i : Nat) : (xs.flatMap f).drop (i * size) = (xs.drop i).flatMap f := by
  induction xs generalizing i with
  | nil => simp
  | cons x xs ih =>
    cases i with
    | zero => simp
    | succ i =>
      rw [List.flatMap_cons, List.drop_succ_cons, List.drop_append, List.drop_eq_nil_of_le (by rw [hf, Nat.add_mul]; omega), hf, show (i + 1) * size - size = i * size from by rw [Nat.add_mul]; omega, ih, List.nil_append]
theorem ins_flat (ps : List Se.Row) (t : Int) : (ps.flatMap rowCells).take (Se.lo ps t * 4) ++ ([.int .i64 t, .int .i64 0, .int .i64 t, .int .i64 t] ++ (ps.flatMap rowCells).drop (Se.lo ps t * 4)) = (Se.ins ps t).flatMap rowCells := by
  rw [flat_take rowCells 4 (fun _ => rfl), flat_drop rowCells 4 (fun _ => rfl)]
  unfold Se.ins
  rw [List.flatMap_append, List.flatMap_cons]; rfl
theorem del_flat (ps : List Se.Row) (i : Nat) : (ps.flatMap rowCells).take (i * 4) ++ (ps.flatMap rowCells).drop ((i + 1) * 4) = (ps.eraseIdx i).flatMap rowCells := by
  rw [flat_take rowCells 4 (fun _ => rfl), flat_drop rowCells 4 (fun _ => rfl), List.eraseIdx_eq_take_drop_succ, List.flatMap_append]
def OpenPost (w : World) (base : Nat) (v : Value) (qs : List Se.Row) (e : Ending) (w' : World) : Prop :=
  ∃ v', e = .returned v' ∧ w'.ownsRow base 96 4 v' qs.length (qs.flatMap rowCells) ∧ Only (fun k => v.ownBlock = some k) w w'
theorem open_small {ps : List Se.Row} {t : Int} (h : ps.length + 1 ≤ 4) : Se.openR ps t = Se.ins ps t := by unfold Se.openR; rw [if_pos (by rw [Se.ins_len]; exact h)]
theorem open_big {ps : List Se.Row} {t : Int} (h : ¬ ps.length + 1 ≤ 4) : Se.openR ps t = (Se.ins ps t).eraseIdx (Se.leastK (Se.ins ps t) (Se.ins ps t).length) := by unfold Se.openR; rw [if_neg (by rw [Se.ins_len]; exact h)]
theorem least_step (q : List Se.Row) (j : Nat) (hj : j < q.length) : Se.leastK q (j + 1) = if q[j].2.2.2 < (q[Se.leastK q j]'(by have := Se.leastK_le q j; omega)).2.2.2 then j else Se.leastK q j := by
  rw [Se.leastK, Se.getD_lt hj, Se.getD_lt (by have := Se.leastK_le q j; omega)]
theorem row_own_cells {w : World} {base g cap : Nat} {qs : List Se.Row} {n : Nat} (h : w.ownsRow base 96 4 (.slice (some ⟨g, 0, none⟩) n cap) n (qs.flatMap rowCells)) (k : Nat) (hk : k < qs.length) :
    w.cell? ⟨g, k * 4, none⟩ = some (.int .i64 qs[k].1) ∧ w.cell? ⟨g, k * 4 + 1, none⟩ = some (.int .i64 qs[k].2.1) ∧ w.cell? ⟨g, k * 4 + 2, none⟩ = some (.int .i64 qs[k].2.2.1) ∧ w.cell? ⟨g, k * 4 + 3, none⟩ = some (.int .i64 qs[k].2.2.2) :=
  ⟨own_cell h (by have := flat_at rowCells 4 (fun _ => rfl) qs k 0 hk (by omega); rw [Nat.add_zero] at this; rw [this]; rfl), own_cell h (by rw [flat_at rowCells 4 (fun _ => rfl) qs k 1 hk (by omega)]; rfl), own_cell h (by rw [flat_at rowCells 4 (fun _ => rfl) qs k 2 hk (by omega)]; rfl), own_cell h (by rw [flat_at rowCells 4 (fun _ => rfl) qs k 3 hk (by omega)]; rfl)⟩
set_option maxRecDepth 100000 in
set_option maxHeartbeats 2000000 in
theorem open_any (v : Value) (ps : List Se.Row) (t : Int) (w : World) (base : Nat) (hown : w.ownsRow base 96 4 v ps.length (ps.flatMap rowCells)) (hbase : base ≤ w.heap.size) (hm : Se.mayB ps = true) :
    Calls Tryz.prog 90 #[v, .int .i64 t] w (OpenPost w base v (Se.openR ps t)) := by
  have h4 := Se.may_len hm
  have hlo := Se.lo_le ps t
  have HS := Lib.hid (fun i j hij hj => Se.may_lt hm i j hij hj)
  have Hsm := Lib.hid (@open_small ps t)
  have Hbg := Lib.hid (@open_big ps t)
  have HI := Lib.hid (ins_flat ps t)
  have hil := Se.ins_len ps t
  have H1x := Lib.hid (rowCells_one ps)
  obtain ⟨A, c, rfl, hnc, _⟩ := own_slice hown
  have Hown := Lib.hid hown
  have HBs := fun W (hb : Below w.heap.size w W) => Lib.hid (bsR_any A c ps t W w.heap.size ((Reads.of_own Hown.out).below hb) hb.size (by omega) HS.out)
  have hwo : ∀ k, Value.ownBlock (.slice A ps.length c) = some k → k < w.heap.size := fun k hk => (own_lt hown hk).2
  have Hwo := Lib.hid hwo
  clear hown hwo
  generalize Se.openR ps t = res at *
  generalize Se.ins ps t = q at *
  generalize Se.lo ps t = lo at *
  go_enter Tryz.func90, Tryz.ntmps90
  go_wp2_with fail
  have hP := Blk.new w 96 #[.int .i64 t, .int .i64 0, .int .i64 t, .int .i64 t]
  have hb0 : Below w.heap.size w (w.alloc (.cells #[.int .i64 t, .int .i64 0, .int .i64 t, .int .i64 t] 96)) := (Below.refl _ _).alloc (Nat.le_refl _) _
  have HP := Lib.hid hP
  have Hb0 := Lib.hid hb0
  clear hP hb0
  generalize w.alloc (.cells #[.int .i64 t, .int .i64 0, .int .i64 t, .int .i64 t] 96) = w1 at *
  refine (HBs w1 Hb0.out).out.mono ?_
  rintro e w2 ⟨bf, rfl, hb2⟩
  have Hb2 : Hid (Below w.heap.size w w2) := Hb0.out.trans (hb2.mono Hb0.out.size)
  have hrow := Blk.below HP.out hb2 HP.out.lt
  have hr0 := hrow.cell 0
  have hr1 := hrow.cell 1
  have hr2 := hrow.cell 2
  have hr3 := hrow.cell 3
  have hs2 := Hb2.out.size
  simp only [List.getElem?_toArray, List.getElem?_cons_zero, List.getElem?_cons_succ] at hr0 hr1 hr2 hr3
  clear hb2 hrow HP Hb0 HBs
  generalize w.heap.size = h0 at hr0 hr1 hr2 hr3
  go_wp2_with fail
  have hV := Blk.new w2 96 #[.int .i64 t, .int .i64 0, .int .i64 t, .int .i64 t]
  have hb3 : Below w.heap.size w (w2.alloc (.cells #[.int .i64 t, .int .i64 0, .int .i64 t, .int .i64 t] 96)) := Hb2.out.alloc hs2 _
  have hO3 := own_only Hown.out (Only.new (fun _ => False) hb3) (fun _ _ h => h)
  have HIn := Lib.hid (insertR_any (.slice A ps.length c) ps.length lo w2.heap.size base (ps.flatMap rowCells) [.int .i64 t, .int .i64 0, .int .i64 t, .int .i64 t] _ hO3 hlo rfl H1x.out (by simp [Value.oneCell']) hV (fun e => by have := Hwo.out _ e; omega) (by simp; omega) (by omega))
  rw [HI.out] at HIn
  have Hb3 := Lib.hid hb3
  clear hV hb3 hO3 hr0 hr1 hr2 hr3
  generalize w2.alloc (.cells #[.int .i64 t, .int .i64 0, .int .i64 t, .int .i64 t] 96) = w3 at *
  refine HIn.out.mono ?_
  rintro e w4 ⟨v4, rfl, hown4, ho4, hblk4⟩
  have Ho4 : Hid (Only (fun k => Value.ownBlock (.slice A ps.length c) = some k) w w4) := (Only.new _ Hb3.out).trans ho4 (fun _ _ h => h)
  obtain ⟨A4, c4, rfl, hnc4, _⟩ := own_slice hown4
  obtain ⟨g, rfl, hg1, hg2⟩ := own_some hown4 (by omega)
  have Hblk4 : Hid (∀ k, k < w.heap.size → g = k → Value.ownBlock (.slice A ps.length c) = some k) := fun k hk e => by
    rcases hblk4 g rfl with h | h
    · rw [← e]; exact h
    · have := Hb3.out.size; omega
  have Hown4 := Lib.hid hown4
  clear hown4 ho4 hblk4 HIn Hb2 Hb3
  by_cases h3 : ps.length + 1 ≤ 4
  · have Hres : Hid (res = q) := Hsm.out h3
    have hlen : ((ps.length : Int) + 1 ≤ 4) := by omega
    clear Hsm Hbg
    go_wp2_with fail
    go_ret
    exact ⟨_, rfl, by rw [Hres.out, hil]; exact Hown4.out, Ho4.out⟩
  · have Hres := Lib.hid (Hbg.out h3)
    have hlen : ¬ ((ps.length : Int) + 1 ≤ 4) := by omega
    have HC := fun k hk => Lib.hid (row_own_cells Hown4.out k hk)
    have HLs := Lib.hid (fun j hj => least_step q j hj)
    have HLl := Lib.hid (fun j => Se.leastK_le q j)
    clear Hsm Hbg
    go_wp2_with fail
    go_loopw [8, 9, 31] (fun l _ i wr => ∃ j n m : Nat, j ≤ ps.length + 1 ∧ i = .int .i64 (j : Int) ∧ l = .int .i64 (m : Int) ∧ Hid (m = Se.leastK q j) ∧ wr = w4.drewN n) (fun _ _ i _ => ps.length + 1 - (intOf i).toNat)
    case atStart => exact ⟨0, 0, 0, Nat.zero_le _, rfl, rfl, Lib.hid rfl, rfl⟩
    case round =>
      obtain ⟨j, n, m, hj, rfl, rfl, hmk, rfl⟩ := hrel
      have hml : m ≤ j - 1 := by rw [hmk.out]; exact HLl.out j
      by_cases hlt : j < ps.length + 1
      · have hc1 := (HC j (by omega)).out.2.2.2
        have hc2 := (HC m (by omega)).out.2.2.2
        have hst := HLs.out j (by omega)
        have hst2 : Hid (Se.leastK q (j + 1) = if (q[j]'(by omega)).2.2.2 < (q[m]'(by omega)).2.2.2 then j else m) := by
          show _ = _
          rw [hst]
          have : ∀ k (hk : k < q.length), k = m → (if (q[j]'(by omega)).2.2.2 < q[k].2.2.2 then j else k) = (if (q[j]'(by omega)).2.2.2 < (q[m]'(by omega)).2.2.2 then j else m) := fun k hk e => by subst e; rfl
          exact this _ _ hmk.out.symm
        clear hst
        generalize (q[j]'(by omega)).2.2.2 = x at *
        generalize (q[m]'(by omega)).2.2.2 = y at *
        by_cases hxy : x < y
        · have hF : Hid (j = Se.leastK q (j + 1)) := by show _ = _; rw [hst2.out, if_pos hxy]
          have hd : decide (x < y) = true := decide_eq_true hxy
          clear hst2
          go_wp2_with fail
          go_quiet (fail)
          go_wp2_with fail
          go_roundw
          case rel => exact ⟨j + 1, n + nq, j, by omega, by go_num, rfl, hF, by first | rfl | rw [World.drewN_drewN]⟩
          case measure => simp [intOf]; omega
        · have hF : Hid (m = Se.leastK q (j + 1)) := by show _ = _; rw [hst2.out, if_neg hxy]
          have hd : decide (x < y) = false := decide_eq_false hxy
          clear hst2
          go_wp2_with fail
          go_quiet (fail)
          go_wp2_with fail
          go_roundw
          case rel => exact ⟨j + 1, n + nq, m, by omega, by go_num, rfl, hF, by first | rfl | rw [World.drewN_drewN]⟩
          case measure => simp [intOf]; omega
      · obtain rfl : j = ps.length + 1 := by omega
        have Hres2 : Hid (res = q.eraseIdx m) := by show _ = _; rw [Hres.out, hil, ← hmk.out]
        have HD := Lib.hid (deleteR_any g ps.length c4 m base (q.flatMap rowCells) (w4.drewN n) (own_drewN Hown4.out n) (by omega) (rowCells_one q) (by omega))
        rw [del_flat q m] at HD
        have hel : (q.eraseIdx m).length = ps.length := by rw [List.length_eraseIdx_of_lt (by omega), hil]; omega
        have Hel := Lib.hid hel
        have hw1 : IntKind.i64.wrap ((m : Int) + 1) = (m : Int) + 1 := by rw [IntKind.wrap_i64]; omega
        clear hmk HC HLs HLl hel
        go_wp2_with fail
        refine HD.out.mono ?_
        rintro e w6 ⟨v6, rfl, hown6, ho6, _⟩
        have Hown6 := Lib.hid hown6
        have Ho6 : Hid (Only (fun k => Value.ownBlock (.slice A ps.length c) = some k) w w6) := (Ho4.out.drewN n).trans ho6 (fun k hk h => Hblk4.out k hk (by simpa [Value.ownBlock] using h))
        clear hown6 ho6 HD
        go_wp2_with fail
        go_ret
        exact ⟨_, rfl, by rw [Hres2.out, Hel.out]; exact Hown6.out, Ho6.out⟩
end Go.Proofs.YtmnigoibbcigdaaGreat
/- The walk through session.Apply (chapter 10). -/
namespace Go.Proofs.YtmnigoibbcigdaaGreat
open Go.RowKit
set_option linter.unusedVariables false

/-- an entry's fields: View, Client, Session, Number, and its batch as a slice value -/
def entryCells (ev ec es en : Int) (bv : Value) : Array Value := #[.int .i64 ev, .int .i64 ec, .int .i64 es, .int .i64 en, bv]
def ApplyPost (w : World) (q : List Se.Row × Int × Bool) (e : Ending) (w' : World) : Prop :=
  ∃ v, e = .returned (.tuple #[v, .int .i64 q.2.1, .bool q.2.2]) ∧ w'.ownsRow w.heap.size 96 4 v q.1.length (q.1.flatMap rowCells) ∧ Below w.heap.size w w'
section
variable {ps : List Se.Row} {es en t : Int}
theorem ap_no (h : Se.mayB ps = false ∨ t < 1 ∨ (es = 0 ∧ Se.idx ps t < ps.length)) : Se.applyR ps es en t = (ps, -1, false) := by unfold Se.applyR; rw [if_pos h]
theorem ap_open (h : ¬ (Se.mayB ps = false ∨ t < 1 ∨ (es = 0 ∧ Se.idx ps t < ps.length))) (h0 : es = 0) : Se.applyR ps es en t = (Se.openR ps t, t, true) := by unfold Se.applyR; rw [if_neg h, if_pos h0]
theorem ap_gone (h : ¬ (Se.mayB ps = false ∨ t < 1 ∨ (es = 0 ∧ Se.idx ps t < ps.length))) (h0 : es ≠ 0) (h1 : ¬ Se.idx ps es < ps.length ∨ en < (Se.at_ ps es).2.1) : Se.applyR ps es en t = (ps, -1, false) := by unfold Se.applyR; rw [if_neg h, if_neg h0, if_pos h1]
theorem ap_again (h : ¬ (Se.mayB ps = false ∨ t < 1 ∨ (es = 0 ∧ Se.idx ps t < ps.length))) (h0 : es ≠ 0) (h1 : ¬ (¬ Se.idx ps es < ps.length ∨ en < (Se.at_ ps es).2.1)) (h2 : en = (Se.at_ ps es).2.1) : Se.applyR ps es en t = (ps, (Se.at_ ps es).2.2.1, false) := by unfold Se.applyR; rw [if_neg h, if_neg h0, if_neg h1, if_pos h2]
theorem ap_done (h : ¬ (Se.mayB ps = false ∨ t < 1 ∨ (es = 0 ∧ Se.idx ps t < ps.length))) (h0 : es ≠ 0) (h1 : ¬ (¬ Se.idx ps es < ps.length ∨ en < (Se.at_ ps es).2.1)) (h2 : en ≠ (Se.at_ ps es).2.1) : Se.applyR ps es en t = (ps.set (Se.idx ps es) (es, en, t, t), t, true) := by unfold Se.applyR; rw [if_neg h, if_neg h0, if_neg h1, if_neg h2]
end
theorem findV_lt {ps : List Se.Row} {s : Int} (h : Se.idx ps s < ps.length) : Se.findV ps s = (Se.idx ps s : Int) := by unfold Se.findV; rw [if_pos h]
theorem findV_no {ps : List Se.Row} {s : Int} (h : ¬ Se.idx ps s < ps.length) : Se.findV ps s = -1 := by unfold Se.findV; rw [if_neg h]
theorem row_set3 (ps : List Se.Row) (k : Nat) (hk : k < ps.length) (es en t : Int) (he : ps[k].1 = es) : (((ps.flatMap rowCells).set (k * 4 + 1) (.int .i64 en)).set (k * 4 + 2) (.int .i64 t)).set (k * 4 + 3) (.int .i64 t) = (ps.set k (es, en, t, t)).flatMap rowCells := by
  have l0 : k < ps.length := hk
  rw [flat_set rowCells 4 (fun _ => rfl) ps k 1 (ps[k].1, en, ps[k].2.2.1, ps[k].2.2.2) _ hk (by omega) rfl]
  have hk1 : k < (ps.set k (ps[k].1, en, ps[k].2.2.1, ps[k].2.2.2)).length := by rw [List.length_set]; exact hk
  rw [flat_set rowCells 4 (fun _ => rfl) _ k 2 (ps[k].1, en, t, ps[k].2.2.2) _ hk1 (by omega) (by rw [List.getElem_set_self]; rfl), List.set_set]
  have hk2 : k < (ps.set k (ps[k].1, en, t, ps[k].2.2.2)).length := by rw [List.length_set]; exact hk
  rw [flat_set rowCells 4 (fun _ => rfl) _ k 3 (ps[k].1, en, t, t) _ hk2 (by omega) (by rw [List.getElem_set_self]; rfl), List.set_set, he]

set_option maxRecDepth 100000 in
set_option maxHeartbeats 4000000 in
theorem apply_any (A : Option Addr) (c : Nat) (ps : List Se.Row) (ev ec es en t : Int) (Ab : Option Addr) (nb cb : Nat) (w : World) (B : Nat) (hr : Reads w B 4 A ps.length (ps.flatMap rowCells)) (hB : B ≤ w.heap.size) (hn : ps.length * 32 ≤ 140737488355328) :
    Calls Tryz.prog 66 #[.slice A ps.length c, .agg (entryCells ev ec es en (.slice Ab nb cb)), .int .i64 t] w (ApplyPost w (Se.applyR ps es en t)) := by
  have HCl := Lib.hid (cloneR_any A c ps (w.alloc (.cells (entryCells ev ec es en (.slice Ab nb cb)) 36)) B (hr.alloc hB _) (by simp; omega) hn)
  have HNo := Lib.hid (@ap_no ps es en t)
  have HOp := Lib.hid (@ap_open ps es en t)
  have HGo := Lib.hid (@ap_gone ps es en t)
  have HAg := Lib.hid (@ap_again ps es en t)
  have HDo := Lib.hid (@ap_done ps es en t)
  have hE := Blk.new w 36 (entryCells ev ec es en (.slice Ab nb cb))
  have hb1 : Below w.heap.size w (w.alloc (.cells (entryCells ev ec es en (.slice Ab nb cb)) 36)) := (Below.refl _ _).alloc (Nat.le_refl _) _
  have HE := Lib.hid hE
  have Hb1 := Lib.hid hb1
  clear hr hE hb1
  generalize Se.applyR ps es en t = res at *
  go_enter Tryz.func66, Tryz.ntmps66
  unfold entryCells at *
  go_wp2_with fail
  generalize w.alloc (.cells #[.int .i64 ev, .int .i64 ec, .int .i64 es, .int .i64 en, .slice Ab nb cb] 36) = w1 at *
  have hs1 := Hb1.out.size
  refine HCl.out.mono ?_
  rintro e w2 ⟨v2, rfl, hown2, hb2⟩
  obtain ⟨A2, c2, rfl, hnc2, hrd2⟩ := own_slice hown2
  have Hown := Lib.hid (own_down hown2 hs1)
  have Hrd := Lib.hid hrd2
  have Hb2 : Hid (Below w.heap.size w w2) := Hb1.out.trans (hb2.mono hs1)
  have hs2 := Hb2.out.size
  have HEb := Lib.hid (Blk.below HE.out hb2 HE.out.lt)
  clear hown2 hrd2 hb2 HCl HE Hb1 hs1
  go_wp2_with fail
  refine (semay_any A2 c2 ps w2 w2.heap.size Hrd.out).mono ?_
  rintro e w3 ⟨rfl, n3, rfl⟩
  have hE2 := (HEb.out.drewN n3).cell 2
  have hE3 := (HEb.out.drewN n3).cell 3
  simp only [List.getElem?_toArray, List.getElem?_cons_zero, List.getElem?_cons_succ] at hE2 hE3
  cases hm : Se.mayB ps
  · have Hres := Lib.hid (HNo.out (.inl hm))
    clear HNo HOp HGo HAg HDo hm
    go_wp2_with fail
    go_ret3
    exact ⟨_, by rw [Hres.out]; rfl, by rw [Hres.out]; exact own_drewN Hown.out n3, below_drewN Hb2.out n3⟩
  · have h4 := Se.may_len hm
    by_cases ht : t < 1
    · have Hres := Lib.hid (HNo.out (.inr (.inl ht)))
      have hd : decide (t < 1) = true := decide_eq_true ht
      clear HNo HOp HGo HAg HDo hm
      go_wp2_with fail
      go_ret3
      exact ⟨_, by rw [Hres.out]; rfl, by rw [Hres.out]; exact own_drewN Hown.out n3, below_drewN Hb2.out n3⟩
    · have hd : decide (t < 1) = false := decide_eq_false ht
      have HF := fun s W (hb : Below w2.heap.size w2 W) => Lib.hid (find_any A2 c2 ps s W w2.heap.size (Hrd.out.below hb) hb.size (by omega))
      have hb23 : Below w2.heap.size w2 (w2.drewN n3) := below_drewN (Below.refl _ _) n3
      by_cases h0 : es = 0
      · have hz : (es == 0) = true := by simp [h0]
        have HFt := HF t (w2.drewN n3) hb23
        by_cases hx : Se.idx ps t < ps.length
        · have Hres := Lib.hid (HNo.out (.inr (.inr ⟨h0, hx⟩)))
          rw [findV_lt hx] at HFt
          clear HNo HOp HGo HAg HDo hm HF hx
          generalize Se.idx ps t = ix at *
          go_wp2_with fail
          refine HFt.out.mono ?_
          rintro e w4 ⟨rfl, hb4⟩
          have Hb4 : Hid (Below w2.heap.size w2 w4) := hb23.trans hb4
          clear hb4
          go_wp2_with fail
          go_ret3
          exact ⟨_, by rw [Hres.out]; rfl, by rw [Hres.out]; exact own_only Hown.out (Only.new (fun _ => False) Hb4.out) (fun _ _ h => h), Hb2.out.trans (Hb4.out.mono hs2)⟩
        · have hnn : ¬ (Se.mayB ps = false ∨ t < 1 ∨ (es = 0 ∧ Se.idx ps t < ps.length)) := by rintro (h | h | ⟨_, h⟩); rw [hm] at h; cases h; exact ht h; exact hx h
          have Hres := Lib.hid (HOp.out hnn h0)
          rw [findV_no hx] at HFt
          have HO := fun W (hb : Below w2.heap.size w2 W) => Lib.hid (open_any (.slice A2 ps.length c2) ps t W w.heap.size (own_only Hown.out (Only.new (fun _ => False) hb) (fun _ _ h => h)) (by have := hb.size; omega) hm)
          have Hmm := Lib.hid hm
          clear HNo HOp HGo HAg HDo hm HF hx hnn
          go_wp2_with fail
          refine HFt.out.mono ?_
          rintro e w4 ⟨rfl, hb4⟩
          have Hb4 : Hid (Below w2.heap.size w2 w4) := hb23.trans hb4
          have hE2' := (Blk.below (HEb.out.drewN n3) hb4 HEb.out.lt).cell 2
          simp only [List.getElem?_toArray, List.getElem?_cons_zero, List.getElem?_cons_succ] at hE2'
          clear hb4 hE2 hE3
          go_wp2_with fail
          refine (HO w4 Hb4.out).out.mono ?_
          rintro e w5 ⟨v5, rfl, hown5, ho5⟩
          have Hown5 := Lib.hid hown5
          have Hb5 : Hid (Below w.heap.size w w5) := (Hb2.out.trans (Hb4.out.mono hs2)).trans (ho5.below (fun k hk e => by have := (own_lt Hown.out e).1; omega) (by have := Hb4.out.size; omega))
          clear hown5 ho5
          go_wp2_with fail
          go_ret3
          exact ⟨_, by rw [Hres.out]; rfl, by rw [Hres.out]; exact Hown5.out, Hb5.out⟩
      · have hz : (es == 0) = false := by simp [h0]
        have hnn : ¬ (Se.mayB ps = false ∨ t < 1 ∨ (es = 0 ∧ Se.idx ps t < ps.length)) := by rintro (h | h | ⟨h, _⟩); rw [hm] at h; cases h; exact ht h; exact h0 h
        have HFs := HF es (w2.drewN n3) hb23
        have HGo' := Lib.hid (HGo.out hnn h0)
        have HAg' := Lib.hid (HAg.out hnn h0)
        have HDo' := Lib.hid (HDo.out hnn h0)
        clear HNo HOp HGo HAg HDo hm HF hnn
        by_cases hx : Se.idx ps es < ps.length
        · rw [findV_lt hx] at HFs
          have hat := Se.at_lt hx
          have hse := Se.idx_lt hx
          obtain ⟨g, rfl, hg1, hg2⟩ := own_some Hown.out (by omega)
          generalize Se.idx ps es = ix at *
          rw [hat] at HGo' HAg' HDo'
          have Hse := Lib.hid hse
          clear hat hse
          go_wp2_with fail
          refine HFs.out.mono ?_
          rintro e w4 ⟨rfl, hb4⟩
          have Hb4 : Hid (Below w2.heap.size w2 w4) := hb23.trans hb4
          have hbl := Blk.below (HEb.out.drewN n3) hb4 HEb.out.lt
          have hF3 := hbl.cell 3
          simp only [List.getElem?_toArray, List.getElem?_cons_zero, List.getElem?_cons_succ] at hF3
          have Hown4 := Lib.hid (own_only Hown.out (Only.new (fun _ => False) Hb4.out) (fun _ _ h => h))
          obtain ⟨hc0, hc1, hc2, hc3⟩ := row_own_cells Hown4.out ix hx
          have hb04 : Hid (Below w.heap.size w w4) := Hb2.out.trans (Hb4.out.mono hs2)
          clear hb4 hE2 hE3 hbl
          have hd0 : decide ((ix : Int) < 0) = false := decide_eq_false (by omega)
          have hi1 : (ix : Int) < (ps.length : Int) := by omega
          generalize hN : ps[ix].2.1 = N at *
          generalize hR : ps[ix].2.2.1 = R at *
          clear hN hR
          by_cases h1 : en < N
          · have Hres := Lib.hid (HGo'.out (.inr h1))
            have hd1 : decide (en < N) = true := decide_eq_true h1
            clear HGo' HAg' HDo'
            go_wp2_with fail
            go_quiet (fail)
            go_wp2_with fail
            go_ret3
            exact ⟨_, by rw [Hres.out]; rfl, by rw [Hres.out]; exact own_drewN Hown4.out nq, below_drewN hb04.out nq⟩
          · have hd1 : decide (en < N) = false := decide_eq_false h1
            have hn1 : ¬ (¬ ix < ps.length ∨ en < N) := by rintro (h | h); exact h hx; exact h1 h
            by_cases h2 : en = N
            · have Hres := Lib.hid (HAg'.out hn1 h2)
              have hd2 : (en == N) = true := by simp [h2]
              clear HGo' HAg' HDo' h2
              go_wp2_with fail
              go_quiet (fail)
              go_wp2_with fail
              generalize nq = n5
              go_quiet (fail)
              go_wp2_with fail
              generalize nq = n6
              go_quiet (fail)
              go_wp2_with fail
              go_ret3
              exact ⟨_, by rw [Hres.out]; rfl, by rw [Hres.out]; exact own_drewN (own_drewN (own_drewN Hown4.out n5) n6) nq, below_drewN (below_drewN (below_drewN hb04.out n5) n6) nq⟩
            · have Hres := Lib.hid (HDo'.out hn1 h2)
              have hd2 : (en == N) = false := by simp [h2]
              have hf1 := own_frozen Hown4.out (ix * 4 + 1)
              have hf2 := own_frozen Hown4.out (ix * 4 + 2)
              have hf3 := own_frozen Hown4.out (ix * 4 + 3)
              have HS := Lib.hid (row_set3 ps ix hx es en t Hse.out)
              clear HGo' HAg' HDo' h2
              go_wp2_with fail
              go_quiet (fail)
              go_wp2_with fail
              generalize nq = n5
              go_quiet (fail)
              go_wp2_with fail
              go_ret3
              exact ⟨_, by rw [Hres.out]; rfl, by rw [Hres.out, List.length_set, ← HS.out]; exact own_set (own_set (own_set (own_drewN Hown4.out (n5 + nq)) _ _) _ _) _ _, (((below_drewN hb04.out (n5 + nq)).setCell (p := ⟨g, _, none⟩) hg1 _).setCell (p := ⟨g, _, none⟩) hg1 _).setCell (p := ⟨g, _, none⟩) hg1 _⟩
        · have Hres := Lib.hid (HGo'.out (.inl hx))
          rw [findV_no hx] at HFs
          have hd0 : decide ((-1 : Int) < 0) = true := by decide
          clear HGo' HAg' HDo' hx
          go_wp2_with fail
          refine HFs.out.mono ?_
          rintro e w4 ⟨rfl, hb4⟩
          have Hb4 : Hid (Below w2.heap.size w2 w4) := hb23.trans hb4
          have hb04 : Hid (Below w.heap.size w w4) := Hb2.out.trans (Hb4.out.mono hs2)
          clear hb4 hE2 hE3
          go_wp2_with fail
          go_quiet (fail)
          go_wp2_with fail
          go_ret3
          exact ⟨_, by rw [Hres.out]; rfl, by rw [Hres.out]; exact own_drewN (own_only Hown.out (Only.new (fun _ => False) Hb4.out) (fun _ _ h => h)) nq, below_drewN hb04.out nq⟩
end Go.Proofs.YtmnigoibbcigdaaGreat
/- The walks through package wire and its reference: PutNum, GetNum, PutText, GetText. -/
namespace Go.Proofs.YtmnigoibbcigdaaGreat
open Go.RowKit
set_option linter.unusedVariables false

theorem info_u8 : (Tryz.prog.info? 5).map (fun i => (i.zero, i.size, i.bytes)) = some (some (.int .u8 0), 1, 1) := by kernel_rfl
def byteV (c : UInt8) : Value := .int .u8 (c.toNat : Int)

theorem fits_any (x : Int) (w : World) : Calls Tryz.prog 82 #[.int .i64 x] w fun e w' => e = .returned (.bool (Wr.isNum x)) ∧ w = w' := by
  by_cases h1 : -9007199254740992 ≤ x
  · by_cases h2 : x ≤ 9007199254740992
    · go_enter Tryz.func82, Tryz.ntmps82
      go_wp2
      go_ret
      exact ⟨ret_bool ((Wr.isNum_iff x).2 ⟨h1, h2⟩).symm, rfl⟩
    · go_enter Tryz.func82, Tryz.ntmps82
      go_wp2
      go_ret
      exact ⟨ret_bool ((Wr.isNum_false x).2 (by omega)).symm, rfl⟩
  · go_enter Tryz.func82, Tryz.ntmps82
    go_wp2
    go_ret
    exact ⟨ret_bool ((Wr.isNum_false x).2 (by omega)).symm, rfl⟩
theorem number_any (x : Int) (w : World) : Calls Tryz.prog 84 #[.int .i64 x] w fun e w' => e = .returned (.bool (Wr.isNum x)) ∧ w = w' := by
  by_cases h1 : -9007199254740992 ≤ x
  · by_cases h2 : x ≤ 9007199254740992
    · go_enter Tryz.func84, Tryz.ntmps84
      go_wp2
      go_ret
      exact ⟨ret_bool ((Wr.isNum_iff x).2 ⟨h1, h2⟩).symm, rfl⟩
    · go_enter Tryz.func84, Tryz.ntmps84
      go_wp2
      go_ret
      exact ⟨ret_bool ((Wr.isNum_false x).2 (by omega)).symm, rfl⟩
  · go_enter Tryz.func84, Tryz.ntmps84
    go_wp2
    go_ret
    exact ⟨ret_bool ((Wr.isNum_false x).2 (by omega)).symm, rfl⟩
theorem fits_at (x : Int) (b : Bool) (h : Wr.isNum x = b) (w : World) : Calls Tryz.prog 82 #[.int .i64 x] w fun e w' => e = .returned (.bool b) ∧ w = w' := by subst h; exact fits_any x w
theorem number_at (x : Int) (b : Bool) (h : Wr.isNum x = b) (w : World) : Calls Tryz.prog 84 #[.int .i64 x] w fun e w' => e = .returned (.bool b) ∧ w = w' := by subst h; exact number_any x w

/-- the string of a row of bytes that the call owns -/
theorem conv_own {w : World} {base g n cap : Nat} {ys : List UInt8} (h : w.ownsRow base 5 1 (.slice (some ⟨g, 0, none⟩) n cap) n (ys.map byteV)) (hn : ys.length = n) :
    (convert 82 9 (.slice (some ⟨g, 0, none⟩) n cap)).run Tryz.prog w = .ok (.string ⟨ys.toArray⟩) w := by
  subst hn
  refine run_convert_bytes_back (P := Tryz.prog) w 82 9 5 ⟨g, 0, none⟩ cap ys Tryz.underlying82 Tryz.underlying5 Tryz.underlying9 (fun j hj => ?_)
  rw [add_mk, Nat.zero_add, h.cellAt j (by omega)]
  simp [byteV, hj]

set_option maxRecDepth 100000 in
set_option maxHeartbeats 400000 in
theorem putNum_any (x : Int) (w : World) (hx : -9223372036854775808 ≤ x ∧ x ≤ 9223372036854775807) :
    Calls Tryz.prog 43 #[.int .i64 x] w fun e w' => e = .returned (.string (Wr.putB x)) ∧ Below w.heap.size w w' := by
  obtain ⟨i0, hi, hz0, hz1, hz2⟩ := info_parts info_u8
  cases hnum : Wr.isNum x
  · have Hn := Lib.hid hnum
    clear hnum
    go_enter Tryz.func43, Tryz.ntmps43
    go_wp2_with fail
    refine (fits_at _ _ Hn.out _).mono ?_
    rintro e w' ⟨rfl, rfl⟩
    go_wp2_with fail
    go_ret
    exact ⟨ret_str (by unfold Wr.putB Wr.putL; rw [Hn.out]; rfl), Below.refl _ _⟩
  · obtain ⟨h1, h2⟩ := (Wr.isNum_iff x).1 hnum
    have Hn := Lib.hid hnum
    have hzl := Wr.zig_lt x hnum
    clear hnum
    have hzig : ∃ z : Nat, z = Wr.zig x := ⟨_, rfl⟩
    obtain ⟨z0, hz0'⟩ := hzig
    have Hz := Lib.hid hz0'
    rw [← hz0'] at hzl
    clear hz0'
    have hzx : (x < 0 → (z0 : Int) = -2 * x - 1) ∧ (¬ x < 0 → (z0 : Int) = 2 * x) := by
      rw [Hz.out]; unfold Wr.zig
      constructor
      · intro h; rw [if_pos h]; omega
      · intro h; rw [if_neg h]; omega
    have Hzx := Lib.hid hzx
    have Hput : Hid (Wr.putL x = Wr.vb 9 z0) := by show Wr.putL x = _; unfold Wr.putL; rw [if_pos Hn.out, Hz.out]
    clear hzx
    by_cases hneg : x < 0
    all_goals
      go_enter Tryz.func43, Tryz.ntmps43
      go_wp2_with fail
      refine (fits_at _ _ Hn.out _).mono ?_
      rintro e w' ⟨rfl, rfl⟩
      go_wp2_with fail
      go_loopw [3, 4] (fun u v wr => ∃ (ys : List UInt8) (z : Nat), ys.length ≤ 8 ∧ Hid (z < 128 ^ (9 - ys.length)) ∧ z ≤ 18014398509481984 ∧ u = .int .u64 (z : Int) ∧ Hid (Wr.vb 9 z0 = ys ++ Wr.vb (9 - ys.length) z) ∧ wr.ownsRow w.heap.size 5 1 v ys.length (ys.map byteV) ∧ Below w.heap.size w wr) (fun u _ _ => (intOf u).toNat)
      case atStart => exact ⟨[], z0, by simp, Lib.hid (by simp; omega), hzl, by first | rw [Hzx.out.1 hneg] | rw [Hzx.out.2 hneg], Lib.hid (by simp), own_nil _ _ _ _, Below.refl _ _⟩
      case round =>
        obtain ⟨ys, z, hyl, hzb, hzs, rfl, hvb, hown, hb⟩ := hrel
        by_cases hlt : z < 128
        · have Hvb : Hid (Wr.vb 9 z0 = ys ++ [UInt8.ofNat z]) := by show Wr.vb 9 z0 = _; rw [hvb.out, Wr.vb_small _ _ hlt]
          have hbyte : Hid (byteV (UInt8.ofNat z) = .int .u8 (z : Int)) := by show byteV _ = _; unfold byteV; rw [Wr.toNat_ofNat_small _ (by omega)]
          clear hzb hvb
          go_wp2_with (at_builtin; refine wpList_push wr rfl _ _ 82 rfl w.heap.size 5 i0 _ 1 1 Tryz.underlying82 hi hz0 hz1 hz2 rfl (by decide) _ ys.length _ (by rfl) hown [.int .u8 (z : Int)] (by rfl) rfl (by simp [Value.oneCell']) (by unfold maxLen; omega) (by omega) w hb hb.size ?_; intro v3 w3 hown3 hb3; obtain ⟨g, cap, hv3, hg3, hlt3⟩ := hown3.form (by omega); subst hv3; have hcv := conv_own (ys := ys ++ [UInt8.ofNat z]) (by rw [List.map_append, List.map_cons, List.map_nil, hbyte.out]; exact hown3) (by simp))
          go_ret
          exact ⟨ret_str (by unfold Wr.putB; rw [Hput.out, Hvb.out]), hb3⟩
        · have Hvb : Hid (Wr.vb 9 z0 = (ys ++ [UInt8.ofNat (z % 128 + 128)]) ++ Wr.vb (9 - (ys ++ [UInt8.ofNat (z % 128 + 128)]).length) (z / 128)) := by
            show Wr.vb 9 z0 = _
            rw [hvb.out, show 9 - ys.length = (8 - ys.length) + 1 from by omega, Wr.vb_more _ _ hlt]
            simp
          have hl7 : ys.length ≤ 7 := by
            rcases Nat.lt_or_ge ys.length 8 with h | h
            · omega
            · have h8 : ys.length = 8 := by omega
              have := hzb.out
              rw [h8] at this
              simp at this; omega
          have hzb' : Hid (z / 128 < 128 ^ (9 - (ys ++ [UInt8.ofNat (z % 128 + 128)]).length)) := by
            show z / 128 < _
            have := hzb.out
            rw [show 9 - ys.length = (8 - ys.length) + 1 from by omega] at this
            have := Wr.vb_next _ _ this
            rw [show 9 - (ys ++ [UInt8.ofNat (z % 128 + 128)]).length = 8 - ys.length from by simp]
            exact this
          have hbyte : Hid (byteV (UInt8.ofNat (z % 128 + 128)) = .int .u8 (bits .or .u8 ((z : Int) % 256) 128)) := by show byteV _ = _; unfold byteV; rw [Wr.toNat_ofNat_small _ (by omega), Wr.vb_byte]
          clear hzb hvb
          go_wp2_with (at_builtin; refine wpList_push wr rfl _ _ 82 rfl w.heap.size 5 i0 _ 1 1 Tryz.underlying82 hi hz0 hz1 hz2 rfl (by decide) _ ys.length _ (by rfl) hown [.int .u8 (bits .or .u8 ((z : Int) % 256) 128)] (by rfl) rfl (by simp [Value.oneCell']) (by unfold maxLen; omega) (by omega) w hb hb.size ?_; intro v3 w3 hown3 hb3)
          go_roundw
          case rel => exact ⟨ys ++ [UInt8.ofNat (z % 128 + 128)], z / 128, by simp; omega, hzb', by omega, by go_num, Hvb, by rw [List.map_append, List.map_cons, List.map_nil, hbyte.out, List.length_append]; exact hown3, hb3⟩
          case measure => simp [intOf]; omega
set_option maxRecDepth 100000 in
set_option maxHeartbeats 400000 in
theorem rnum_any (x : Int) (w : World) (hx : -9223372036854775808 ≤ x ∧ x ≤ 9223372036854775807) :
    Calls Tryz.prog 48 #[.int .i64 x] w fun e w' => e = .returned (.string (Wr.putB x)) ∧ Below w.heap.size w w' := by
  obtain ⟨i0, hi, hz0, hz1, hz2⟩ := info_parts info_u8
  cases hnum : Wr.isNum x
  · have Hn := Lib.hid hnum
    clear hnum
    go_enter Tryz.func48, Tryz.ntmps48
    go_wp2_with fail
    refine (number_at _ _ Hn.out _).mono ?_
    rintro e w' ⟨rfl, rfl⟩
    go_wp2_with fail
    go_ret
    exact ⟨ret_str (by unfold Wr.putB Wr.putL; rw [Hn.out]; rfl), Below.refl _ _⟩
  · obtain ⟨h1, h2⟩ := (Wr.isNum_iff x).1 hnum
    have Hn := Lib.hid hnum
    have hzl := Wr.zig_lt x hnum
    clear hnum
    have hzig : ∃ z : Nat, z = Wr.zig x := ⟨_, rfl⟩
    obtain ⟨z0, hz0'⟩ := hzig
    have Hz := Lib.hid hz0'
    rw [← hz0'] at hzl
    clear hz0'
    have hzx : (x < 0 → (z0 : Int) = -2 * x - 1) ∧ (¬ x < 0 → (z0 : Int) = 2 * x) := by
      rw [Hz.out]; unfold Wr.zig
      constructor
      · intro h; rw [if_pos h]; omega
      · intro h; rw [if_neg h]; omega
    have Hzx := Lib.hid hzx
    have Hput : Hid (Wr.putL x = Wr.vb 9 z0) := by show Wr.putL x = _; unfold Wr.putL; rw [if_pos Hn.out, Hz.out]
    clear hzx
    by_cases hneg : x < 0
    all_goals
      go_enter Tryz.func48, Tryz.ntmps48
      go_wp2_with fail
      refine (number_at _ _ Hn.out _).mono ?_
      rintro e w' ⟨rfl, rfl⟩
      go_wp2_with fail
      go_loopw [3, 4] (fun u v wr => ∃ (ys : List UInt8) (z : Nat), ys.length ≤ 8 ∧ Hid (z < 128 ^ (9 - ys.length)) ∧ z ≤ 18014398509481984 ∧ u = .int .i64 (z : Int) ∧ Hid (Wr.vb 9 z0 = ys ++ Wr.vb (9 - ys.length) z) ∧ wr.ownsRow w.heap.size 5 1 v ys.length (ys.map byteV) ∧ Below w.heap.size w wr) (fun u _ _ => (intOf u).toNat)
      case atStart => exact ⟨[], z0, by simp, Lib.hid (by simp; omega), hzl, by first | rw [Hzx.out.1 hneg] | rw [Hzx.out.2 hneg], Lib.hid (by simp), own_nil _ _ _ _, Below.refl _ _⟩
      case round =>
        obtain ⟨ys, z, hyl, hzb, hzs, rfl, hvb, hown, hb⟩ := hrel
        by_cases hlt : z < 128
        · have Hvb : Hid (Wr.vb 9 z0 = ys ++ [UInt8.ofNat z]) := by show Wr.vb 9 z0 = _; rw [hvb.out, Wr.vb_small _ _ hlt]
          have hbyte : Hid (byteV (UInt8.ofNat z) = .int .u8 (z : Int)) := by show byteV _ = _; unfold byteV; rw [Wr.toNat_ofNat_small _ (by omega)]
          clear hzb hvb
          go_wp2_with (at_builtin; refine wpList_push wr rfl _ _ 82 rfl w.heap.size 5 i0 _ 1 1 Tryz.underlying82 hi hz0 hz1 hz2 rfl (by decide) _ ys.length _ (by rfl) hown [.int .u8 (z : Int)] (by rfl) rfl (by simp [Value.oneCell']) (by unfold maxLen; omega) (by omega) w hb hb.size ?_; intro v3 w3 hown3 hb3; obtain ⟨g, cap, hv3, hg3, hlt3⟩ := hown3.form (by omega); subst hv3; have hcv := conv_own (ys := ys ++ [UInt8.ofNat z]) (by rw [List.map_append, List.map_cons, List.map_nil, hbyte.out]; exact hown3) (by simp))
          go_ret
          exact ⟨ret_str (by unfold Wr.putB; rw [Hput.out, Hvb.out]), hb3⟩
        · have Hvb : Hid (Wr.vb 9 z0 = (ys ++ [UInt8.ofNat (z % 128 + 128)]) ++ Wr.vb (9 - (ys ++ [UInt8.ofNat (z % 128 + 128)]).length) (z / 128)) := by
            show Wr.vb 9 z0 = _
            rw [hvb.out, show 9 - ys.length = (8 - ys.length) + 1 from by omega, Wr.vb_more _ _ hlt]
            simp
          have hl7 : ys.length ≤ 7 := by
            rcases Nat.lt_or_ge ys.length 8 with h | h
            · omega
            · have h8 : ys.length = 8 := by omega
              have := hzb.out
              rw [h8] at this
              simp at this; omega
          have hzb' : Hid (z / 128 < 128 ^ (9 - (ys ++ [UInt8.ofNat (z % 128 + 128)]).length)) := by
            show z / 128 < _
            have := hzb.out
            rw [show 9 - ys.length = (8 - ys.length) + 1 from by omega] at this
            have := Wr.vb_next _ _ this
            rw [show 9 - (ys ++ [UInt8.ofNat (z % 128 + 128)]).length = 8 - ys.length from by simp]
            exact this
          have hbyte : Hid (byteV (UInt8.ofNat (z % 128 + 128)) = .int .u8 ((z : Int) % 128 + 128)) := by show byteV _ = _; unfold byteV; rw [Wr.toNat_ofNat_small _ (by omega)]; rfl
          clear hzb hvb
          go_wp2_with (at_builtin; refine wpList_push wr rfl _ _ 82 rfl w.heap.size 5 i0 _ 1 1 Tryz.underlying82 hi hz0 hz1 hz2 rfl (by decide) _ ys.length _ (by rfl) hown [.int .u8 ((z : Int) % 128 + 128)] (by rfl) rfl (by simp [Value.oneCell']) (by unfold maxLen; omega) (by omega) w hb hb.size ?_; intro v3 w3 hown3 hb3)
          go_roundw
          case rel => exact ⟨ys ++ [UInt8.ofNat (z % 128 + 128)], z / 128, by simp; omega, hzb', by omega, by go_num, Hvb, by rw [List.map_append, List.map_cons, List.map_nil, hbyte.out, List.length_append]; exact hown3, hb3⟩
          case measure => simp [intOf]; omega
end Go.Proofs.YtmnigoibbcigdaaGreat
/- The walks through GetNum of wire and of its reference. -/
namespace Go.Proofs.YtmnigoibbcigdaaGreat
open Go.RowKit
set_option linter.unusedVariables false

def gnV (r : Int × Int × Int) : Value := .tuple #[.int .i64 r.1, .int .i64 r.2.1, .int .i64 r.2.2]

set_option maxRecDepth 100000 in
set_option maxHeartbeats 400000 in
theorem getNum_any (s : ByteArray) (at_ : Int) (w : World) (hs : s.size ≤ 9223372036854775000) (ha : -9223372036854775808 ≤ at_ ∧ at_ ≤ 9223372036854775807) :
    Calls Tryz.prog 85 #[.string s, .int .i64 at_] w fun e w' => e = .returned (gnV (Wr.getN s.data.toList at_)) ∧ w = w' := by
  have hlen : s.data.toList.length = s.size := by simp
  by_cases hout : at_ < 0 ∨ (s.size : Int) < at_
  · have Hfin : Hid (Wr.getN s.data.toList at_ = (0, 0, 200)) := by show Wr.getN _ _ = _; unfold Wr.getN; rw [hlen, if_pos hout]
    clear hlen
    by_cases h1 : at_ < 0
    · go_enter Tryz.func85, Tryz.ntmps85
      go_wp2
      go_step3
      go_wp2
      rw [Exit.noGoto_ret]
      go_ret3
      exact ⟨by rw [Hfin.out]; rfl, rfl⟩
    · have h2 : (s.size : Int) < at_ := by omega
      go_enter Tryz.func85, Tryz.ntmps85
      go_wp2
      go_step3
      go_wp2
      rw [Exit.noGoto_ret]
      go_ret3
      exact ⟨by rw [Hfin.out]; rfl, rfl⟩
  · obtain ⟨a, rfl⟩ : ∃ a : Nat, at_ = a := ⟨at_.toNat, by omega⟩
    have hle : a ≤ s.size := by omega
    have Hget : Hid (Wr.getN s.data.toList (a : Int) = match Wr.gn 8 0 0 (s.data.toList.drop a) with | .inl e => (0, 0, e) | .inr (x, k) => (x, (a : Int) + (k : Int), 0)) := by
      show Wr.getN _ _ = _
      unfold Wr.getN
      rw [hlen, if_neg hout, Int.toNat_natCast]
      rfl
    clear hlen hout ha
    go_enter Tryz.func85, Tryz.ntmps85
    go_wp2
    go_step3
    go_wp2
    go_step3
    go_wp2
    go_loop [7, 8, 9] (fun u e i => ∃ (k u0 : Nat), k ≤ 8 ∧ a + k ≤ s.size ∧ Hid (u0 < 128 ^ k) ∧ u0 ≤ 72057594037927935 ∧ u = .int .u64 (u0 : Int) ∧ e = .int .i64 ((a + k : Nat) : Int) ∧ i = .int .i64 (k : Int) ∧ Hid (Wr.gn 8 0 0 (s.data.toList.drop a) = Wr.gn (8 - k) k u0 (s.data.toList.drop (a + k)))) (fun _ _ i => 8 - (intOf i).toNat)
    case atStart => exact ⟨0, 0, by omega, by omega, Lib.hid (by simp), by omega, rfl, by simp, rfl, Lib.hid (by simp)⟩
    case round =>
      obtain ⟨k, u0, hk, hak, hu, hub, rfl, rfl, rfl, hg⟩ := hrel
      by_cases h8 : k = 8
      · subst h8
        have Hfin : Hid (Wr.getN s.data.toList (a : Int) = (0, 0, 201)) := by show Wr.getN _ _ = _; rw [Hget.out, hg.out, Wr.gn_zero]
        clear Hget hg
        go_wp2
        (try rw [Exit.noGoto_ret])
        go_ret3
        exact ⟨by rw [Hfin.out]; rfl, rfl⟩
      · have h8' : ((k : Int) == 8) = false := beq_eq_false_iff_ne.2 (by omega)
        by_cases hend : a + k = s.size
        · have Hfin : Hid (Wr.getN s.data.toList (a : Int) = (0, 0, 200)) := by show Wr.getN _ _ = _; rw [Hget.out, hg.out, hend, List.drop_eq_nil_of_le (by simp), show 8 - k = (7 - k) + 1 from by omega, Wr.gn_nil]
          have hend' : (((a + k : Nat) : Int) == (s.size : Int)) = true := beq_iff_eq.2 (by omega)
          clear Hget hg
          generalize hm : a + k = m at *
          clear hm
          go_wp2
          (try rw [Exit.noGoto_ret])
          go_ret3
          exact ⟨by rw [Hfin.out]; rfl, rfl⟩
        · have hend' : (((a + k : Nat) : Int) == (s.size : Int)) = false := beq_eq_false_iff_ne.2 (by omega)
          have hin : a + k < s.size := by omega
          have hdrop : s.data.toList.drop (a + k) = s[a + k] :: s.data.toList.drop (a + k + 1) := by
            rw [List.drop_eq_getElem_cons (by simpa using hin)]; rfl
          have hacc := Wr.gn_acc u0 k s[a + k] (by omega) hu.out
          have hlt := Wr.gn_acc_lt u0 k s[a + k] hu.out
          have hle1 := Wr.acc_le _ _ (by omega) hlt
          have Hlt := Lib.hid hlt
          have Hg := Lib.hid (hg.out.trans (by rw [hdrop, show 8 - k = (7 - k) + 1 from by omega]))
          have Hget2 := Lib.hid Hget.out
          clear hdrop hg hlt Hget
          have Hgm := Lib.hid (fun (h : 128 ≤ (s[a + k]'hin).toNat) => Hg.out.trans (Wr.gn_more (7 - k) k u0 (s[a + k]'hin) (s.data.toList.drop (a + k + 1)) h))
          have Hgl := Lib.hid (fun (h : (s[a + k]'hin).toNat = 0) (h' : 0 < k) => Hg.out.trans (Wr.gn_long (7 - k) k u0 (s[a + k]'hin) (s.data.toList.drop (a + k + 1)) h h'))
          have Hgt := Lib.hid (fun (h : (s[a + k]'hin).toNat < 128) (h' : ¬ ((s[a + k]'hin).toNat = 0 ∧ 0 < k)) => Hg.out.trans (Wr.gn_last (7 - k) k u0 (s[a + k]'hin) (s.data.toList.drop (a + k + 1)) h h'))
          clear Hg
          generalize hu1 : u0 + s[a + k].toNat % 128 * 128 ^ k = u1 at *
          generalize hm : a + k = m at *
          have Hm := Lib.hid hm
          clear hu1 hm
          have hc := s[m].toNat_lt
          by_cases hbig : 128 ≤ s[m].toNat
          · go_wp2
            go_round
            case rel => exact ⟨k + 1, u1, by omega, by have := Hm.out; omega, Hlt, hle1, rfl, by have := Hm.out; go_num, by go_num, Lib.hid (by rw [Hgm.out hbig, show a + (k + 1) = m + 1 from by have := Hm.out; omega, show 8 - (k + 1) = 7 - k from by omega])⟩
            case measure => simp [intOf]; omega
          · by_cases hz : s[m].toNat = 0 ∧ 0 < k
            · have Hfin : Hid (Wr.getN s.data.toList (a : Int) = (0, 0, 201)) := by show Wr.getN _ _ = _; rw [Hget2.out, Hgl.out hz.1 hz.2]
              obtain ⟨hz0, hz1⟩ := hz
              have hz0' : ((s[m].toNat : Int) == 0) = true := beq_iff_eq.2 (by omega)
              clear Hgm Hgl Hgt Hget2
              go_wp2
              (try rw [Exit.noGoto_ret])
              go_ret3
              exact ⟨by rw [Hfin.out]; rfl, rfl⟩
            · have Hr := Lib.hid (Hgt.out (by omega) hz)
              have Hfin : Hid (Wr.getN s.data.toList (a : Int) = if Wr.isNum (Wr.unzig u1) then (Wr.unzig u1, ((m + 1 : Nat) : Int), 0) else (0, 0, 201)) := by
                show Wr.getN _ _ = _
                rw [Hget2.out, Hr.out]
                by_cases hn : Wr.isNum (Wr.unzig u1) = true
                · rw [if_pos hn, if_pos hn]
                  show (_, (a : Int) + ((k + 1 : Nat) : Int), (0 : Int)) = _
                  rw [show (a : Int) + ((k + 1 : Nat) : Int) = ((m + 1 : Nat) : Int) from by have := Hm.out; omega]
                · rw [if_neg hn, if_neg hn]
              clear Hgm Hgl Hgt Hget2 Hr
              have hz' : ¬ ((s[m].toNat : Int) == 0) = true ∨ ¬ 0 < k := by
                by_cases h : s[m].toNat = 0
                · right; intro h'; exact hz ⟨h, h'⟩
                · left; intro h'; exact h (by have := beq_iff_eq.1 h'; omega)
              have hodd := Wr.unzig_odd u1
              have heven := Wr.unzig_even u1
              have hl1 := Wr.low1_yes u1 (by omega)
              have hl0 := Wr.low1_no u1 (by omega)
              generalize Wr.unzig u1 = x at *
              have hfz : Hid (((s[m].toNat : Int) == 0) = true → ¬ 0 < k) := by
                intro h; rcases hz' with h' | h'
                · exact absurd h h'
                · exact h'
              clear hz hz'
              by_cases hp : u1 % 2 = 1
              · have hx := Lib.hid (hodd hp)
                have hl := hl1 hp
                clear hodd heven hl1 hl0 hp
                cases hz0 : ((s[m].toNat : Int) == 0)
                · cases hnum : Wr.isNum x
                  · have Hn := Lib.hid hnum
                    have Hf2 : Hid (Wr.getN s.data.toList (a : Int) = (0, 0, 201)) := by show Wr.getN _ _ = _; rw [Hfin.out, Hn.out]; rfl
                    clear hnum Hfin
                    go_wp2_with fail
                    refine (fits_at _ false (by rw [← hx.out]; exact Hn.out) _).mono ?_
                    rintro e w' ⟨rfl, rfl⟩
                    go_wp2_with fail
                    (try rw [Exit.noGoto_ret])
                    go_ret3
                    exact ⟨by rw [Hf2.out]; rfl, rfl⟩
                  · have Hn := Lib.hid hnum
                    have Hf2 : Hid (Wr.getN s.data.toList (a : Int) = (x, ((m + 1 : Nat) : Int), 0)) := by show Wr.getN _ _ = _; rw [Hfin.out, Hn.out]; rfl
                    clear hnum Hfin
                    go_wp2_with fail
                    refine (fits_at _ true (by rw [← hx.out]; exact Hn.out) _).mono ?_
                    rintro e w' ⟨rfl, rfl⟩
                    go_wp2_with fail
                    (try rw [Exit.noGoto_ret])
                    go_ret3
                    exact ⟨by rw [Hf2.out, hx.out]; rfl, rfl⟩
                · have hk0 : ¬ 0 < k := hfz.out hz0
                  cases hnum : Wr.isNum x
                  · have Hn := Lib.hid hnum
                    have Hf2 : Hid (Wr.getN s.data.toList (a : Int) = (0, 0, 201)) := by show Wr.getN _ _ = _; rw [Hfin.out, Hn.out]; rfl
                    clear hnum Hfin
                    go_wp2_with fail
                    refine (fits_at _ false (by rw [← hx.out]; exact Hn.out) _).mono ?_
                    rintro e w' ⟨rfl, rfl⟩
                    go_wp2_with fail
                    (try rw [Exit.noGoto_ret])
                    go_ret3
                    exact ⟨by rw [Hf2.out]; rfl, rfl⟩
                  · have Hn := Lib.hid hnum
                    have Hf2 : Hid (Wr.getN s.data.toList (a : Int) = (x, ((m + 1 : Nat) : Int), 0)) := by show Wr.getN _ _ = _; rw [Hfin.out, Hn.out]; rfl
                    clear hnum Hfin
                    go_wp2_with fail
                    refine (fits_at _ true (by rw [← hx.out]; exact Hn.out) _).mono ?_
                    rintro e w' ⟨rfl, rfl⟩
                    go_wp2_with fail
                    (try rw [Exit.noGoto_ret])
                    go_ret3
                    exact ⟨by rw [Hf2.out, hx.out]; rfl, rfl⟩
              · have hx := Lib.hid (heven hp)
                have hl := hl0 hp
                clear hodd heven hl1 hl0 hp
                cases hz0 : ((s[m].toNat : Int) == 0)
                · cases hnum : Wr.isNum x
                  · have Hn := Lib.hid hnum
                    have Hf2 : Hid (Wr.getN s.data.toList (a : Int) = (0, 0, 201)) := by show Wr.getN _ _ = _; rw [Hfin.out, Hn.out]; rfl
                    clear hnum Hfin
                    go_wp2_with fail
                    refine (fits_at _ false (by rw [← hx.out]; exact Hn.out) _).mono ?_
                    rintro e w' ⟨rfl, rfl⟩
                    go_wp2_with fail
                    (try rw [Exit.noGoto_ret])
                    go_ret3
                    exact ⟨by rw [Hf2.out]; rfl, rfl⟩
                  · have Hn := Lib.hid hnum
                    have Hf2 : Hid (Wr.getN s.data.toList (a : Int) = (x, ((m + 1 : Nat) : Int), 0)) := by show Wr.getN _ _ = _; rw [Hfin.out, Hn.out]; rfl
                    clear hnum Hfin
                    go_wp2_with fail
                    refine (fits_at _ true (by rw [← hx.out]; exact Hn.out) _).mono ?_
                    rintro e w' ⟨rfl, rfl⟩
                    go_wp2_with fail
                    (try rw [Exit.noGoto_ret])
                    go_ret3
                    exact ⟨by rw [Hf2.out, hx.out]; rfl, rfl⟩
                · have hk0 : ¬ 0 < k := hfz.out hz0
                  cases hnum : Wr.isNum x
                  · have Hn := Lib.hid hnum
                    have Hf2 : Hid (Wr.getN s.data.toList (a : Int) = (0, 0, 201)) := by show Wr.getN _ _ = _; rw [Hfin.out, Hn.out]; rfl
                    clear hnum Hfin
                    go_wp2_with fail
                    refine (fits_at _ false (by rw [← hx.out]; exact Hn.out) _).mono ?_
                    rintro e w' ⟨rfl, rfl⟩
                    go_wp2_with fail
                    (try rw [Exit.noGoto_ret])
                    go_ret3
                    exact ⟨by rw [Hf2.out]; rfl, rfl⟩
                  · have Hn := Lib.hid hnum
                    have Hf2 : Hid (Wr.getN s.data.toList (a : Int) = (x, ((m + 1 : Nat) : Int), 0)) := by show Wr.getN _ _ = _; rw [Hfin.out, Hn.out]; rfl
                    clear hnum Hfin
                    go_wp2_with fail
                    refine (fits_at _ true (by rw [← hx.out]; exact Hn.out) _).mono ?_
                    rintro e w' ⟨rfl, rfl⟩
                    go_wp2_with fail
                    (try rw [Exit.noGoto_ret])
                    go_ret3
                    exact ⟨by rw [Hf2.out, hx.out]; rfl, rfl⟩

set_option maxRecDepth 100000 in
set_option maxHeartbeats 400000 in
theorem rgetNum_any (s : ByteArray) (at_ : Int) (w : World) (hs : s.size ≤ 9223372036854775000) (ha : -9223372036854775808 ≤ at_ ∧ at_ ≤ 9223372036854775807) :
    Calls Tryz.prog 60 #[.string s, .int .i64 at_] w fun e w' => e = .returned (gnV (Wr.getN s.data.toList at_)) ∧ w = w' := by
  have hlen : s.data.toList.length = s.size := by simp
  by_cases hout : at_ < 0 ∨ (s.size : Int) < at_
  · have Hfin : Hid (Wr.getN s.data.toList at_ = (0, 0, 200)) := by show Wr.getN _ _ = _; unfold Wr.getN; rw [hlen, if_pos hout]
    clear hlen
    by_cases h1 : at_ < 0
    · go_enter Tryz.func60, Tryz.ntmps60
      go_wp2
      go_ret3
      exact ⟨by rw [Hfin.out]; rfl, rfl⟩
    · have h2 : (s.size : Int) < at_ := by omega
      go_enter Tryz.func60, Tryz.ntmps60
      go_wp2
      go_ret3
      exact ⟨by rw [Hfin.out]; rfl, rfl⟩
  · obtain ⟨a, rfl⟩ : ∃ a : Nat, at_ = a := ⟨at_.toNat, by omega⟩
    have hle : a ≤ s.size := by omega
    have Hget : Hid (Wr.getN s.data.toList (a : Int) = match Wr.gn 8 0 0 (s.data.toList.drop a) with | .inl e => (0, 0, e) | .inr (x, k) => (x, (a : Int) + (k : Int), 0)) := by
      show Wr.getN _ _ = _
      unfold Wr.getN
      rw [hlen, if_neg hout, Int.toNat_natCast]
      rfl
    clear hlen hout ha
    go_enter Tryz.func60, Tryz.ntmps60
    go_wp2
    go_loop [7, 8, 9] (fun u p i => ∃ (k u0 p0 : Nat), k ≤ 8 ∧ a + k ≤ s.size ∧ Hid (u0 < 128 ^ k) ∧ Hid (p0 = 128 ^ k) ∧ p0 ≤ 72057594037927936 ∧ u0 ≤ 72057594037927935 ∧ u = .int .i64 (u0 : Int) ∧ p = .int .i64 (p0 : Int) ∧ i = .int .i64 (k : Int) ∧ Hid (Wr.gn 8 0 0 (s.data.toList.drop a) = Wr.gn (8 - k) k u0 (s.data.toList.drop (a + k)))) (fun _ _ i => 8 - (intOf i).toNat)
    case atStart => exact ⟨0, 0, 1, by omega, by omega, Lib.hid (by simp), Lib.hid (by simp), by omega, by omega, rfl, rfl, rfl, Lib.hid (by simp)⟩
    case round =>
      obtain ⟨k, u0, p0, hk, hak, hu, hp, hpb, hub, rfl, rfl, rfl, hg⟩ := hrel
      by_cases h8 : k = 8
      · subst h8
        have Hfin : Hid (Wr.getN s.data.toList (a : Int) = (0, 0, 201)) := by show Wr.getN _ _ = _; rw [Hget.out, hg.out, Wr.gn_zero]
        clear Hget hg
        go_wp2
        go_ret3
        exact ⟨by rw [Hfin.out]; rfl, rfl⟩
      · have h8' : ((k : Int) == 8) = false := beq_eq_false_iff_ne.2 (by omega)
        by_cases hend : a + k = s.size
        · have Hfin : Hid (Wr.getN s.data.toList (a : Int) = (0, 0, 200)) := by show Wr.getN _ _ = _; rw [Hget.out, hg.out, hend, List.drop_eq_nil_of_le (by simp), show 8 - k = (7 - k) + 1 from by omega, Wr.gn_nil]
          have hend2 : s.size ≤ a + k := by omega
          clear Hget hg hend
          go_wp2
          go_ret3
          exact ⟨by rw [Hfin.out]; rfl, rfl⟩
        · have hin : a + k < s.size := by omega
          have hdrop : s.data.toList.drop (a + k) = s[a + k] :: s.data.toList.drop (a + k + 1) := by
            rw [List.drop_eq_getElem_cons (by simpa using hin)]; rfl
          have hlt := Wr.gn_acc_lt u0 k s[a + k] hu.out
          have hle1 := Wr.acc_le _ _ (by omega) hlt
          have hpn := Wr.pow_le_9 (k + 1) (by omega)
          rw [Nat.pow_succ, ← hp.out] at hpn
          have Hlt := Lib.hid hlt
          have Hg := Lib.hid (hg.out.trans (by rw [hdrop, show 8 - k = (7 - k) + 1 from by omega]))
          have Hget2 := Lib.hid Hget.out
          clear hdrop hg hlt Hget
          have Hgm := Lib.hid (fun (h : 128 ≤ (s[a + k]'hin).toNat) => Hg.out.trans (Wr.gn_more (7 - k) k u0 (s[a + k]'hin) (s.data.toList.drop (a + k + 1)) h))
          have Hgl := Lib.hid (fun (h : (s[a + k]'hin).toNat = 0) (h' : 0 < k) => Hg.out.trans (Wr.gn_long (7 - k) k u0 (s[a + k]'hin) (s.data.toList.drop (a + k + 1)) h h'))
          have Hgt := Lib.hid (fun (h : (s[a + k]'hin).toNat < 128) (h' : ¬ ((s[a + k]'hin).toNat = 0 ∧ 0 < k)) => Hg.out.trans (Wr.gn_last (7 - k) k u0 (s[a + k]'hin) (s.data.toList.drop (a + k + 1)) h h'))
          clear Hg
          have hpe : u0 + s[a + k].toNat % 128 * 128 ^ k = u0 + s[a + k].toNat % 128 * p0 := by rw [hp.out]
          rw [hpe] at hle1 Hlt Hgm Hgt
          have hacc := Wr.racc u0 s[a + k].toNat p0 hle1
          generalize hu1 : u0 + s[a + k].toNat % 128 * p0 = u1 at *
          generalize hm : a + k = m at *
          have Hm := Lib.hid hm
          have Hak : (a : Int) + (k : Int) = (m : Int) := by omega
          clear hm hpe hu1
          have hc := s[m].toNat_lt
          by_cases hbig : 128 ≤ s[m].toNat
          · go_wp2
            go_round
            case rel => exact ⟨k + 1, u1, p0 * 128, by omega, by have := Hm.out; omega, Hlt, Lib.hid (by rw [hp.out, Nat.pow_succ]), by omega, hle1, by rw [hacc], by go_num, by go_num, Lib.hid (by rw [Hgm.out hbig, show a + (k + 1) = m + 1 from by have := Hm.out; omega, show 8 - (k + 1) = 7 - k from by omega])⟩
            case measure => simp [intOf]; omega
          · by_cases hz : s[m].toNat = 0 ∧ 0 < k
            · have Hfin : Hid (Wr.getN s.data.toList (a : Int) = (0, 0, 201)) := by show Wr.getN _ _ = _; rw [Hget2.out, Hgl.out hz.1 hz.2]
              obtain ⟨hz0, hz1⟩ := hz
              have hz0' : ((s[m].toNat : Int) == 0) = true := beq_iff_eq.2 (by omega)
              clear Hgm Hgl Hgt Hget2 hz0
              by_cases hp : (u1 : Int) % 2 = 1
              · have hp' : (((u1 : Int) % 2) == 1) = true := beq_iff_eq.2 hp
                clear hp
                go_wp2
                go_ret3
                exact ⟨by rw [Hfin.out]; rfl, rfl⟩
              · have hp' : (((u1 : Int) % 2) == 1) = false := beq_eq_false_iff_ne.2 hp
                clear hp
                go_wp2
                go_ret3
                exact ⟨by rw [Hfin.out]; rfl, rfl⟩
            · have Hr := Lib.hid (Hgt.out (by omega) hz)
              have Hfin : Hid (Wr.getN s.data.toList (a : Int) = if Wr.isNum (Wr.unzig u1) then (Wr.unzig u1, ((m + 1 : Nat) : Int), 0) else (0, 0, 201)) := by
                show Wr.getN _ _ = _
                rw [Hget2.out, Hr.out]
                by_cases hn : Wr.isNum (Wr.unzig u1) = true
                · rw [if_pos hn, if_pos hn]
                  show (_, (a : Int) + ((k + 1 : Nat) : Int), (0 : Int)) = _
                  rw [show (a : Int) + ((k + 1 : Nat) : Int) = ((m + 1 : Nat) : Int) from by have := Hm.out; omega]
                · rw [if_neg hn, if_neg hn]
              clear Hgm Hgl Hgt Hget2 Hr
              have hfz : Hid (((s[m].toNat : Int) == 0) = true → ¬ 0 < k) := by
                intro h h'
                exact hz ⟨by have := beq_iff_eq.1 h; omega, h'⟩
              have hodd := Wr.unzig_odd u1
              have heven := Wr.unzig_even u1
              generalize Wr.unzig u1 = x at *
              clear hz
              by_cases hpar : u1 % 2 = 1
              · have hx := Lib.hid (hodd hpar)
                have hl : (((u1 : Int) % 2) == 1) = true := beq_iff_eq.2 (by omega)
                clear hodd heven hpar
                cases hz0 : ((s[m].toNat : Int) == 0)
                · cases hnum : Wr.isNum x
                  · have Hn := Lib.hid hnum
                    have Hf2 : Hid (Wr.getN s.data.toList (a : Int) = (0, 0, 201)) := by show Wr.getN _ _ = _; rw [Hfin.out, Hn.out]; rfl
                    clear hnum Hfin
                    go_wp2_with fail
                    refine (number_at _ false (by rw [← hx.out]; exact Hn.out) _).mono ?_
                    rintro e w' ⟨rfl, rfl⟩
                    go_wp2_with fail
                    go_ret3
                    exact ⟨by rw [Hf2.out]; rfl, rfl⟩
                  · have Hn := Lib.hid hnum
                    have Hf2 : Hid (Wr.getN s.data.toList (a : Int) = (x, ((m + 1 : Nat) : Int), 0)) := by show Wr.getN _ _ = _; rw [Hfin.out, Hn.out]; rfl
                    clear hnum Hfin
                    go_wp2_with fail
                    refine (number_at _ true (by rw [← hx.out]; exact Hn.out) _).mono ?_
                    rintro e w' ⟨rfl, rfl⟩
                    go_wp2_with fail
                    go_ret3
                    exact ⟨by rw [Hf2.out, hx.out]; rfl, rfl⟩
                · have hk0 : ¬ 0 < k := hfz.out hz0
                  cases hnum : Wr.isNum x
                  · have Hn := Lib.hid hnum
                    have Hf2 : Hid (Wr.getN s.data.toList (a : Int) = (0, 0, 201)) := by show Wr.getN _ _ = _; rw [Hfin.out, Hn.out]; rfl
                    clear hnum Hfin
                    go_wp2_with fail
                    refine (number_at _ false (by rw [← hx.out]; exact Hn.out) _).mono ?_
                    rintro e w' ⟨rfl, rfl⟩
                    go_wp2_with fail
                    go_ret3
                    exact ⟨by rw [Hf2.out]; rfl, rfl⟩
                  · have Hn := Lib.hid hnum
                    have Hf2 : Hid (Wr.getN s.data.toList (a : Int) = (x, ((m + 1 : Nat) : Int), 0)) := by show Wr.getN _ _ = _; rw [Hfin.out, Hn.out]; rfl
                    clear hnum Hfin
                    go_wp2_with fail
                    refine (number_at _ true (by rw [← hx.out]; exact Hn.out) _).mono ?_
                    rintro e w' ⟨rfl, rfl⟩
                    go_wp2_with fail
                    go_ret3
                    exact ⟨by rw [Hf2.out, hx.out]; rfl, rfl⟩
              · have hx := Lib.hid (heven hpar)
                have hl : (((u1 : Int) % 2) == 1) = false := beq_eq_false_iff_ne.2 (by omega)
                clear hodd heven hpar
                cases hz0 : ((s[m].toNat : Int) == 0)
                · cases hnum : Wr.isNum x
                  · have Hn := Lib.hid hnum
                    have Hf2 : Hid (Wr.getN s.data.toList (a : Int) = (0, 0, 201)) := by show Wr.getN _ _ = _; rw [Hfin.out, Hn.out]; rfl
                    clear hnum Hfin
                    go_wp2_with fail
                    refine (number_at _ false (by rw [← hx.out]; exact Hn.out) _).mono ?_
                    rintro e w' ⟨rfl, rfl⟩
                    go_wp2_with fail
                    go_ret3
                    exact ⟨by rw [Hf2.out]; rfl, rfl⟩
                  · have Hn := Lib.hid hnum
                    have Hf2 : Hid (Wr.getN s.data.toList (a : Int) = (x, ((m + 1 : Nat) : Int), 0)) := by show Wr.getN _ _ = _; rw [Hfin.out, Hn.out]; rfl
                    clear hnum Hfin
                    go_wp2_with fail
                    refine (number_at _ true (by rw [← hx.out]; exact Hn.out) _).mono ?_
                    rintro e w' ⟨rfl, rfl⟩
                    go_wp2_with fail
                    go_ret3
                    exact ⟨by rw [Hf2.out, hx.out]; rfl, rfl⟩
                · have hk0 : ¬ 0 < k := hfz.out hz0
                  cases hnum : Wr.isNum x
                  · have Hn := Lib.hid hnum
                    have Hf2 : Hid (Wr.getN s.data.toList (a : Int) = (0, 0, 201)) := by show Wr.getN _ _ = _; rw [Hfin.out, Hn.out]; rfl
                    clear hnum Hfin
                    go_wp2_with fail
                    refine (number_at _ false (by rw [← hx.out]; exact Hn.out) _).mono ?_
                    rintro e w' ⟨rfl, rfl⟩
                    go_wp2_with fail
                    go_ret3
                    exact ⟨by rw [Hf2.out]; rfl, rfl⟩
                  · have Hn := Lib.hid hnum
                    have Hf2 : Hid (Wr.getN s.data.toList (a : Int) = (x, ((m + 1 : Nat) : Int), 0)) := by show Wr.getN _ _ = _; rw [Hfin.out, Hn.out]; rfl
                    clear hnum Hfin
                    go_wp2_with fail
                    refine (number_at _ true (by rw [← hx.out]; exact Hn.out) _).mono ?_
                    rintro e w' ⟨rfl, rfl⟩
                    go_wp2_with fail
                    go_ret3
                    exact ⟨by rw [Hf2.out, hx.out]; rfl, rfl⟩
end Go.Proofs.YtmnigoibbcigdaaGreat
/- The walk through wire.Reader's Num. -/
namespace Go.Proofs.YtmnigoibbcigdaaGreat
open Go.RowKit
set_option linter.unusedVariables false

/-- block g is a wire.Reader over s in the state r -/
def RdAt (w : World) (g : Nat) (s : ByteArray) (r : Pt.St) : Prop := Blk w g 101 #[.string s, .int .i64 r.1, .bool r.2]
section
variable {w w' : World} {g : Nat} {s : ByteArray} {r : Pt.St}
theorem RdAt.cell0 (h : RdAt w g s r) : w.cell? ⟨g, 0, none⟩ = some (.string s) := Blk.cell h 0
theorem RdAt.cell1 (h : RdAt w g s r) : w.cell? ⟨g, 1, none⟩ = some (.int .i64 r.1) := Blk.cell h 1
theorem RdAt.cell2 (h : RdAt w g s r) : w.cell? ⟨g, 2, none⟩ = some (.bool r.2) := Blk.cell h 2
theorem RdAt.frozen (h : RdAt w g s r) (i : Nat) : w.frozen? ⟨g, i, none⟩ = false := Blk.frozen h i
theorem RdAt.lt (h : RdAt w g s r) : g < w.heap.size := Blk.lt h
theorem RdAt.bad (h : RdAt w g s r) (b : Bool) : RdAt (w.setCell ⟨g, 2, none⟩ (.bool b)) g s (r.1, b) := Blk.set_ h 2 (.bool b)
theorem RdAt.at_ (h : RdAt w g s r) (a : Int) : RdAt (w.setCell ⟨g, 1, none⟩ (.int .i64 a)) g s (a, r.2) := Blk.set_ h 1 (.int .i64 a)
theorem RdAt.drewN (h : RdAt w g s r) (n : Nat) : RdAt (w.drewN n) g s r := h
theorem RdAt.only {S : Nat → Prop} (h : RdAt w g s r) (ho : Only S w w') (hg : ¬ S g) : RdAt w' g s r := Blk.only h ho hg
theorem RdAt.alloc (h : RdAt w g s r) (o : Obj) : RdAt (w.alloc o) g s r := Blk.alloc h o
theorem RdAt.new (w : World) (s : ByteArray) (a : Int) : RdAt (w.alloc (.cells #[.string s, .int .i64 a, .bool false] 101)) w.heap.size s (a, false) := Blk.new w _ _
theorem RdAt.below {B : Nat} (h : RdAt w g s r) (hb : Below B w w') (hg : g < B) : RdAt w' g s r := Blk.below h hb hg
end

def RdPost (g : Nat) (s : ByteArray) (w : World) (v : Value) (r : Pt.St) (e : Ending) (w' : World) : Prop := e = .returned v ∧ RdAt w' g s r ∧ Only (fun k => k = g) w w'

theorem rd_stop {w : World} {g : Nat} {s : ByteArray} {r : Pt.St} (h : RdAt w g s r) (n : Nat) : RdAt ((w.drewN n).setCell ⟨g, 2, none⟩ (.bool true)) g s (r.1, true) ∧ Only (fun k => k = g) w ((w.drewN n).setCell ⟨g, 2, none⟩ (.bool true)) :=
  ⟨(h.drewN n).bad true, ((Only.refl (fun k => k = g) w).drewN n).setCell (fun _ => rfl) _⟩
theorem rd_go {w : World} {g : Nat} {s : ByteArray} {r : Pt.St} (h : RdAt w g s r) (n : Nat) (a : Int) : RdAt ((w.drewN n).setCell ⟨g, 1, none⟩ (.int .i64 a)) g s (a, r.2) ∧ Only (fun k => k = g) w ((w.drewN n).setCell ⟨g, 1, none⟩ (.int .i64 a)) :=
  ⟨(h.drewN n).at_ a, ((Only.refl (fun k => k = g) w).drewN n).setCell (fun _ => rfl) _⟩

set_option maxRecDepth 100000 in
set_option maxHeartbeats 800000 in
theorem readerNum_any (s : ByteArray) (a : Int) (bad : Bool) (lo hi : Int) (w : World) (g : Nat) (hR : RdAt w g s (a, bad)) (hs : s.size ≤ 9223372036854775000) (ha : -9223372036854775808 ≤ a ∧ a ≤ 9223372036854775807) :
    Calls Tryz.prog 55 #[.pointer (some ⟨g, 0, none⟩), .int .i64 lo, .int .i64 hi] w (RdPost g s w (.int .i64 (Pt.rdNum s lo hi (a, bad)).1) (Pt.rdNum s lo hi (a, bad)).2) := by
  have H1 := fun W => Lib.hid (getNum_any s a W hs ha)
  have hc0 := hR.cell0
  have hc1 := hR.cell1
  have hc2 := hR.cell2
  have hf1 := hR.frozen 1
  have hf2 := hR.frozen 2
  have HR := Lib.hid hR
  clear hR hs ha
  have hdef : Pt.rdNum s lo hi (a, bad) = if (Wr.getN s.data.toList a).2.2 ≠ 0 ∨ (Wr.getN s.data.toList a).1 < lo ∨ hi < (Wr.getN s.data.toList a).1 ∨ bad = true then (0, (a, true)) else ((Wr.getN s.data.toList a).1, ((Wr.getN s.data.toList a).2.1, false)) := rfl
  generalize Pt.rdNum s lo hi (a, bad) = res at *
  generalize Wr.getN s.data.toList a = r at *
  obtain ⟨x, m, e0⟩ := r
  simp only at hdef hc1 hc2
  simp only [gnV] at H1
  by_cases h0 : e0 = 0
  · by_cases h1 : x < lo
    · have Hres : Hid (res = (0, (a, true))) := by rw [if_pos (.inr (.inl h1))] at hdef; exact hdef
      have hz : (e0 != 0) = false := by simp [h0]
      clear hdef h0
      go_enter Tryz.func55, Tryz.ntmps55
      go_wp2_with fail
      go_quiet ((go_at_call 85; exact quiet_left (Hid.out (H1 _))))
      go_wp2_with fail
      go_ret
      exact ⟨by rw [Hres.out]; rfl, by rw [Hres.out]; exact (rd_stop HR.out nq).1, (rd_stop HR.out nq).2⟩
    · by_cases h2 : hi < x
      · have Hres : Hid (res = (0, (a, true))) := by rw [if_pos (.inr (.inr (.inl h2)))] at hdef; exact hdef
        have hz : (e0 != 0) = false := by simp [h0]
        clear hdef h0
        go_enter Tryz.func55, Tryz.ntmps55
        go_wp2_with fail
        go_quiet ((go_at_call 85; exact quiet_left (Hid.out (H1 _))))
        go_wp2_with fail
        go_ret
        exact ⟨by rw [Hres.out]; rfl, by rw [Hres.out]; exact (rd_stop HR.out nq).1, (rd_stop HR.out nq).2⟩
      · cases bad
        · have Hres : Hid (res = (x, (m, false))) := by rw [if_neg (by simp [h0, h1, h2])] at hdef; exact hdef
          have hz : (e0 != 0) = false := by simp [h0]
          clear hdef h0
          go_enter Tryz.func55, Tryz.ntmps55
          go_wp2_with fail
          go_quiet ((go_at_call 85; exact quiet_left (Hid.out (H1 _))))
          go_wp2_with fail
          go_ret
          exact ⟨by rw [Hres.out]; rfl, by rw [Hres.out]; exact (rd_go HR.out nq m).1, (rd_go HR.out nq m).2⟩
        · have Hres : Hid (res = (0, (a, true))) := by rw [if_pos (.inr (.inr (.inr rfl)))] at hdef; exact hdef
          have hz : (e0 != 0) = false := by simp [h0]
          clear hdef h0
          go_enter Tryz.func55, Tryz.ntmps55
          go_wp2_with fail
          go_quiet ((go_at_call 85; exact quiet_left (Hid.out (H1 _))))
          go_wp2_with fail
          go_ret
          exact ⟨by rw [Hres.out]; rfl, by rw [Hres.out]; exact (rd_stop HR.out nq).1, (rd_stop HR.out nq).2⟩
  · have Hres : Hid (res = (0, (a, true))) := by rw [if_pos (.inl h0)] at hdef; exact hdef
    have hz : (e0 != 0) = true := by simp [h0]
    clear hdef h0
    go_enter Tryz.func55, Tryz.ntmps55
    go_wp2_with fail
    go_quiet ((go_at_call 85; exact quiet_left (Hid.out (H1 _))))
    go_wp2_with fail
    go_ret
    exact ⟨by rw [Hres.out]; rfl, by rw [Hres.out]; exact (rd_stop HR.out nq).1, (rd_stop HR.out nq).2⟩

end Go.Proofs.YtmnigoibbcigdaaGreat
