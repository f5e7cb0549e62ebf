/- The walk through session.Apply (chapter 10). -/
import Derived.Test.YtllbjegnjjeaeaaSeOpen2
import Derived.Test.YtllbjegnjjeaeaaOwnDown
namespace Go.Proofs.Ytllbjegnjjeaeaa
open Go.RowKit
set_option linter.unusedVariables false

/-- an entry's fields: View, Client, Session, Number, and its batch as a slice value -/
def entryCells (ev ec es en : Int) (bv : Value) : Array Value := #[.int .i64 ev, .int .i64 ec, .int .i64 es, .int .i64 en, bv]
def ApplyPost (w : World) (q : List Se.Row × Int × Bool) (e : Ending) (w' : World) : Prop :=
  ∃ v, e = .returned (.tuple #[v, .int .i64 q.2.1, .bool q.2.2]) ∧ w'.ownsRow w.heap.size 49 4 v q.1.length (q.1.flatMap rowCells) ∧ Below w.heap.size w w'
section
variable {ps : List Se.Row} {es en t : Int}
theorem ap_no (h : Se.mayB ps = false ∨ t < 1 ∨ (es = 0 ∧ Se.idx ps t < ps.length)) : Se.applyR ps es en t = (ps, -1, false) := by unfold Se.applyR; rw [if_pos h]
theorem ap_open (h : ¬ (Se.mayB ps = false ∨ t < 1 ∨ (es = 0 ∧ Se.idx ps t < ps.length))) (h0 : es = 0) : Se.applyR ps es en t = (Se.openR ps t, t, true) := by unfold Se.applyR; rw [if_neg h, if_pos h0]
theorem ap_gone (h : ¬ (Se.mayB ps = false ∨ t < 1 ∨ (es = 0 ∧ Se.idx ps t < ps.length))) (h0 : es ≠ 0) (h1 : ¬ Se.idx ps es < ps.length ∨ en < (Se.at_ ps es).2.1) : Se.applyR ps es en t = (ps, -1, false) := by unfold Se.applyR; rw [if_neg h, if_neg h0, if_pos h1]
theorem ap_again (h : ¬ (Se.mayB ps = false ∨ t < 1 ∨ (es = 0 ∧ Se.idx ps t < ps.length))) (h0 : es ≠ 0) (h1 : ¬ (¬ Se.idx ps es < ps.length ∨ en < (Se.at_ ps es).2.1)) (h2 : en = (Se.at_ ps es).2.1) : Se.applyR ps es en t = (ps, (Se.at_ ps es).2.2.1, false) := by unfold Se.applyR; rw [if_neg h, if_neg h0, if_neg h1, if_pos h2]
theorem ap_done (h : ¬ (Se.mayB ps = false ∨ t < 1 ∨ (es = 0 ∧ Se.idx ps t < ps.length))) (h0 : es ≠ 0) (h1 : ¬ (¬ Se.idx ps es < ps.length ∨ en < (Se.at_ ps es).2.1)) (h2 : en ≠ (Se.at_ ps es).2.1) : Se.applyR ps es en t = (ps.set (Se.idx ps es) (es, en, t, t), t, true) := by unfold Se.applyR; rw [if_neg h, if_neg h0, if_neg h1, if_neg h2]
end
theorem findV_lt {ps : List Se.Row} {s : Int} (h : Se.idx ps s < ps.length) : Se.findV ps s = (Se.idx ps s : Int) := by unfold Se.findV; rw [if_pos h]
theorem findV_no {ps : List Se.Row} {s : Int} (h : ¬ Se.idx ps s < ps.length) : Se.findV ps s = -1 := by unfold Se.findV; rw [if_neg h]
theorem row_set3 (ps : List Se.Row) (k : Nat) (hk : k < ps.length) (es en t : Int) (he : ps[k].1 = es) : (((ps.flatMap rowCells).set (k * 4 + 1) (.int .i64 en)).set (k * 4 + 2) (.int .i64 t)).set (k * 4 + 3) (.int .i64 t) = (ps.set k (es, en, t, t)).flatMap rowCells := by
  have l0 : k < ps.length := hk
  rw [flat_set rowCells 4 (fun _ => rfl) ps k 1 (ps[k].1, en, ps[k].2.2.1, ps[k].2.2.2) _ hk (by omega) rfl]
  have hk1 : k < (ps.set k (ps[k].1, en, ps[k].2.2.1, ps[k].2.2.2)).length := by rw [List.length_set]; exact hk
  rw [flat_set rowCells 4 (fun _ => rfl) _ k 2 (ps[k].1, en, t, ps[k].2.2.2) _ hk1 (by omega) (by rw [List.getElem_set_self]; rfl), List.set_set]
  have hk2 : k < (ps.set k (ps[k].1, en, t, ps[k].2.2.2)).length := by rw [List.length_set]; exact hk
  rw [flat_set rowCells 4 (fun _ => rfl) _ k 3 (ps[k].1, en, t, t) _ hk2 (by omega) (by rw [List.getElem_set_self]; rfl), List.set_set, he]

set_option maxRecDepth 100000 in
set_option maxHeartbeats 4000000 in
theorem apply_any (A : Option Addr) (c : Nat) (ps : List Se.Row) (ev ec es en t : Int) (Ab : Option Addr) (nb cb : Nat) (w : World) (B : Nat) (hr : Reads w B 4 A ps.length (ps.flatMap rowCells)) (hB : B ≤ w.heap.size) (hn : ps.length * 32 ≤ 140737488355328) :
    Calls Try.prog 11 #[.slice A ps.length c, .agg (entryCells ev ec es en (.slice Ab nb cb)), .int .i64 t] w (ApplyPost w (Se.applyR ps es en t)) := by
  have HCl := Lib.hid (cloneR_any A c ps (w.alloc (.cells (entryCells ev ec es en (.slice Ab nb cb)) 25)) B (hr.alloc hB _) (by simp; omega) hn)
  have HNo := Lib.hid (@ap_no ps es en t)
  have HOp := Lib.hid (@ap_open ps es en t)
  have HGo := Lib.hid (@ap_gone ps es en t)
  have HAg := Lib.hid (@ap_again ps es en t)
  have HDo := Lib.hid (@ap_done ps es en t)
  have hE := Blk.new w 25 (entryCells ev ec es en (.slice Ab nb cb))
  have hb1 : Below w.heap.size w (w.alloc (.cells (entryCells ev ec es en (.slice Ab nb cb)) 25)) := (Below.refl _ _).alloc (Nat.le_refl _) _
  have HE := Lib.hid hE
  have Hb1 := Lib.hid hb1
  clear hr hE hb1
  generalize Se.applyR ps es en t = res at *
  go_enter Try.func11, Try.ntmps11
  unfold entryCells at *
  go_wp2_with fail
  generalize w.alloc (.cells #[.int .i64 ev, .int .i64 ec, .int .i64 es, .int .i64 en, .slice Ab nb cb] 25) = w1 at *
  have hs1 := Hb1.out.size
  refine HCl.out.mono ?_
  rintro e w2 ⟨v2, rfl, hown2, hb2⟩
  obtain ⟨A2, c2, rfl, hnc2, hrd2⟩ := own_slice hown2
  have Hown := Lib.hid (own_down hown2 hs1)
  have Hrd := Lib.hid hrd2
  have Hb2 : Hid (Below w.heap.size w w2) := Hb1.out.trans (hb2.mono hs1)
  have hs2 := Hb2.out.size
  have HEb := Lib.hid (Blk.below HE.out hb2 HE.out.lt)
  clear hown2 hrd2 hb2 HCl HE Hb1 hs1
  go_wp2_with fail
  refine (semay_any A2 c2 ps w2 w2.heap.size Hrd.out).mono ?_
  rintro e w3 ⟨rfl, n3, rfl⟩
  have hE2 := (HEb.out.drewN n3).cell 2
  have hE3 := (HEb.out.drewN n3).cell 3
  simp only [List.getElem?_toArray, List.getElem?_cons_zero, List.getElem?_cons_succ] at hE2 hE3
  cases hm : Se.mayB ps
  · have Hres := Lib.hid (HNo.out (.inl hm))
    clear HNo HOp HGo HAg HDo hm
    go_wp2_with fail
    go_ret3
    exact ⟨_, by rw [Hres.out]; rfl, by rw [Hres.out]; exact own_drewN Hown.out n3, below_drewN Hb2.out n3⟩
  · have h4 := Se.may_len hm
    by_cases ht : t < 1
    · have Hres := Lib.hid (HNo.out (.inr (.inl ht)))
      have hd : decide (t < 1) = true := decide_eq_true ht
      clear HNo HOp HGo HAg HDo hm
      go_wp2_with fail
      go_ret3
      exact ⟨_, by rw [Hres.out]; rfl, by rw [Hres.out]; exact own_drewN Hown.out n3, below_drewN Hb2.out n3⟩
    · have hd : decide (t < 1) = false := decide_eq_false ht
      have HF := fun s W (hb : Below w2.heap.size w2 W) => Lib.hid (find_any A2 c2 ps s W w2.heap.size (Hrd.out.below hb) hb.size (by omega))
      have hb23 : Below w2.heap.size w2 (w2.drewN n3) := below_drewN (Below.refl _ _) n3
      by_cases h0 : es = 0
      · have hz : (es == 0) = true := by simp [h0]
        have HFt := HF t (w2.drewN n3) hb23
        by_cases hx : Se.idx ps t < ps.length
        · have Hres := Lib.hid (HNo.out (.inr (.inr ⟨h0, hx⟩)))
          rw [findV_lt hx] at HFt
          clear HNo HOp HGo HAg HDo hm HF hx
          generalize Se.idx ps t = ix at *
          go_wp2_with fail
          refine HFt.out.mono ?_
          rintro e w4 ⟨rfl, hb4⟩
          have Hb4 : Hid (Below w2.heap.size w2 w4) := hb23.trans hb4
          clear hb4
          go_wp2_with fail
          go_ret3
          exact ⟨_, by rw [Hres.out]; rfl, by rw [Hres.out]; exact own_only Hown.out (Only.new (fun _ => False) Hb4.out) (fun _ _ h => h), Hb2.out.trans (Hb4.out.mono hs2)⟩
        · have hnn : ¬ (Se.mayB ps = false ∨ t < 1 ∨ (es = 0 ∧ Se.idx ps t < ps.length)) := by rintro (h | h | ⟨_, h⟩); rw [hm] at h; cases h; exact ht h; exact hx h
          have Hres := Lib.hid (HOp.out hnn h0)
          rw [findV_no hx] at HFt
          have HO := fun W (hb : Below w2.heap.size w2 W) => Lib.hid (open_any (.slice A2 ps.length c2) ps t W w.heap.size (own_only Hown.out (Only.new (fun _ => False) hb) (fun _ _ h => h)) (by have := hb.size; omega) hm)
          have Hmm := Lib.hid hm
          clear HNo HOp HGo HAg HDo hm HF hx hnn
          go_wp2_with fail
          refine HFt.out.mono ?_
          rintro e w4 ⟨rfl, hb4⟩
          have Hb4 : Hid (Below w2.heap.size w2 w4) := hb23.trans hb4
          have hE2' := (Blk.below (HEb.out.drewN n3) hb4 HEb.out.lt).cell 2
          simp only [List.getElem?_toArray, List.getElem?_cons_zero, List.getElem?_cons_succ] at hE2'
          clear hb4 hE2 hE3
          go_wp2_with fail
          refine (HO w4 Hb4.out).out.mono ?_
          rintro e w5 ⟨v5, rfl, hown5, ho5⟩
          have Hown5 := Lib.hid hown5
          have Hb5 : Hid (Below w.heap.size w w5) := (Hb2.out.trans (Hb4.out.mono hs2)).trans (ho5.below (fun k hk e => by have := (own_lt Hown.out e).1; omega) (by have := Hb4.out.size; omega))
          clear hown5 ho5
          go_wp2_with fail
          go_ret3
          exact ⟨_, by rw [Hres.out]; rfl, by rw [Hres.out]; exact Hown5.out, Hb5.out⟩
      · have hz : (es == 0) = false := by simp [h0]
        have hnn : ¬ (Se.mayB ps = false ∨ t < 1 ∨ (es = 0 ∧ Se.idx ps t < ps.length)) := by rintro (h | h | ⟨h, _⟩); rw [hm] at h; cases h; exact ht h; exact h0 h
        have HFs := HF es (w2.drewN n3) hb23
        have HGo' := Lib.hid (HGo.out hnn h0)
        have HAg' := Lib.hid (HAg.out hnn h0)
        have HDo' := Lib.hid (HDo.out hnn h0)
        clear HNo HOp HGo HAg HDo hm HF hnn
        by_cases hx : Se.idx ps es < ps.length
        · rw [findV_lt hx] at HFs
          have hat := Se.at_lt hx
          have hse := Se.idx_lt hx
          obtain ⟨g, rfl, hg1, hg2⟩ := own_some Hown.out (by omega)
          generalize Se.idx ps es = ix at *
          rw [hat] at HGo' HAg' HDo'
          have Hse := Lib.hid hse
          clear hat hse
          go_wp2_with fail
          refine HFs.out.mono ?_
          rintro e w4 ⟨rfl, hb4⟩
          have Hb4 : Hid (Below w2.heap.size w2 w4) := hb23.trans hb4
          have hbl := Blk.below (HEb.out.drewN n3) hb4 HEb.out.lt
          have hF3 := hbl.cell 3
          simp only [List.getElem?_toArray, List.getElem?_cons_zero, List.getElem?_cons_succ] at hF3
          have Hown4 := Lib.hid (own_only Hown.out (Only.new (fun _ => False) Hb4.out) (fun _ _ h => h))
          obtain ⟨hc0, hc1, hc2, hc3⟩ := row_own_cells Hown4.out ix hx
          have hb04 : Hid (Below w.heap.size w w4) := Hb2.out.trans (Hb4.out.mono hs2)
          clear hb4 hE2 hE3 hbl
          have hd0 : decide ((ix : Int) < 0) = false := decide_eq_false (by omega)
          have hi1 : (ix : Int) < (ps.length : Int) := by omega
          generalize hN : ps[ix].2.1 = N at *
          generalize hR : ps[ix].2.2.1 = R at *
          clear hN hR
          by_cases h1 : en < N
          · have Hres := Lib.hid (HGo'.out (.inr h1))
            have hd1 : decide (en < N) = true := decide_eq_true h1
            clear HGo' HAg' HDo'
            go_wp2_with fail
            go_quiet (fail)
            go_wp2_with fail
            go_ret3
            exact ⟨_, by rw [Hres.out]; rfl, by rw [Hres.out]; exact own_drewN Hown4.out nq, below_drewN hb04.out nq⟩
          · have hd1 : decide (en < N) = false := decide_eq_false h1
            have hn1 : ¬ (¬ ix < ps.length ∨ en < N) := by rintro (h | h); exact h hx; exact h1 h
            by_cases h2 : en = N
            · have Hres := Lib.hid (HAg'.out hn1 h2)
              have hd2 : (en == N) = true := by simp [h2]
              clear HGo' HAg' HDo' h2
              go_wp2_with fail
              go_quiet (fail)
              go_wp2_with fail
              generalize nq = n5
              go_quiet (fail)
              go_wp2_with fail
              generalize nq = n6
              go_quiet (fail)
              go_wp2_with fail
              go_ret3
              exact ⟨_, by rw [Hres.out]; rfl, by rw [Hres.out]; exact own_drewN (own_drewN (own_drewN Hown4.out n5) n6) nq, below_drewN (below_drewN (below_drewN hb04.out n5) n6) nq⟩
            · have Hres := Lib.hid (HDo'.out hn1 h2)
              have hd2 : (en == N) = false := by simp [h2]
              have hf1 := own_frozen Hown4.out (ix * 4 + 1)
              have hf2 := own_frozen Hown4.out (ix * 4 + 2)
              have hf3 := own_frozen Hown4.out (ix * 4 + 3)
              have HS := Lib.hid (row_set3 ps ix hx es en t Hse.out)
              clear HGo' HAg' HDo' h2
              go_wp2_with fail
              go_quiet (fail)
              go_wp2_with fail
              generalize nq = n5
              go_quiet (fail)
              go_wp2_with fail
              go_ret3
              exact ⟨_, by rw [Hres.out]; rfl, by rw [Hres.out, List.length_set, ← HS.out]; exact own_set (own_set (own_set (own_drewN Hown4.out (n5 + nq)) _ _) _ _) _ _, (((below_drewN hb04.out (n5 + nq)).setCell (p := ⟨g, _, none⟩) hg1 _).setCell (p := ⟨g, _, none⟩) hg1 _).setCell (p := ⟨g, _, none⟩) hg1 _⟩
        · have Hres := Lib.hid (HGo'.out (.inl hx))
          rw [findV_no hx] at HFs
          have hd0 : decide ((-1 : Int) < 0) = true := by decide
          clear HGo' HAg' HDo' hx
          go_wp2_with fail
          refine HFs.out.mono ?_
          rintro e w4 ⟨rfl, hb4⟩
          have Hb4 : Hid (Below w2.heap.size w2 w4) := hb23.trans hb4
          have hb04 : Hid (Below w.heap.size w w4) := Hb2.out.trans (Hb4.out.mono hs2)
          clear hb4 hE2 hE3
          go_wp2_with fail
          go_quiet (fail)
          go_wp2_with fail
          go_ret3
          exact ⟨_, by rw [Hres.out]; rfl, by rw [Hres.out]; exact own_drewN (own_only Hown.out (Only.new (fun _ => False) Hb4.out) (fun _ _ h => h)) nq, below_drewN hb04.out nq⟩
end Go.Proofs.Ytllbjegnjjeaeaa
