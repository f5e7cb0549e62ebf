/- The walk through the reference's Apply (chapter 10). -/
import Derived.Test.YtllbjegnjjeaeaaSeRopen
import Derived.Deep.RegionHeld3
namespace Go.Proofs.Ytllbjegnjjeaeaa
open Go.RowKit Go.Shelf
set_option linter.unusedVariables false

theorem flat_set4 (ps : List Se.Row) (k : Nat) (hk : k < ps.length) (r : Se.Row) : setL (ps.flatMap rowCells) (k * 4) (rowCells r) = (ps.set k r).flatMap rowCells := by
  have hl : (ps.flatMap rowCells).length = ps.length * 4 := flat_length rowCells 4 (fun _ => rfl) ps
  rw [setL_eq _ _ _ (by rw [hl]; show k * 4 + 4 ≤ _; omega), show k * 4 + (rowCells r).length = (k + 1) * 4 from by show k * 4 + 4 = _; omega, flat_take rowCells 4 (fun _ => rfl), flat_drop rowCells 4 (fun _ => rfl), List.set_eq_take_append_cons_drop, if_pos hk, List.flatMap_append, List.flatMap_cons, List.append_assoc]
set_option maxRecDepth 100000 in
set_option maxHeartbeats 4000000 in
theorem rapply_any (A : Option Addr) (c : Nat) (ps : List Se.Row) (ev ec es en t : Int) (Ab : Option Addr) (nb cb : Nat) (w : World) (B : Nat) (hr : Reads w B 4 A ps.length (ps.flatMap rowCells)) (hB : B ≤ w.heap.size) (hn : ps.length * 32 ≤ 140737488355328) :
    Calls Try.prog 12 #[.slice A ps.length c, .agg (entryCells ev ec es en (.slice Ab nb cb)), .int .i64 t] w (ApplyPost w (Se.applyR ps es en t)) := by
  have HNo := Lib.hid (@ap_no ps es en t)
  have HOp := Lib.hid (@ap_open ps es en t)
  have HGo := Lib.hid (@ap_gone ps es en t)
  have HAg := Lib.hid (@ap_again ps es en t)
  have HDo := Lib.hid (@ap_done ps es en t)
  have hE := Blk.new w 25 (entryCells ev ec es en (.slice Ab nb cb))
  have hb1 : Below w.heap.size w (w.alloc (.cells (entryCells ev ec es en (.slice Ab nb cb)) 25)) := (Below.refl _ _).alloc (Nat.le_refl _) _
  have HE := Lib.hid hE
  have Hb1 := Lib.hid hb1
  have Hrd0 := Lib.hid hr
  have HCo := fun W (hb : Below w.heap.size w W) => Lib.hid (rcopied_any A c ps W B (Hrd0.out.keep (fun p hp => hb.cell (by omega))) (by have := hb.size; omega) hn)
  have HAt := fun s W (hb : Below w.heap.size w W) => Lib.hid (rat_any A c ps s W B (Hrd0.out.keep (fun p hp => hb.cell (by omega))) (by omega))
  have HTb := fun W (hb : Below w.heap.size w W) => Lib.hid (rtable_any A c ps W B (Hrd0.out.keep (fun p hp => hb.cell (by omega))) (by omega))
  clear hr hE hb1
  generalize Se.applyR ps es en t = res at *
  go_enter Try.func12, Try.ntmps12
  unfold entryCells at *
  go_wp2_with fail
  generalize w.alloc (.cells #[.int .i64 ev, .int .i64 ec, .int .i64 es, .int .i64 en, .slice Ab nb cb] 25) = w1 at *
  have hs1 := Hb1.out.size
  refine (HTb w1 Hb1.out).out.mono ?_
  rintro e w2' ⟨rfl, n2, rfl⟩
  have Hb2 : Hid (Below w.heap.size w (w1.drewN n2)) := below_drewN Hb1.out n2
  have hE2 := (HE.out.drewN n2).cell 2
  have hE3 := (HE.out.drewN n2).cell 3
  simp only [List.getElem?_toArray, List.getElem?_cons_zero, List.getElem?_cons_succ] at hE2 hE3
  have Hbk : Hid (Blk (w1.drewN n2) w.heap.size 25 #[.int .i64 ev, .int .i64 ec, .int .i64 es, .int .i64 en, .slice Ab nb cb]) := HE.out.drewN n2
  clear HE HTb Hb1
  have hs2 : w.heap.size ≤ (w1.drewN n2).heap.size := hs1
  generalize w1.drewN n2 = w2 at *
  have hCo := HCo w2 Hb2.out
  have fin : ∀ (r : Int) (b : Bool) (W : World) (v : Value), res = (ps, r, b) → W.ownsRow w2.heap.size 49 4 v ps.length (ps.flatMap rowCells) → Below w2.heap.size w2 W → ApplyPost w res (.returned (.tuple #[v, .int .i64 r, .bool b])) W := fun r b W v he ho hb => by
    subst he
    exact ⟨_, rfl, own_down ho hs2, Hb2.out.trans (hb.mono hs2)⟩
  have Fin := Lib.hid fin
  clear fin
  cases hm : Se.mayB ps
  · have Hres := Lib.hid (HNo.out (.inl hm))
    clear HNo HOp HGo HAg HDo hm
    go_wp2_with fail
    refine hCo.out.mono ?_
    rintro e w3 ⟨v3, rfl, hown3, hb3⟩
    have HF := Lib.hid (Fin.out _ _ _ _ Hres.out hown3 hb3)
    clear hown3 hb3
    go_wp2_with fail
    go_ret3
    exact HF.out
  · have h4 := Se.may_len hm
    by_cases ht : t < 1
    · have Hres := Lib.hid (HNo.out (.inr (.inl ht)))
      have hd : decide (t < 1) = true := decide_eq_true ht
      clear HNo HOp HGo HAg HDo hm
      go_wp2_with fail
      refine hCo.out.mono ?_
      rintro e w3 ⟨v3, rfl, hown3, hb3⟩
      have HF := Lib.hid (Fin.out _ _ _ _ Hres.out hown3 hb3)
      clear hown3 hb3
      go_wp2_with fail
      go_ret3
      exact HF.out
    · have hd : decide (t < 1) = false := decide_eq_false ht
      by_cases h0 : es = 0
      · have hz : (es == 0) = true := by simp [h0]
        have HFt := HAt t w2 Hb2.out
        by_cases hx : Se.idx ps t < ps.length
        · have Hres := Lib.hid (HNo.out (.inr (.inr ⟨h0, hx⟩)))
          rw [findV_lt hx] at HFt
          clear HNo HOp HGo HAg HDo hm hx
          generalize Se.idx ps t = ix at *
          go_wp2_with fail
          refine HFt.out.mono ?_
          rintro e w' ⟨rfl, rfl⟩
          go_wp2_with fail
          refine hCo.out.mono ?_
          rintro e w3 ⟨v3, rfl, hown3, hb3⟩
          have HF := Lib.hid (Fin.out _ _ _ _ Hres.out hown3 hb3)
          clear hown3 hb3
          go_wp2_with fail
          go_ret3
          exact HF.out
        · have hnn : ¬ (Se.mayB ps = false ∨ t < 1 ∨ (es = 0 ∧ Se.idx ps t < ps.length)) := by rintro (h | h | ⟨_, h⟩); rw [hm] at h; cases h; exact ht h; exact hx h
          have Hres := Lib.hid (HOp.out hnn h0)
          have HO := Lib.hid (ropen_any A c ps t w2 B (Hrd0.out.keep (fun p hp => Hb2.out.cell (by omega))) (by omega) hm hx)
          rw [findV_no hx] at HFt
          clear HNo HOp HGo HAg HDo hm hx hnn
          go_wp2_with fail
          refine HFt.out.mono ?_
          rintro e w' ⟨rfl, rfl⟩
          go_wp2_with fail
          refine HO.out.mono ?_
          rintro e w5 ⟨v5, rfl, hown5, hb5⟩
          have Hown5 := Lib.hid (own_down hown5 hs2)
          have Hb5 : Hid (Below w.heap.size w w5) := Hb2.out.trans (hb5.mono hs2)
          clear hown5 hb5
          go_wp2_with fail
          go_ret3
          exact ⟨_, by rw [Hres.out]; rfl, by rw [Hres.out]; exact Hown5.out, Hb5.out⟩
      · have hz : (es == 0) = false := by simp [h0]
        have hnn : ¬ (Se.mayB ps = false ∨ t < 1 ∨ (es = 0 ∧ Se.idx ps t < ps.length)) := by rintro (h | h | ⟨h, _⟩); rw [hm] at h; cases h; exact ht h; exact h0 h
        have HFs := HAt es w2 Hb2.out
        have HGo' := Lib.hid (HGo.out hnn h0)
        have HAg' := Lib.hid (HAg.out hnn h0)
        have HDo' := Lib.hid (HDo.out hnn h0)
        clear HNo HOp HGo HAg HDo hm hnn
        by_cases hx : Se.idx ps es < ps.length
        · rw [findV_lt hx] at HFs
          have hat := Se.at_lt hx
          have hse := Se.idx_lt hx
          generalize Se.idx ps es = ix at *
          rw [hat] at HGo' HAg' HDo'
          have Hse := Lib.hid hse
          obtain ⟨b, off, rfl, hbl, hc⟩ := Hrd0.out.2 (by omega)
          have hcx := fun (W : World) (hb : Below w2.heap.size w2 W) => row_cells (wr := W) hx hc (fun p hp => (hb.cell (p := p) (by omega)).trans (Hb2.out.cell (p := p) (by omega))) hbl
          have Hcx := Lib.hid hcx
          have HEx := fun (W : World) (hb : Below w2.heap.size w2 W) => Lib.hid (Blk.below Hbk.out hb Hbk.out.lt)
          obtain ⟨hc0, hc1, hc2, hc3⟩ := hcx w2 (Below.refl _ _)
          clear hat hse hcx hc
          have hd0 : decide ((ix : Int) < 0) = false := decide_eq_false (by omega)
          have hi1 : (ix : Int) < (ps.length : Int) := by omega
          by_cases h1 : en < ps[ix].2.1
          · have Hres := Lib.hid (HGo'.out (.inr h1))
            have hd1 : decide (en < ps[ix].2.1) = true := decide_eq_true h1
            have hCx := fun n => Lib.hid (HCo (w2.drewN n) (below_drewN Hb2.out n)).out
            clear HGo' HAg' HDo' hCo HCo
            generalize ps[ix].2.1 = N at *
            go_wp2_with fail
            refine HFs.out.mono ?_
            rintro e w' ⟨rfl, rfl⟩
            go_wp2_with fail
            go_quiet (fail)
            go_wp2_with fail
            refine (hCx nq).out.mono ?_
            rintro e w3 ⟨v3, rfl, hown3, hb3⟩
            have HF := Lib.hid (Fin.out _ _ _ _ Hres.out hown3 ((below_drewN (Below.refl _ _) nq).trans hb3))
            clear hown3 hb3
            go_wp2_with fail
            go_ret3
            exact HF.out
          · have hd1 : decide (en < ps[ix].2.1) = false := decide_eq_false h1
            have hn1 : ¬ (¬ ix < ps.length ∨ en < ps[ix].2.1) := by rintro (h | h); exact h hx; exact h1 h
            by_cases h2 : en = ps[ix].2.1
            · have Hres := Lib.hid (HAg'.out hn1 h2)
              have hd2 : (en == ps[ix].2.1) = true := by simp [← h2]
              clear HGo' HAg' HDo' h2 hCo
              have HCN : Hid (∀ (W : World), Below w2.heap.size w2 W → W.cell? ⟨b, off + ix * 4 + 2, none⟩ = some (.int .i64 ps[ix].2.2.1)) := fun W hb => (Hcx.out W hb).2.2.1
              generalize ps[ix].2.1 = N at *
              generalize ps[ix].2.2.1 = R at *
              go_wp2_with fail
              refine HFs.out.mono ?_
              rintro e w' ⟨rfl, rfl⟩
              go_wp2_with fail
              go_quiet (fail)
              go_wp2_with fail
              generalize nq = n5
              go_quiet (fail)
              go_wp2_with fail
              have Hb6 : Hid (Below w2.heap.size w2 (w2.drewN (n5 + nq + 1))) := below_drewN (Below.refl _ _) _
              have hCx := Lib.hid (HCo (w2.drewN (n5 + nq + 1)) (below_drewN Hb2.out _)).out
              clear hc0 hc1 hc3 hE2 hE3
              go_region_with (first | (go_at_call 31; refine hCx.out.mono ?_; rintro e w7 ⟨v7, rfl, hown7, hb7⟩; have HF := Lib.hid (Fin.out _ _ _ _ Hres.out hown7 (Hb6.out.trans hb7)); have hcS := HCN.out _ (Hb6.out.trans hb7); clear hown7 hb7))
              all_goals
                go_wp2_with fail
                go_ret3
                exact HF.out
            · have Hres := Lib.hid (HDo'.out hn1 h2)
              have hd2 : (en == ps[ix].2.1) = false := by simp [h2]
              have HS := Lib.hid (flat_set4 ps ix hx (es, en, t, t))
              have hCx := fun n => Lib.hid (HCo (w2.drewN n) (below_drewN Hb2.out n)).out
              clear HGo' HAg' HDo' h2 hCo HCo
              generalize ps[ix].2.1 = N at *
              go_wp2_with fail
              refine HFs.out.mono ?_
              rintro e w' ⟨rfl, rfl⟩
              go_wp2_with fail
              go_quiet (fail)
              go_wp2_with fail
              generalize nq = n5
              go_quiet (fail)
              go_wp2_with fail
              refine (hCx _).out.mono ?_
              rintro e w7 ⟨v7, rfl, hown7, hb7⟩
              obtain ⟨A7, c7, rfl, hnc7, _⟩ := own_slice hown7
              obtain ⟨g, rfl, hg1, hg2⟩ := own_some hown7 (by omega)
              have hf0 := own_frozen hown7 (ix * 4)
              have hf1 := own_frozen hown7 (ix * 4 + 1)
              have hf2 := own_frozen hown7 (ix * 4 + 2)
              have hf3 := own_frozen hown7 (ix * 4 + 3)
              obtain ⟨gc0, gc1, gc2, gc3⟩ := row_own_cells hown7 ix hx
              have hbk := Blk.below (Hbk.out.drewN (n5 + nq)) hb7 Hbk.out.lt
              have hX2 := hbk.cell 2
              have hX3 := hbk.cell 3
              simp only [List.getElem?_toArray, List.getElem?_cons_zero, List.getElem?_cons_succ] at hX2 hX3
              have Hown7 := Lib.hid hown7
              have Hb7 := Lib.hid hb7
              clear hown7 hb7 hbk hc0 hc1 hc2 hc3 hE2 hE3
              go_wp2_with fail
              go_ret3
              have hgw : w.heap.size ≤ g := Nat.le_trans hs2 hg1
              exact ⟨_, by rw [Hres.out]; rfl, by rw [Hres.out, List.length_set, ← HS.out]; exact own_setCells (rowCells (es, en, t, t)) (ix * 4) (own_down Hown7.out hs2), (((((below_drewN Hb2.out (n5 + nq)).trans (Hb7.out.mono hs2)).setCell (p := ⟨g, _, none⟩) hgw _).setCell (p := ⟨g, _, none⟩) hgw _).setCell (p := ⟨g, _, none⟩) hgw _).setCell (p := ⟨g, _, none⟩) hgw _⟩
        · have Hres := Lib.hid (HGo'.out (.inl hx))
          rw [findV_no hx] at HFs
          have hd0 : decide ((-1 : Int) < 0) = true := by decide
          have hCx := fun n => Lib.hid (HCo (w2.drewN n) (below_drewN Hb2.out n)).out
          clear HGo' HAg' HDo' hx
          go_wp2_with fail
          refine HFs.out.mono ?_
          rintro e w' ⟨rfl, rfl⟩
          go_wp2_with fail
          go_quiet (fail)
          go_wp2_with fail
          refine (hCx nq).out.mono ?_
          rintro e w3 ⟨v3, rfl, hown3, hb3⟩
          have HF := Lib.hid (Fin.out _ _ _ _ Hres.out hown3 ((below_drewN (Below.refl _ _) nq).trans hb3))
          clear hown3 hb3
          go_wp2_with fail
          go_ret3
          exact HF.out
end Go.Proofs.Ytllbjegnjjeaeaa
