/- The walk through the law SealAlike (chapter 14). -/
import Derived.Test.YtapdlmiioljpgaaKSvCutP
import Derived.Test.YtapdlmiioljpgaaKSvRmay
namespace Go.Proofs.Ytapdlmiioljpgaa
open Go.RowKit
set_option linter.unusedVariables false

theorem entCells_one4 (xs : List Ent) : ∀ u ∈ xs.flatMap entCells, u.oneCell' = true := by
  intro u hu
  obtain ⟨x, _, hx⟩ := List.mem_flatMap.1 hu
  unfold entCells at hx
  simp at hx
  rcases hx with rfl | rfl | rfl | rfl | rfl <;> rfl
def Sv.mays (z : List Ent) (j : Nat) : List Ent := (z.take j).filter Sv.entB
theorem Sv.mays_yes {z : List Ent} {j : Nat} (hj : j < z.length) (h : Sv.entB z[j] = true) : Sv.mays z (j + 1) = Sv.mays z j ++ [z[j]] := by
  unfold Sv.mays; rw [List.take_succ_eq_append_getElem hj, List.filter_append]; simp [h]
theorem Sv.mays_no {z : List Ent} {j : Nat} (hj : j < z.length) (h : Sv.entB z[j] = false) : Sv.mays z (j + 1) = Sv.mays z j := by
  unfold Sv.mays; rw [List.take_succ_eq_append_getElem hj, List.filter_append]; simp [h]
theorem Sv.mays_len (z : List Ent) (j : Nat) : (Sv.mays z j).length ≤ j := by
  unfold Sv.mays
  have h1 := List.length_filter_le Sv.entB (z.take j)
  rw [List.length_take] at h1
  omega
theorem Sv.mays_all (z : List Ent) (j : Nat) : (Sv.mays z j).all Sv.entB = true := by
  unfold Sv.mays; rw [List.all_eq_true]; intro q hq; exact (List.mem_filter.1 hq).2
theorem Sv.mays_mem {z : List Ent} {j : Nat} {q : Ent} (h : q ∈ Sv.mays z j) : q ∈ z := List.mem_of_mem_take (List.mem_filter.1 h).1
theorem LogOk.drop {w : World} {g c : Nat} {es : List Ent} (h : LogOk w (some ⟨g, 0, none⟩) es) (hc : c ≤ es.length) : LogOk w (some ⟨g, c * 5, none⟩) (es.drop c) := by
  refine ⟨⟨flat_length entCells 5 (fun _ => rfl) _, fun h0 => ?_⟩, fun q hq => h.ok q (List.mem_of_mem_drop hq), fun q hq => h.big q (List.mem_of_mem_drop hq)⟩
  rw [List.length_drop] at h0
  obtain ⟨b, off, e, hb, hcell⟩ := h.rd.2 (by omega)
  injection e with e
  injection e with e1 e2 _
  subst e1; subst e2
  refine ⟨g, c * 5, rfl, hb, fun j u hu => ?_⟩
  have hs : es.flatMap entCells = (es.take c).flatMap entCells ++ (es.drop c).flatMap entCells := by rw [← List.flatMap_append, List.take_append_drop]
  have hl : ((es.take c).flatMap entCells).length = c * 5 := by rw [flat_length entCells 5 (fun _ => rfl), List.length_take, Nat.min_eq_left hc]
  have := hcell (c * 5 + j) u (by rw [hs, List.getElem?_append_right (by rw [hl]; omega), hl, Nat.add_sub_cancel_left]; exact hu)
  rwa [Nat.zero_add] at this
theorem own_nil_or {w : World} {base : Nat} {e : TypeId} {size n c : Nat} {A : Option Addr} {xs : List Value} (h : w.ownsRow base e size (.slice A n c) n xs) : (A = none ∧ n = 0 ∧ c = 0) ∨ ∃ g, A = some ⟨g, 0, none⟩ := by
  rcases h.2 with ⟨hv, h0⟩ | ⟨g, cap, cur, hv, _⟩
  · injection hv with e1 e2 e3
    exact .inl ⟨e1, e2, e3⟩
  · injection hv with e1 e2 e3
    exact .inr ⟨g, e1⟩
theorem LogOk.nil (w : World) (A : Option Addr) {L : List Ent} (h : L = []) : LogOk w A L := by
  subst h
  exact ⟨⟨rfl, fun h => absurd h (by simp)⟩, fun q hq => by simp at hq, fun q hq => by simp at hq⟩
/-- segments of the two logs, wherever the part lies -/
theorem sv_part {Wo : World} {Ap : Option Addr} {np cpp q : Nat} {L : List Ent} (h : LogOk Wo Ap (L.drop q)) (hn : (L.drop q).length = np) (hc : np ≤ cpp) (hl : L.length ≤ 64) (hq : q ≤ L.length) : ∀ (r : Nat) W, r ≤ 9 → Below Wo.heap.size Wo W → Calls Try.prog 52 #[.agg #[.int .i64 (q : Int), .string (Sv.snapC L q), .slice Ap np cpp], .int .i64 (r : Int)] W fun e w' => e = .returned (.tuple #[.string (Sv.segR q (Sv.snapC L q) (L.drop q) r).1, .int .i64 (Sv.segR q (Sv.snapC L q) (L.drop q) r).2]) ∧ Below W.heap.size W w' := fun r W hr hb => by
  have hz := Sv.snapC_size hq hl
  have hl2 : (L.drop q).length ≤ 64 := by rw [List.length_drop]; omega
  have := segment_any (q : Int) (Sv.snapC L q) Ap cpp (L.drop q) r W (h.below hb) (by unfold maxLen; omega) (by omega) (by omega) (by omega)
  rwa [hn] at this
set_option maxRecDepth 100000 in
set_option maxHeartbeats 8000000 in
theorem sealAlike_walk {w : World} (A0 : Option Addr) (c0 : Nat) (z0 : List Ent) (a1 : Int) (rd0 : Reads w w.heap.size 5 A0 z0.length (z0.flatMap entCells)) (wf0 : ∀ q ∈ z0, EntOk w q) (nb0 : z0.length * 56 ≤ 140737488351232) (sb0 : ∀ q ∈ z0, q.2.2.2.length * 32 ≤ 140737488351232) (w1 : (Lit.int .i64 a1).wf = true) :
    Calls Try.prog 13 #[.slice A0 z0.length c0, .int .i64 a1] w fun e w' => e = .returned (.bool true) ∧ Below w.heap.size w w' := by
  obtain ⟨i0, hi, hz0, hz1, hz2⟩ := info_parts info_entry
  obtain ⟨k, hk, hk1⟩ := pick_of a1 8 (by omega) (by omega)
  rw [show ((8 : Nat) : Int) = 8 from rfl] at hk1
  have HC0 := Lib.hid (ent_cells rd0)
  have HE0 := Lib.hid (fun (q : Ent) (hq : q ∈ z0) => And.intro (wf0 q hq) (sb0 q hq))
  clear rd0 wf0 sb0 w1
  go_enter Try.func13, Try.ntmps13
  go_wp2_with fail
  refine (awake14 _).mono ?_
  rintro e w1 ⟨rfl, hb1⟩
  have Hb1 := Lib.hid hb1
  have hs1 := hb1.size
  clear hb1
  go_wp2_with fail
  go_loopw [5, 6] (fun v i wr => ∃ j : Nat, j ≤ z0.length ∧ j ≤ 64 ∧ i = .int .i64 (j : Int) ∧ Hid (wr.ownsRow w1.heap.size 43 5 v (Sv.mays z0 j).length ((Sv.mays z0 j).flatMap entCells)) ∧ Hid (Below w1.heap.size w1 wr)) (fun _ i _ => 64 - (intOf i).toNat)
  case atStart => exact ⟨0, Nat.zero_le _, by omega, rfl, Lib.hid (own_nil _ _ _ _), Lib.hid (Below.refl _ _)⟩
  case round =>
    obtain ⟨j, hj, hj64, rfl, hown, hbw⟩ := hrel
    have hsw := hbw.out.size
    by_cases hlt : j < z0.length ∧ j < 64
    · obtain ⟨hl1, hl2⟩ := hlt
      have hd1 : decide (j < z0.length) = true := decide_eq_true hl1
      have hd2 : decide ((j : Int) < 64) = true := decide_eq_true (by omega)
      have hd3 : decide ((j : Int) < (z0.length : Int)) = true := decide_eq_true (by omega)
      obtain ⟨bd, off, rfl, hbd, e0, e1, e2, e3, e4⟩ := HC0.out j hl1
      have hbw0 : Below w.heap.size w wr := Hb1.out.trans (hbw.out.mono hs1)
      have Hcell : Hid (∀ W, Below wr.heap.size wr W → ∀ i, W.cell? ⟨bd, off + j * 5 + i, none⟩ = w.cell? ⟨bd, off + j * 5 + i, none⟩) := fun W hb i => (hbw0.trans (hb.mono hbw0.size)).cell (p := ⟨bd, off + j * 5 + i, none⟩) hbd
      obtain ⟨hok, hbig⟩ := HE0.out _ (List.getElem_mem hl1)
      obtain ⟨hrp, hwp⟩ := ent_pts hok
      have HM := Lib.hid (rentryMay_any z0[j].1.1 z0[j].1.2.1 z0[j].1.2.2.1 z0[j].1.2.2.2 z0[j].2.1 z0[j].2.2.1 z0[j].2.2.2 wr w.heap.size (hrp.below hbw0) hbw0.size (by omega) hwp)
      have HY := Lib.hid (fun h => @Sv.mays_yes z0 j hl1 h)
      have HN := Lib.hid (fun h => @Sv.mays_no z0 j hl1 h)
      have hml := Sv.mays_len z0 j
      obtain ⟨eb, heb⟩ : ∃ eb, Sv.entB z0[j] = eb := ⟨_, rfl⟩
      have heb' : Ig.mayB z0[j].1.1 z0[j].1.2.1 z0[j].1.2.2.1 z0[j].1.2.2.2 z0[j].2.2.2 = eb := heb
      rw [heb'] at HM
      rw [heb] at HY HN
      clear hok hbig hrp hwp HC0 HE0 heb heb'
      generalize z0[j] = q at *
      obtain ⟨⟨v, cl, s, n⟩, EA, ec, bs⟩ := q
      simp only at e0 e1 e2 e3 e4 HM
      have y0 := (Hcell.out wr (Below.refl _ _) 0).trans e0
      have y1 := (Hcell.out wr (Below.refl _ _) 1).trans e1
      have y2 := (Hcell.out wr (Below.refl _ _) 2).trans e2
      have y3 := (Hcell.out wr (Below.refl _ _) 3).trans e3
      have y4 := (Hcell.out wr (Below.refl _ _) 4).trans e4
      rw [Nat.add_zero] at y0
      go_wp2_with fail
      refine HM.out.mono ?_
      rintro e w2 ⟨rfl, hb2⟩
      have x0 := (Hcell.out w2 hb2 0).trans e0
      have x1 := (Hcell.out w2 hb2 1).trans e1
      have x2 := (Hcell.out w2 hb2 2).trans e2
      have x3 := (Hcell.out w2 hb2 3).trans e3
      have x4 := (Hcell.out w2 hb2 4).trans e4
      rw [Nat.add_zero] at x0
      have Hb2 : Hid (Below w1.heap.size w1 w2) := hbw.out.trans (hb2.mono hsw)
      have hs2 := Hb2.out.size
      have Hown2 := Lib.hid (own_only hown.out (Only.new (fun _ => False) hb2) (fun _ _ q => q))
      clear hb2 HM Hcell y0 y1 y2 y3 y4 e0 e1 e2 e3 e4 hown
      cases eb
      · have HN1 := Lib.hid (HN.out rfl)
        clear HY HN
        go_wp2_with fail
        go_roundw
        case rel => exact ⟨j + 1, by omega, by omega, by go_num, Lib.hid (by rw [HN1.out]; exact Hown2.out), Hb2⟩
        case measure => simp [intOf]; omega
      · have HY1 := Lib.hid (HY.out rfl)
        clear HY HN
        go_wp2_with (at_builtin; refine wpList_push w2 rfl _ _ 66 rfl w1.heap.size 43 i0 _ 5 56 Try.underlying66 hi hz0 hz1 hz2 rfl (by decide) _ (Sv.mays z0 j).length _ (by rfl) Hown2.out [.int .i64 v, .int .i64 cl, .int .i64 s, .int .i64 n, .slice EA bs.length ec] (by rfl) rfl (by simp [Value.oneCell']) (by unfold maxLen; omega) (by omega) w1 Hb2.out hs2 ?_; intro v8 w8 hown8 hb8)
        have Hown8 : Hid (w8.ownsRow w1.heap.size 43 5 v8 (Sv.mays z0 (j + 1)).length ((Sv.mays z0 (j + 1)).flatMap entCells)) := by
          rw [HY1.out, List.length_append, List.flatMap_append]; exact hown8
        have Hb8 := Lib.hid hb8
        clear hown8 hb8 HY1
        go_roundw
        case rel => exact ⟨j + 1, by omega, by omega, by go_num, Hown8, Hb8⟩
        case measure => simp [intOf]; omega
    · have hend : (decide (j < z0.length) = false ∧ decide ((j : Int) < (z0.length : Int)) = false) ∨ (decide (j < z0.length) = true ∧ decide ((j : Int) < (z0.length : Int)) = true ∧ decide ((j : Int) < 64) = false) := by
        by_cases h : j < z0.length
        · exact .inr ⟨decide_eq_true h, decide_eq_true (by omega), decide_eq_false (by omega)⟩
        · exact .inl ⟨decide_eq_false h, decide_eq_false (by omega)⟩
      have hml := Sv.mays_len z0 j
      have HAll := Lib.hid (Sv.mays_all z0 j)
      have HMem : Hid (∀ q ∈ Sv.mays z0 j, EntOk w q ∧ q.2.2.2.length * 32 ≤ 140737488351232) := fun q hq => HE0.out q (Sv.mays_mem hq)
      clear HC0 HE0 hlt
      generalize Sv.mays z0 j = L at *
      obtain ⟨A, cp, rfl, hnc, hrd⟩ := own_slice hown.out
      have Hno := Lib.hid (own_nil_or hown.out)
      have hbw0 : Below w.heap.size w wr := Hb1.out.trans (hbw.out.mono hs1)
      have HL : Hid (LogOk wr A L) := ⟨hrd, fun q hq => (HMem.out q hq).1.below hbw0, fun q hq => (HMem.out q hq).2⟩
      have Hbw0 := Lib.hid hbw0
      have hL64 : L.length ≤ 64 := by omega
      clear hown hrd HMem hbw hbw0 hml
      have hsw0 := Hbw0.out.size
      generalize wr = Wo at *
      have HB := Lib.hid (Blk.new Wo 84 #[.int .i64 0, .string ⟨#[]⟩, .slice A L.length cp])
      have Hb2 : Hid (Below Wo.heap.size Wo (Wo.alloc (.cells #[.int .i64 0, .string ⟨#[]⟩, .slice A L.length cp] 84))) := (Below.refl _ _).alloc (Nat.le_refl _) _
      by_cases hcl : L.length < k * 8
      · have hcl2 : (L.length : Int) < (k : Int) * 8 := by omega
        rcases hend with ⟨hd1, hd3⟩ | ⟨hd1, hd3, hd2⟩
        all_goals
          go_wp2_with fail
          go_ret
          exact ⟨rfl, Hbw0.out.trans (Hb2.out.mono hsw0)⟩
      · obtain ⟨c, hc⟩ : ∃ c, k * 8 = c := ⟨_, rfl⟩
        have hkc : (k : Int) * 8 = (c : Int) := by omega
        have hcl2 : ¬ (L.length : Int) < (c : Int) := by omega
        have hcl3 : c ≤ L.length := by omega
        have h8 : c % 8 = 0 := by omega
        have H8 := Lib.hid h8
        have hN := newX (Wo.alloc (.cells #[.int .i64 0, .string ⟨#[]⟩, .slice A L.length cp] 84))
        rw [World.size_alloc] at hN
        have HN := Lib.hid hN
        clear hc hcl h8 hN
        rcases hend with ⟨hd1, hd3⟩ | ⟨hd1, hd3, hd2⟩
        all_goals
          go_wp2_with fail
          refine HN.out.mono ?_
          rintro e w3 ⟨rfl, hm3, hb3⟩
          have HM3 := Lib.hid hm3
          have Hb3 : Hid (Below Wo.heap.size Wo w3) := Hb2.out.trans (hb3.mono (Nat.le_succ _))
          have HB3 : Hid (Blk w3 Wo.heap.size 84 #[.int .i64 0, .string ⟨#[]⟩, .slice A L.length cp]) := HB.out.below hb3 (Nat.lt_succ_self _)
          clear hm3 hb3 HN HB Hb2
          go_wp2_with fail
          go_loopw [10] (fun i wr => ∃ q : Nat, q ≤ c ∧ i = .int .i64 (q : Int) ∧ Hid (MachX wr (Wo.heap.size + 1) (Wo.heap.size + 1) (Sv.runM Ig.m0 (L.take q)) (fun _ => False)) ∧ Hid (Blk wr Wo.heap.size 84 #[.int .i64 0, .string ⟨#[]⟩, .slice A L.length cp]) ∧ Hid (Below Wo.heap.size Wo wr)) (fun i _ => c - (intOf i).toNat)
          case atStart => exact ⟨0, Nat.zero_le _, rfl, HM3, HB3, Hb3⟩
          case round =>
            obtain ⟨q, hq, rfl, hm, hB, hbq⟩ := hrel
            by_cases hlt : q < c
            · have hql : q < L.length := by omega
              have hqc : (q : Int) < (c : Int) := by omega
              obtain ⟨b, off', rfl, hbl, e0, e1, e2, e3, e4⟩ := ent_cells HL.out.rd q hql
              rw [← hbq.out.cell (p := ⟨b, _, none⟩) hbl] at e0 e1 e2 e3 e4
              have hok := HL.out.ok _ (List.getElem_mem hql)
              have hbig := HL.out.big _ (List.getElem_mem hql)
              obtain ⟨hrp, hwp⟩ := ent_pts hok
              have hIk := Sv.run_inv Ig.inv0 (L.take q)
              have hml := hm.out.lt
              have HX := Lib.hid (applyX0 hm.out hIk L[q].1.1 L[q].1.2.1 L[q].1.2.2.1 L[q].1.2.2.2 L[q].2.1 L[q].2.2.1 L[q].2.2.2 ((hrp.below hbq.out).more hbq.out.size) hwp (by omega) (fun h0 b off e => by
                obtain ⟨b', off', e', hb', _⟩ := hrp.2 h0
                rw [e] at e'; injection e' with e'; injection e' with e' _ _
                omega) (by omega))
              have HT := Lib.hid (Sv.run_take Ig.m0 hql)
              have HBk : Hid (∀ W, Only (fun k => Wo.heap.size + 1 ≤ k) wr W → Blk W Wo.heap.size 84 #[.int .i64 0, .string ⟨#[]⟩, .slice (some ⟨b, off', none⟩) L.length cp] ∧ Below Wo.heap.size Wo W) := fun W ho => ⟨hB.out.only ho (by omega), hbq.out.trans (ho.below (fun k hk q => by omega) hbq.out.size)⟩
              clear hok hbig hrp hwp hIk hm hB
              generalize L[q] = en at *
              obtain ⟨⟨v, cl, s, n⟩, EA, ec, bs⟩ := en
              simp only at e0 e1 e2 e3 e4 HX HT
              go_wp2_with fail
              refine HX.out.mono ?_
              rintro e w5 ⟨rfl, hm5, ho5⟩
              rw [← HT.out] at hm5
              have HM5 := Lib.hid hm5
              obtain ⟨hB5, hb5⟩ := HBk.out w5 ho5
              have HB5 := Lib.hid hB5
              have Hb5 := Lib.hid hb5
              clear hm5 ho5 hB5 hb5 HX HT HBk
              go_wp2_with fail
              go_roundw
              case rel => exact ⟨q + 1, by omega, by go_num, HM5, HB5, Hb5⟩
              case measure => simp [intOf]; omega
            · obtain rfl : q = c := by omega
              have hIk := Sv.run_inv Ig.inv0 (L.take q)
              have hat := Sv.run_len hcl3 (by omega)
              have hS := snapX hm.out hIk
              rw [Ig.snap_yes (by rw [hat]; have := H8.out; omega)] at hS
              have HS := Lib.hid hS
              have HSz := Lib.hid (Sv.snapC_size hcl3 hL64)
              have HSC : Hid (Sv.snapC L q = if q = 0 then ⟨#[]⟩ else ⟨(Ig.snapL (Sv.runM Ig.m0 (L.take q))).toArray⟩) := rfl
              clear hIk hat hS hm
              generalize (⟨(Ig.snapL (Sv.runM Ig.m0 (L.take q))).toArray⟩ : ByteArray) = sn at *
              go_wp2_with fail
              refine HS.out.mono ?_
              rintro e w5 ⟨rfl, hb5⟩
              have Hb5 : Hid (Below Wo.heap.size Wo w5) := hbq.out.trans (hb5.mono hbq.out.size)
              have HB5 := Lib.hid (hB.out.below hb5 hB.out.lt)
              clear hb5 HS hB
              have hcs : (q = 0 ∧ ((q : Int) == 0) = true) ∨ (q ≠ 0 ∧ ((q : Int) == 0) = false) := by
                by_cases h : q = 0
                · exact .inl ⟨h, by simp [h]⟩
                · exact .inr ⟨h, by simp [h]⟩
              obtain ⟨N, hN⟩ : ∃ N, L.length / 8 = N := ⟨_, rfl⟩
              have hNz : (L.length : Int) / 8 = (N : Int) := by omega
              have hN8 : N ≤ 8 := by omega
              have hNl : N * 8 ≤ L.length := by omega
              have HSf : Hid (∀ (r : Nat) W, r ≤ 9 → Below Wo.heap.size Wo W → Calls Try.prog 52 #[.agg #[.int .i64 0, .string ⟨#[]⟩, .slice A L.length cp], .int .i64 (r : Int)] W fun e w' => e = .returned (.tuple #[.string (Sv.segR 0 ⟨#[]⟩ L r).1, .int .i64 (Sv.segR 0 ⟨#[]⟩ L r).2]) ∧ Below W.heap.size W w') := fun r W hr hb =>
                segment_any 0 ⟨#[]⟩ A cp L r W (HL.out.below hb) (by decide) (by omega) hnc (by omega)
              have HF1 := Lib.hid (fun (r : Nat) h1 h2 => @Sv.cut_full L r hL64 HAll.out h1 h2)
              have HF2 := Lib.hid (fun (r : Nat) h => @Sv.cut_old L q r hcl3 hL64 H8.out HAll.out h)
              have HF3 := Lib.hid (fun (r : Nat) h h2 => @Sv.cut_new L q r hcl3 hL64 H8.out HAll.out h h2)
              clear hN HAll
              have hps : (A = none ∧ L.length = 0 ∧ cp = 0) ∨ (∃ g, A = some ⟨g, 0, none⟩ ∧ cp = q) ∨ (∃ g, A = some ⟨g, 0, none⟩ ∧ ¬ cp = q) := by
                rcases Hno.out with h | ⟨g, h⟩
                · exact .inl h
                · by_cases h2 : cp = q
                  · exact .inr (.inl ⟨g, h, h2⟩)
                  · exact .inr (.inr ⟨g, h, h2⟩)
              have HPn := Lib.hid (fun (Ap : Option Addr) (h : L.length = q) => @sv_part Wo Ap 0 0 q L (LogOk.nil Wo Ap (List.drop_eq_nil_of_le (by omega))) (by rw [List.length_drop]; omega) (Nat.le_refl _) hL64 hcl3)
              have HPs := Lib.hid (fun (g : Nat) (h : A = some ⟨g, 0, none⟩) => @sv_part Wo (some ⟨g, q * 5, none⟩) (L.length - q) (cp - q) q L ((h ▸ HL.out).drop hcl3) (by rw [List.length_drop]) (by omega) hL64 hcl3)
              clear Hno HL
              have HSCq := Lib.hid HSC
              generalize Sv.snapC L q = sC at *
              rcases hps with ⟨rfl, hl0, hcp0⟩ | ⟨ga, rfl, hcq⟩ | ⟨ga, rfl, hcq⟩
              · have hq0 : q = 0 := by omega
                have hN0 : N = 0 := by omega
                rw [if_pos hq0] at HSC
                obtain rfl : sC = ⟨#[]⟩ := HSC.out
                clear HPn HPs HSC HSCq hcs HB3 HSf HF1 HF2 HF3
                subst hq0
                subst hcp0
                go_wp2_with fail
                have Hbn := Lib.hid (Hb5.out.alloc Hb5.out.size (.cells #[.int .i64 0, .string ⟨#[]⟩, .slice none 0 0] 84))
                go_loopw [14, 15, 16, 17, 18] (fun i _ _ _ _ wr => i = .int .i64 1 ∧ Hid (Below Wo.heap.size Wo wr)) (fun _ _ _ _ _ _ => 0)
                case atStart => exact ⟨rfl, Hbn⟩
                case round =>
                  obtain ⟨rfl, hbr⟩ := hrel
                  go_wp2_with fail
                  refine (errno_any _ _).mono ?_
                  rintro e w' ⟨rfl, rfl⟩
                  go_wp2_with fail
                  go_ret
                  exact ⟨rfl, Hbw0.out.trans (hbr.out.mono hsw0)⟩
              · have HSp := Lib.hid (HPn.out (some ⟨ga, 0, none⟩) (by omega))
                subst hcq
                clear HPn HPs HB3
                rcases hcs with ⟨hq0, hqb⟩ | ⟨hq0, hqb⟩
                · rw [if_pos hq0] at HSC
                  obtain rfl : sC = ⟨#[]⟩ := HSC.out
                  clear hq0 HSC HSCq
                  go_wp2_with fail
                  have HBn := Lib.hid (Blk.new w5 84 #[.int .i64 (cp : Int), .string ⟨#[]⟩, .slice (some ⟨ga, 0, none⟩) 0 0])
                  have HBo := Lib.hid (HB5.out.alloc (.cells #[.int .i64 (cp : Int), .string ⟨#[]⟩, .slice (some ⟨ga, 0, none⟩) 0 0] 84))
                  have Hbn := Lib.hid (Hb5.out.alloc Hb5.out.size (.cells #[.int .i64 (cp : Int), .string ⟨#[]⟩, .slice (some ⟨ga, 0, none⟩) 0 0] 84))
                  go_loopw [14, 15, 16, 17, 18] (fun i _ _ _ _ wr => ∃ r : Nat, 1 ≤ r ∧ r ≤ 9 ∧ i = .int .i64 (r : Int) ∧ Hid (Blk wr Wo.heap.size 84 #[.int .i64 0, .string ⟨#[]⟩, .slice (some ⟨ga, 0, none⟩) L.length cp]) ∧ Hid (Blk wr w5.heap.size 84 #[.int .i64 (cp : Int), .string ⟨#[]⟩, .slice (some ⟨ga, 0, none⟩) 0 0]) ∧ Hid (Below Wo.heap.size Wo wr)) (fun i _ _ _ _ _ => 9 - (intOf i).toNat)
                  case atStart => exact ⟨1, by omega, by omega, rfl, HBo, HBn, Hbn⟩
                  case round =>
                    clear HB5 HBn HBo Hbn
                    obtain ⟨r, hr1, hr9, rfl, hBf, hBp, hbr⟩ := hrel
                    by_cases hlr : r ≤ N
                    · have hlr2 : (r : Int) ≤ (N : Int) := by omega
                      have H1 := Lib.hid (HSf.out r wr hr9 hbr.out)
                      have hz := HF1.out r hr1 (by omega)
                      have HP := Lib.hid (fun W hb => HSp.out r W hr9 (hbr.out.trans (Below.mono (hb : Below wr.heap.size wr W) hbr.out.size)))
                      have HO := Lib.hid (HF2.out r)
                      have HNw := Lib.hid (fun h => HF3.out r h (by omega))
                      clear HSf HSp HF1 HF2 HF3
                      generalize Sv.segR 0 ⟨#[]⟩ L (r : Int) = ra at *
                      generalize Sv.segR (cp : Int) ⟨#[]⟩ (L.drop cp) (r : Int) = rb at *
                      obtain ⟨sa, ea⟩ := ra
                      obtain ⟨sb, eb⟩ := rb
                      simp only at hz H1 HP HO HNw
                      subst hz
                      have c0 := hBf.out.cell 0
                      have c1 := hBf.out.cell 1
                      have c2 := hBf.out.cell 2
                      simp only [List.getElem?_toArray, List.getElem?_cons_zero, List.getElem?_cons_succ] at c0 c1 c2
                      go_wp2_with fail
                      refine H1.out.mono ?_
                      rintro e w6 ⟨rfl, hb6⟩
                      have hBp6 := hBp.out.below hb6 hBp.out.lt
                      have hBf6 := Lib.hid (hBf.out.below hb6 hBf.out.lt)
                      have HP6 := Lib.hid (HP.out w6 hb6)
                      have Hb6 : Hid (Below Wo.heap.size Wo w6) := hbr.out.trans (hb6.mono hbr.out.size)
                      have d0 := hBp6.cell 0
                      have d1 := hBp6.cell 1
                      have d2 := hBp6.cell 2
                      simp only [List.getElem?_toArray, List.getElem?_cons_zero, List.getElem?_cons_succ] at d0 d1 d2
                      have HBp6 := Lib.hid hBp6
                      clear c0 c1 c2 hb6 H1 HP hBp hBf hbr hBp6
                      go_wp2_with fail
                      refine HP6.out.mono ?_
                      rintro e w7 ⟨rfl, hb7⟩
                      have HBp7 := Lib.hid (HBp6.out.below hb7 HBp6.out.lt)
                      have HBf7 := Lib.hid (hBf6.out.below hb7 hBf6.out.lt)
                      have Hb7 : Hid (Below Wo.heap.size Wo w7) := Hb6.out.trans (hb7.mono Hb6.out.size)
                      clear d0 d1 d2 hb7 HP6 hBf6 HBp6 Hb6
                      by_cases hrc : r * 8 ≤ cp
                      · have hrc2 : (r : Int) * 8 ≤ (cp : Int) := by omega
                        obtain rfl : eb = 1400 := HO.out hrc
                        clear HO HNw
                        go_wp2_with fail
                        refine (errno_any _ _).mono ?_
                        rintro e w' ⟨rfl, rfl⟩
                        go_wp2_with fail
                        refine (errno_any _ _).mono ?_
                        rintro e w' ⟨rfl, rfl⟩
                        go_wp2_with fail
                        go_roundw
                        case rel => exact ⟨r + 1, by omega, by omega, by go_num, HBf7, HBp7, Hb7⟩
                        case measure => simp [intOf]; omega
                      · exfalso; omega
                    · have hlr2 : ¬ (r : Int) ≤ (N : Int) := by omega
                      clear HSf HSp HF1 HF2 HF3
                      go_wp2_with fail
                      refine (errno_any _ _).mono ?_
                      rintro e w' ⟨rfl, rfl⟩
                      go_wp2_with fail
                      go_ret
                      exact ⟨rfl, Hbw0.out.trans (hbr.out.mono hsw0)⟩
                · rw [if_neg hq0] at HSC
                  obtain rfl : sC = sn := HSC.out
                  clear hq0 HSC HSCq
                  go_wp2_with fail
                  have HBn := Lib.hid (Blk.new w5 84 #[.int .i64 (cp : Int), .string sC, .slice (some ⟨ga, 0, none⟩) 0 0])
                  have HBo := Lib.hid (HB5.out.alloc (.cells #[.int .i64 (cp : Int), .string sC, .slice (some ⟨ga, 0, none⟩) 0 0] 84))
                  have Hbn := Lib.hid (Hb5.out.alloc Hb5.out.size (.cells #[.int .i64 (cp : Int), .string sC, .slice (some ⟨ga, 0, none⟩) 0 0] 84))
                  go_loopw [14, 15, 16, 17, 18] (fun i _ _ _ _ wr => ∃ r : Nat, 1 ≤ r ∧ r ≤ 9 ∧ i = .int .i64 (r : Int) ∧ Hid (Blk wr Wo.heap.size 84 #[.int .i64 0, .string ⟨#[]⟩, .slice (some ⟨ga, 0, none⟩) L.length cp]) ∧ Hid (Blk wr w5.heap.size 84 #[.int .i64 (cp : Int), .string sC, .slice (some ⟨ga, 0, none⟩) 0 0]) ∧ Hid (Below Wo.heap.size Wo wr)) (fun i _ _ _ _ _ => 9 - (intOf i).toNat)
                  case atStart => exact ⟨1, by omega, by omega, rfl, HBo, HBn, Hbn⟩
                  case round =>
                    clear HB5 HBn HBo Hbn
                    obtain ⟨r, hr1, hr9, rfl, hBf, hBp, hbr⟩ := hrel
                    by_cases hlr : r ≤ N
                    · have hlr2 : (r : Int) ≤ (N : Int) := by omega
                      have H1 := Lib.hid (HSf.out r wr hr9 hbr.out)
                      have hz := HF1.out r hr1 (by omega)
                      have HP := Lib.hid (fun W hb => HSp.out r W hr9 (hbr.out.trans (Below.mono (hb : Below wr.heap.size wr W) hbr.out.size)))
                      have HO := Lib.hid (HF2.out r)
                      have HNw := Lib.hid (fun h => HF3.out r h (by omega))
                      clear HSf HSp HF1 HF2 HF3
                      generalize Sv.segR 0 ⟨#[]⟩ L (r : Int) = ra at *
                      generalize Sv.segR (cp : Int) sC (L.drop cp) (r : Int) = rb at *
                      obtain ⟨sa, ea⟩ := ra
                      obtain ⟨sb, eb⟩ := rb
                      simp only at hz H1 HP HO HNw
                      subst hz
                      have c0 := hBf.out.cell 0
                      have c1 := hBf.out.cell 1
                      have c2 := hBf.out.cell 2
                      simp only [List.getElem?_toArray, List.getElem?_cons_zero, List.getElem?_cons_succ] at c0 c1 c2
                      go_wp2_with fail
                      refine H1.out.mono ?_
                      rintro e w6 ⟨rfl, hb6⟩
                      have hBp6 := hBp.out.below hb6 hBp.out.lt
                      have hBf6 := Lib.hid (hBf.out.below hb6 hBf.out.lt)
                      have HP6 := Lib.hid (HP.out w6 hb6)
                      have Hb6 : Hid (Below Wo.heap.size Wo w6) := hbr.out.trans (hb6.mono hbr.out.size)
                      have d0 := hBp6.cell 0
                      have d1 := hBp6.cell 1
                      have d2 := hBp6.cell 2
                      simp only [List.getElem?_toArray, List.getElem?_cons_zero, List.getElem?_cons_succ] at d0 d1 d2
                      have HBp6 := Lib.hid hBp6
                      clear c0 c1 c2 hb6 H1 HP hBp hBf hbr hBp6
                      go_wp2_with fail
                      refine HP6.out.mono ?_
                      rintro e w7 ⟨rfl, hb7⟩
                      have HBp7 := Lib.hid (HBp6.out.below hb7 HBp6.out.lt)
                      have HBf7 := Lib.hid (hBf6.out.below hb7 hBf6.out.lt)
                      have Hb7 : Hid (Below Wo.heap.size Wo w7) := Hb6.out.trans (hb7.mono Hb6.out.size)
                      clear d0 d1 d2 hb7 HP6 hBf6 HBp6 Hb6
                      by_cases hrc : r * 8 ≤ cp
                      · have hrc2 : (r : Int) * 8 ≤ (cp : Int) := by omega
                        obtain rfl : eb = 1400 := HO.out hrc
                        clear HO HNw
                        go_wp2_with fail
                        refine (errno_any _ _).mono ?_
                        rintro e w' ⟨rfl, rfl⟩
                        go_wp2_with fail
                        refine (errno_any _ _).mono ?_
                        rintro e w' ⟨rfl, rfl⟩
                        go_wp2_with fail
                        go_roundw
                        case rel => exact ⟨r + 1, by omega, by omega, by go_num, HBf7, HBp7, Hb7⟩
                        case measure => simp [intOf]; omega
                      · exfalso; omega
                    · have hlr2 : ¬ (r : Int) ≤ (N : Int) := by omega
                      clear HSf HSp HF1 HF2 HF3
                      go_wp2_with fail
                      refine (errno_any _ _).mono ?_
                      rintro e w' ⟨rfl, rfl⟩
                      go_wp2_with fail
                      go_ret
                      exact ⟨rfl, Hbw0.out.trans (hbr.out.mono hsw0)⟩
              · have HSp := Lib.hid (HPs.out ga rfl)
                clear HPn HPs HB3
                rcases hcs with ⟨hq0, hqb⟩ | ⟨hq0, hqb⟩
                · rw [if_pos hq0] at HSC
                  obtain rfl : sC = ⟨#[]⟩ := HSC.out
                  clear hq0 HSC HSCq
                  go_wp2_with fail
                  have HBn := Lib.hid (Blk.new w5 84 #[.int .i64 (q : Int), .string ⟨#[]⟩, .slice (some ⟨ga, q * 5, none⟩) (L.length - q) (cp - q)])
                  have HBo := Lib.hid (HB5.out.alloc (.cells #[.int .i64 (q : Int), .string ⟨#[]⟩, .slice (some ⟨ga, q * 5, none⟩) (L.length - q) (cp - q)] 84))
                  have Hbn := Lib.hid (Hb5.out.alloc Hb5.out.size (.cells #[.int .i64 (q : Int), .string ⟨#[]⟩, .slice (some ⟨ga, q * 5, none⟩) (L.length - q) (cp - q)] 84))
                  go_loopw [14, 15, 16, 17, 18] (fun i _ _ _ _ wr => ∃ r : Nat, 1 ≤ r ∧ r ≤ 9 ∧ i = .int .i64 (r : Int) ∧ Hid (Blk wr Wo.heap.size 84 #[.int .i64 0, .string ⟨#[]⟩, .slice (some ⟨ga, 0, none⟩) L.length cp]) ∧ Hid (Blk wr w5.heap.size 84 #[.int .i64 (q : Int), .string ⟨#[]⟩, .slice (some ⟨ga, q * 5, none⟩) (L.length - q) (cp - q)]) ∧ Hid (Below Wo.heap.size Wo wr)) (fun i _ _ _ _ _ => 9 - (intOf i).toNat)
                  case atStart => exact ⟨1, by omega, by omega, rfl, HBo, HBn, Hbn⟩
                  case round =>
                    clear HB5 HBn HBo Hbn
                    obtain ⟨r, hr1, hr9, rfl, hBf, hBp, hbr⟩ := hrel
                    by_cases hlr : r ≤ N
                    · have hlr2 : (r : Int) ≤ (N : Int) := by omega
                      have H1 := Lib.hid (HSf.out r wr hr9 hbr.out)
                      have hz := HF1.out r hr1 (by omega)
                      have HP := Lib.hid (fun W hb => HSp.out r W hr9 (hbr.out.trans (Below.mono (hb : Below wr.heap.size wr W) hbr.out.size)))
                      have HO := Lib.hid (HF2.out r)
                      have HNw := Lib.hid (fun h => HF3.out r h (by omega))
                      clear HSf HSp HF1 HF2 HF3
                      generalize Sv.segR 0 ⟨#[]⟩ L (r : Int) = ra at *
                      generalize Sv.segR (q : Int) ⟨#[]⟩ (L.drop q) (r : Int) = rb at *
                      obtain ⟨sa, ea⟩ := ra
                      obtain ⟨sb, eb⟩ := rb
                      simp only at hz H1 HP HO HNw
                      subst hz
                      have c0 := hBf.out.cell 0
                      have c1 := hBf.out.cell 1
                      have c2 := hBf.out.cell 2
                      simp only [List.getElem?_toArray, List.getElem?_cons_zero, List.getElem?_cons_succ] at c0 c1 c2
                      go_wp2_with fail
                      refine H1.out.mono ?_
                      rintro e w6 ⟨rfl, hb6⟩
                      have hBp6 := hBp.out.below hb6 hBp.out.lt
                      have hBf6 := Lib.hid (hBf.out.below hb6 hBf.out.lt)
                      have HP6 := Lib.hid (HP.out w6 hb6)
                      have Hb6 : Hid (Below Wo.heap.size Wo w6) := hbr.out.trans (hb6.mono hbr.out.size)
                      have d0 := hBp6.cell 0
                      have d1 := hBp6.cell 1
                      have d2 := hBp6.cell 2
                      simp only [List.getElem?_toArray, List.getElem?_cons_zero, List.getElem?_cons_succ] at d0 d1 d2
                      have HBp6 := Lib.hid hBp6
                      clear c0 c1 c2 hb6 H1 HP hBp hBf hbr hBp6
                      go_wp2_with fail
                      refine HP6.out.mono ?_
                      rintro e w7 ⟨rfl, hb7⟩
                      have HBp7 := Lib.hid (HBp6.out.below hb7 HBp6.out.lt)
                      have HBf7 := Lib.hid (hBf6.out.below hb7 hBf6.out.lt)
                      have Hb7 : Hid (Below Wo.heap.size Wo w7) := Hb6.out.trans (hb7.mono Hb6.out.size)
                      clear d0 d1 d2 hb7 HP6 hBf6 HBp6 Hb6
                      by_cases hrc : r * 8 ≤ q
                      · have hrc2 : (r : Int) * 8 ≤ (q : Int) := by omega
                        obtain rfl : eb = 1400 := HO.out hrc
                        clear HO HNw
                        go_wp2_with fail
                        refine (errno_any _ _).mono ?_
                        rintro e w' ⟨rfl, rfl⟩
                        go_wp2_with fail
                        refine (errno_any _ _).mono ?_
                        rintro e w' ⟨rfl, rfl⟩
                        go_wp2_with fail
                        go_roundw
                        case rel => exact ⟨r + 1, by omega, by omega, by go_num, HBf7, HBp7, Hb7⟩
                        case measure => simp [intOf]; omega
                      · have hrc2 : ¬ (r : Int) * 8 ≤ (q : Int) := by omega
                        have hn := HNw.out hrc
                        rw [Prod.mk.injEq] at hn
                        obtain ⟨hn1, hn2⟩ := hn
                        subst hn1
                        subst hn2
                        clear HO HNw
                        have hq1 : (sb.toList != sb.toList) = false := by simp
                        have hq2 : (sb.toList == sb.toList) = true := by simp
                        go_wp2_with fail
                        refine (errno_any _ _).mono ?_
                        rintro e w' ⟨rfl, rfl⟩
                        go_wp2_with fail
                        refine (errno_any _ _).mono ?_
                        rintro e w' ⟨rfl, rfl⟩
                        go_wp2_with fail
                        go_roundw
                        case rel => exact ⟨r + 1, by omega, by omega, by go_num, HBf7, HBp7, Hb7⟩
                        case measure => simp [intOf]; omega
                    · have hlr2 : ¬ (r : Int) ≤ (N : Int) := by omega
                      clear HSf HSp HF1 HF2 HF3
                      go_wp2_with fail
                      refine (errno_any _ _).mono ?_
                      rintro e w' ⟨rfl, rfl⟩
                      go_wp2_with fail
                      go_ret
                      exact ⟨rfl, Hbw0.out.trans (hbr.out.mono hsw0)⟩
                · rw [if_neg hq0] at HSC
                  obtain rfl : sC = sn := HSC.out
                  clear hq0 HSC HSCq
                  go_wp2_with fail
                  have HBn := Lib.hid (Blk.new w5 84 #[.int .i64 (q : Int), .string sC, .slice (some ⟨ga, q * 5, none⟩) (L.length - q) (cp - q)])
                  have HBo := Lib.hid (HB5.out.alloc (.cells #[.int .i64 (q : Int), .string sC, .slice (some ⟨ga, q * 5, none⟩) (L.length - q) (cp - q)] 84))
                  have Hbn := Lib.hid (Hb5.out.alloc Hb5.out.size (.cells #[.int .i64 (q : Int), .string sC, .slice (some ⟨ga, q * 5, none⟩) (L.length - q) (cp - q)] 84))
                  go_loopw [14, 15, 16, 17, 18] (fun i _ _ _ _ wr => ∃ r : Nat, 1 ≤ r ∧ r ≤ 9 ∧ i = .int .i64 (r : Int) ∧ Hid (Blk wr Wo.heap.size 84 #[.int .i64 0, .string ⟨#[]⟩, .slice (some ⟨ga, 0, none⟩) L.length cp]) ∧ Hid (Blk wr w5.heap.size 84 #[.int .i64 (q : Int), .string sC, .slice (some ⟨ga, q * 5, none⟩) (L.length - q) (cp - q)]) ∧ Hid (Below Wo.heap.size Wo wr)) (fun i _ _ _ _ _ => 9 - (intOf i).toNat)
                  case atStart => exact ⟨1, by omega, by omega, rfl, HBo, HBn, Hbn⟩
                  case round =>
                    clear HB5 HBn HBo Hbn
                    obtain ⟨r, hr1, hr9, rfl, hBf, hBp, hbr⟩ := hrel
                    by_cases hlr : r ≤ N
                    · have hlr2 : (r : Int) ≤ (N : Int) := by omega
                      have H1 := Lib.hid (HSf.out r wr hr9 hbr.out)
                      have hz := HF1.out r hr1 (by omega)
                      have HP := Lib.hid (fun W hb => HSp.out r W hr9 (hbr.out.trans (Below.mono (hb : Below wr.heap.size wr W) hbr.out.size)))
                      have HO := Lib.hid (HF2.out r)
                      have HNw := Lib.hid (fun h => HF3.out r h (by omega))
                      clear HSf HSp HF1 HF2 HF3
                      generalize Sv.segR 0 ⟨#[]⟩ L (r : Int) = ra at *
                      generalize Sv.segR (q : Int) sC (L.drop q) (r : Int) = rb at *
                      obtain ⟨sa, ea⟩ := ra
                      obtain ⟨sb, eb⟩ := rb
                      simp only at hz H1 HP HO HNw
                      subst hz
                      have c0 := hBf.out.cell 0
                      have c1 := hBf.out.cell 1
                      have c2 := hBf.out.cell 2
                      simp only [List.getElem?_toArray, List.getElem?_cons_zero, List.getElem?_cons_succ] at c0 c1 c2
                      go_wp2_with fail
                      refine H1.out.mono ?_
                      rintro e w6 ⟨rfl, hb6⟩
                      have hBp6 := hBp.out.below hb6 hBp.out.lt
                      have hBf6 := Lib.hid (hBf.out.below hb6 hBf.out.lt)
                      have HP6 := Lib.hid (HP.out w6 hb6)
                      have Hb6 : Hid (Below Wo.heap.size Wo w6) := hbr.out.trans (hb6.mono hbr.out.size)
                      have d0 := hBp6.cell 0
                      have d1 := hBp6.cell 1
                      have d2 := hBp6.cell 2
                      simp only [List.getElem?_toArray, List.getElem?_cons_zero, List.getElem?_cons_succ] at d0 d1 d2
                      have HBp6 := Lib.hid hBp6
                      clear c0 c1 c2 hb6 H1 HP hBp hBf hbr hBp6
                      go_wp2_with fail
                      refine HP6.out.mono ?_
                      rintro e w7 ⟨rfl, hb7⟩
                      have HBp7 := Lib.hid (HBp6.out.below hb7 HBp6.out.lt)
                      have HBf7 := Lib.hid (hBf6.out.below hb7 hBf6.out.lt)
                      have Hb7 : Hid (Below Wo.heap.size Wo w7) := Hb6.out.trans (hb7.mono Hb6.out.size)
                      clear d0 d1 d2 hb7 HP6 hBf6 HBp6 Hb6
                      by_cases hrc : r * 8 ≤ q
                      · have hrc2 : (r : Int) * 8 ≤ (q : Int) := by omega
                        obtain rfl : eb = 1400 := HO.out hrc
                        clear HO HNw
                        go_wp2_with fail
                        refine (errno_any _ _).mono ?_
                        rintro e w' ⟨rfl, rfl⟩
                        go_wp2_with fail
                        refine (errno_any _ _).mono ?_
                        rintro e w' ⟨rfl, rfl⟩
                        go_wp2_with fail
                        go_roundw
                        case rel => exact ⟨r + 1, by omega, by omega, by go_num, HBf7, HBp7, Hb7⟩
                        case measure => simp [intOf]; omega
                      · have hrc2 : ¬ (r : Int) * 8 ≤ (q : Int) := by omega
                        have hn := HNw.out hrc
                        rw [Prod.mk.injEq] at hn
                        obtain ⟨hn1, hn2⟩ := hn
                        subst hn1
                        subst hn2
                        clear HO HNw
                        have hq1 : (sb.toList != sb.toList) = false := by simp
                        have hq2 : (sb.toList == sb.toList) = true := by simp
                        go_wp2_with fail
                        refine (errno_any _ _).mono ?_
                        rintro e w' ⟨rfl, rfl⟩
                        go_wp2_with fail
                        refine (errno_any _ _).mono ?_
                        rintro e w' ⟨rfl, rfl⟩
                        go_wp2_with fail
                        go_roundw
                        case rel => exact ⟨r + 1, by omega, by omega, by go_num, HBf7, HBp7, Hb7⟩
                        case measure => simp [intOf]; omega
                    · have hlr2 : ¬ (r : Int) ≤ (N : Int) := by omega
                      clear HSf HSp HF1 HF2 HF3
                      go_wp2_with fail
                      refine (errno_any _ _).mono ?_
                      rintro e w' ⟨rfl, rfl⟩
                      go_wp2_with fail
                      go_ret
                      exact ⟨rfl, Hbw0.out.trans (hbr.out.mono hsw0)⟩
end Go.Proofs.Ytapdlmiioljpgaa
