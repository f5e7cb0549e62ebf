/- The walk through the law SealLater (chapter 14). -/
import Derived.Test.YtapdlmiioljpgaaK14
namespace Go.Proofs.Ytapdlmiioljpgaa
open Go.RowKit
set_option linter.unusedVariables false

theorem entCells_one (xs : List Ent) : ∀ u ∈ xs.flatMap entCells, u.oneCell' = true := by
  intro u hu
  obtain ⟨x, _, hx⟩ := List.mem_flatMap.1 hu
  unfold entCells at hx
  simp at hx
  rcases hx with rfl | rfl | rfl | rfl | rfl <;> rfl
theorem ent_snoc (za z1 : List Ent) (j : Nat) (hj : j < z1.length) : (za ++ z1.take j).flatMap entCells ++ entCells z1[j] = (za ++ z1.take (j + 1)).flatMap entCells := by
  rw [List.take_succ_eq_append_getElem hj, List.flatMap_append, List.flatMap_append, List.flatMap_append, List.append_assoc]
  simp
set_option maxRecDepth 100000 in
set_option maxHeartbeats 4000000 in
theorem sealLater_walk {w : World} (A0 : Option Addr) (c0 : Nat) (z0 : List Ent) (A1 : Option Addr) (c1 : Nat) (z1 : List Ent) (rd0 : Reads w w.heap.size 5 A0 z0.length (z0.flatMap entCells)) (wf0 : ∀ q ∈ z0, EntOk w q) (nb0 : z0.length * 56 ≤ 140737488351232) (sb0 : ∀ q ∈ z0, q.2.2.2.length * 32 ≤ 140737488351232) (cp0 : z0.length ≤ c0 ∧ (A0 = none → z0.length = 0 ∧ c0 = 0)) (rd1 : Reads w w.heap.size 5 A1 z1.length (z1.flatMap entCells)) (wf1 : ∀ q ∈ z1, EntOk w q) (nb1 : z1.length * 56 ≤ 140737488351232) (sb1 : ∀ q ∈ z1, q.2.2.2.length * 32 ≤ 140737488351232) (cp1 : z1.length ≤ c1 ∧ (A1 = none → z1.length = 0 ∧ c1 = 0)) :
    Calls Try.prog 11 #[.slice A0 z0.length c0, .slice A1 z1.length c1] w fun e w' => e = .returned (.bool true) ∧ Below w.heap.size w w' := by
  obtain ⟨i0, hi, hz0, hz1, hz2⟩ := info_parts info_entry
  obtain ⟨hc0, hn0⟩ := cp0
  clear cp1
  have hL0 : LogOk w A0 z0 := ⟨rd0, wf0, sb0⟩
  have hL1 : LogOk w A1 z1 := ⟨rd1, wf1, sb1⟩
  clear wf0 sb0 wf1 sb1
  obtain ⟨K, hK⟩ : ∃ K : Nat, z0.length / 8 = K := ⟨_, rfl⟩
  have hKz : ((z0.length : Int)) / 8 = (K : Int) := by omega
  have hKl : K * 8 ≤ z0.length := by omega
  have hA : (∃ b off, A0 = some ⟨b, off, none⟩) ∨ (A0 = none ∧ z0.length = 0 ∧ c0 = 0) ∨ (∃ ad, A0 = some ad ∧ z0.length = 0) := by
    rcases A0 with _ | ad
    · exact .inr (.inl ⟨rfl, hn0 rfl⟩)
    · by_cases h : 0 < z0.length
      · obtain ⟨b, off, e, _⟩ := rd0.2 h
        exact .inl ⟨b, off, e⟩
      · exact .inr (.inr ⟨ad, rfl, by omega⟩)
  clear hn0 hK
  go_enter Try.func11, Try.ntmps11
  go_wp2_with fail
  refine (awake14 _).mono ?_
  rintro e w1 ⟨rfl, hb1⟩
  have Hb1 := Lib.hid hb1
  have hs1 := hb1.size
  clear hb1
  rcases hA with ⟨b, off, rfl⟩ | ⟨rfl, h0, rfl⟩ | ⟨ad, rfl, h0⟩
  · have hlt : (z0.take (K * 8)).length = K * 8 := by rw [List.length_take]; omega
    have hR0 : Reads w w.heap.size 5 (some ⟨b, off, none⟩) (K * 8) ((z0.take (K * 8)).flatMap entCells) := by
      have := (hL0.take (K * 8)).rd
      rwa [hlt] at this
    have HR0 : Hid (∀ W, Below w.heap.size w W → Reads W w.heap.size 5 (some ⟨b, off, none⟩) (K * 8) ((z0.take (K * 8)).flatMap entCells)) := fun W hb => hR0.below hb
    have HO1 := Lib.hid (own_empty w1 w1.heap.size 43 5 (Nat.le_refl _))
    have Hb1e : Hid (Below w1.heap.size w1 (w1.alloc (.cells #[] 43))) := (Below.refl _ _).alloc (Nat.le_refl _) _
    have HL0 := Lib.hid (hL0.take (K * 8))
    have HL1 := Lib.hid hL1
    have HC1 := Lib.hid (ent_cells rd1)
    have Hlt := Lib.hid hlt
    have HOn := Lib.hid (entCells_one (z0.take (K * 8)))
    clear hlt hR0 hL0 hL1 rd0 rd1
    generalize z0.take (K * 8) = za at *
    go_wp2_with first
      | (at_builtin; refine wpList_append_all _ (o := ⟨some 24, _, _, _, _, _⟩) rfl _ _ 66 rfl w1.heap.size 43 i0 _ 5 56 Try.underlying66 hi hz0 hz1 hz2 rfl (by decide) _ 0 [] (by rfl) HO1.out w.heap.size (some ⟨b, off, none⟩) (K * 8) c0 (za.flatMap entCells) (by rfl) (HR0.out _ (Hb1.out.trans (Hb1e.out.mono hs1))) HOn.out (by unfold maxLen; omega) (by omega) w1 Hb1e.out Hb1e.out.size ?_; intro v2 w2 hown2 hb2 hat2; rw [Nat.zero_add, List.nil_append] at hown2; obtain ⟨A2, c2, hv2, hnc2, hrd2⟩ := own_slice hown2; subst hv2; have Hb2 : Hid (Below w.heap.size w w2) := Hb1.out.trans (hb2.mono hs1); have hs2 := Hb2.out.size; have HO2 := Lib.hid (own_empty w2 w2.heap.size 43 5 (Nat.le_refl _)); have Hb2e : Hid (Below w2.heap.size w2 (w2.alloc (.cells #[] 43))) := (Below.refl _ _).alloc (Nat.le_refl _) _; have Hrd2 := Lib.hid hrd2; clear hown2 hb2 hat2 hrd2)
      | (at_builtin; refine wpList_append_all _ (o := ⟨some 29, _, _, _, _, _⟩) rfl _ _ 66 rfl w2.heap.size 43 i0 _ 5 56 Try.underlying66 hi hz0 hz1 hz2 rfl (by decide) _ 0 [] (by rfl) HO2.out w.heap.size (some ⟨b, off, none⟩) (K * 8) c0 (za.flatMap entCells) (by rfl) (HR0.out _ (Hb2.out.trans (Hb2e.out.mono hs2))) HOn.out (by unfold maxLen; omega) (by omega) w2 Hb2e.out Hb2e.out.size ?_; intro v3 w3 hown3 hb3 hat3; rw [Nat.zero_add, List.nil_append] at hown3; have Hown3 := Lib.hid hown3; have Hb3 := Lib.hid hb3; clear hown3 hb3 hat3)
    have hs3 := Hb3.out.size
    have Hbw3 : Hid (Below w.heap.size w w3) := Hb2.out.trans (Hb3.out.mono hs2)
    have HSn := Lib.hid (ent_snoc za z1)
    clear HR0 HO1 Hb1e HOn HO2 Hb2e
    go_loopw [7, 8] (fun vb i wr => ∃ j : Nat, j ≤ z1.length ∧ j ≤ 20 ∧ i = .int .i64 (j : Int) ∧ Hid (wr.ownsRow w2.heap.size 43 5 vb (K * 8 + j) ((za ++ z1.take j).flatMap entCells)) ∧ Hid (Below w2.heap.size w2 wr)) (fun _ i _ => 20 - (intOf i).toNat)
    case atStart => exact ⟨0, Nat.zero_le _, by omega, rfl, Lib.hid (by simpa using Hown3.out), Hb3⟩
    case round =>
      obtain ⟨j, hj, hj20, rfl, hown, hbw⟩ := hrel
      have hsw := hbw.out.size
      by_cases hlt : j < z1.length ∧ j < 20
      · obtain ⟨hl1, hl2⟩ := hlt
        have hd1 : decide (j < z1.length) = true := decide_eq_true hl1
        have hd2 : decide ((j : Int) < 20) = true := decide_eq_true (by omega)
        have hd3 : decide ((j : Int) < (z1.length : Int)) = true := decide_eq_true (by omega)
        obtain ⟨bd, of, rfl, hbd, e0, e1, e2, e3, e4⟩ := HC1.out j hl1
        have hbw0 : Below w.heap.size w wr := Hb2.out.trans (hbw.out.mono hs2)
        rw [← hbw0.cell (p := ⟨bd, _, none⟩) hbd] at e0 e1 e2 e3 e4
        have HSn1 := Lib.hid (HSn.out j hl1)
        clear HSn HC1 hbw0
        generalize z1[j] = q at *
        obtain ⟨⟨v, cl, s, n⟩, EA, ec, bs⟩ := q
        simp only at e0 e1 e2 e3 e4
        go_wp2_with (at_builtin; refine wpList_push wr rfl _ _ 66 rfl w2.heap.size 43 i0 _ 5 56 Try.underlying66 hi hz0 hz1 hz2 rfl (by decide) _ (K * 8 + j) _ (by rfl) hown.out [.int .i64 v, .int .i64 cl, .int .i64 s, .int .i64 n, .slice EA bs.length ec] (by rfl) rfl (by simp [Value.oneCell']) (by unfold maxLen; omega) (by omega) w2 hbw.out hsw ?_; intro v8 w8 hown8 hb8)
        have Hown8 : Hid (w8.ownsRow w2.heap.size 43 5 v8 (K * 8 + (j + 1)) ((za ++ z1.take (j + 1)).flatMap entCells)) := by rw [← HSn1.out]; exact hown8
        have Hb8 := Lib.hid hb8
        clear hown8 hb8
        go_roundw
        case rel => exact ⟨j + 1, by omega, by omega, by go_num, Hown8, Hb8⟩
        case measure => simp [intOf]; omega
      · have hend : (decide (j < z1.length) = false ∧ decide ((j : Int) < (z1.length : Int)) = false) ∨ (decide (j < z1.length) = true ∧ decide ((j : Int) < (z1.length : Int)) = true ∧ decide ((j : Int) < 20) = false) := by
          by_cases h : j < z1.length
          · exact .inr ⟨decide_eq_true h, decide_eq_true (by omega), decide_eq_false (by omega)⟩
          · exact .inl ⟨decide_eq_false h, decide_eq_false (by omega)⟩
        obtain ⟨A4, c4, rfl, hnc4, hrd4⟩ := own_slice hown.out
        have hbw0 : Below w.heap.size w wr := Hb2.out.trans (hbw.out.mono hs2)
        have hza : (za ++ z1.take j).length = K * 8 + j := by rw [List.length_append, Hlt.out, List.length_take]; omega
        have hLa : LogOk wr A2 za := ⟨by rw [Hlt.out]; exact (Hrd2.out.below hbw.out).more hsw, fun q hq => (HL0.out.ok q hq).below hbw0, HL0.out.big⟩
        have hLb : LogOk wr A4 (za ++ z1.take j) := ⟨by rw [hza]; exact hrd4, fun q hq => by
          rcases List.mem_append.1 hq with hq | hq
          · exact (HL0.out.ok q hq).below hbw0
          · exact (HL1.out.ok q (List.mem_of_mem_take hq)).below hbw0, fun q hq => by
          rcases List.mem_append.1 hq with hq | hq
          · exact HL0.out.big q hq
          · exact HL1.out.big q (List.mem_of_mem_take hq)⟩
        have HSa : Hid (∀ (r : Nat) W, r ≤ 6 → Below wr.heap.size wr W → Calls Try.prog 52 #[.agg #[.int .i64 0, .string ⟨#[]⟩, .slice A2 (K * 8) c2], .int .i64 (r : Int)] W fun e w' => e = .returned (.tuple #[.string (Sv.segR 0 ⟨#[]⟩ za r).1, .int .i64 (Sv.segR 0 ⟨#[]⟩ za r).2]) ∧ Below W.heap.size W w') := fun r W hr hb => by
          have := segment_any 0 ⟨#[]⟩ A2 c2 za r W (hLa.below hb) (by decide) (by rw [Hlt.out]; omega) (by rw [Hlt.out]; omega) (by omega)
          rwa [Hlt.out] at this
        have HSb : Hid (∀ (r : Nat) W, r ≤ 6 → Below wr.heap.size wr W → Calls Try.prog 52 #[.agg #[.int .i64 0, .string ⟨#[]⟩, .slice A4 (K * 8 + j) c4], .int .i64 (r : Int)] W fun e w' => e = .returned (.tuple #[.string (Sv.segR 0 ⟨#[]⟩ (za ++ z1.take j) r).1, .int .i64 (Sv.segR 0 ⟨#[]⟩ (za ++ z1.take j) r).2]) ∧ Below W.heap.size W w') := fun r W hr hb => by
          have := segment_any 0 ⟨#[]⟩ A4 c4 (za ++ z1.take j) r W (hLb.below hb) (by decide) (by rw [hza]; omega) (by rw [hza]; omega) (by omega)
          rwa [hza] at this
        have HSm : Hid (∀ r : Nat, r ≤ K → (Sv.segR 0 ⟨#[]⟩ za r).2 = 0 → (Sv.segR 0 ⟨#[]⟩ (za ++ z1.take j) r).2 = 0 → (Sv.segR 0 ⟨#[]⟩ za r).1 = (Sv.segR 0 ⟨#[]⟩ (za ++ z1.take j) r).1) := fun r hr h1 h2 => by
          refine Sv.seg_same ?_ h1 h2
          rw [List.take_append_of_le_length (by rw [Hlt.out]; omega)]
        have Hbf := Lib.hid hbw0
        clear hlt HSn HC1 HL0 HL1 Hrd2 hrd4 hLa hLb hza Hown3 hown
        have hs5 := hbw0.size
        clear hbw0 hbw
        rcases hend with ⟨hd1, hd3⟩ | ⟨hd1, hd3, hd2⟩
        all_goals
          generalize za ++ z1.take j = zb at *
          generalize wr = Wo at *
          go_wp2_with fail
          go_loopw [9, 10, 11, 12, 13] (fun i _ _ _ _ wr => ∃ r : Nat, 1 ≤ r ∧ r ≤ 6 ∧ i = .int .i64 (r : Int) ∧ Hid (Below Wo.heap.size Wo wr)) (fun i _ _ _ _ _ => 6 - (intOf i).toNat)
          case atStart => exact ⟨1, by omega, by omega, rfl, Lib.hid (Below.refl _ _)⟩
          case round =>
            obtain ⟨r, hr1, hr6, rfl, hbq⟩ := hrel
            by_cases hlt : r ≤ K ∧ r < 6
            · obtain ⟨hrk, hr5⟩ := hlt
              have hg1 : decide ((r : Int) ≤ (K : Int)) = true := decide_eq_true (by omega)
              have hg2 : decide ((r : Int) < 6) = true := decide_eq_true (by omega)
              have hg3 : decide (r ≤ K) = true := decide_eq_true hrk
              have hg4 : decide (r < 6) = true := decide_eq_true hr5
              have H1 := fun W (hb : Below wr.heap.size wr W) => Lib.hid (HSa.out r W hr6 (hbq.out.trans (hb.mono hbq.out.size)))
              have H2 := fun W (hb : Below wr.heap.size wr W) => Lib.hid (HSb.out r W hr6 (hbq.out.trans (hb.mono hbq.out.size)))
              have HS := Lib.hid (HSm.out r hrk)
              clear HSa HSb HSm
              generalize Sv.segR 0 ⟨#[]⟩ za (r : Int) = ra at *
              generalize Sv.segR 0 ⟨#[]⟩ zb (r : Int) = rb at *
              obtain ⟨sa, ea⟩ := ra
              obtain ⟨sb, eb⟩ := rb
              simp only at H1 H2 HS
              go_wp2_with fail
              refine (H1 _ (Below.refl _ _)).out.mono ?_
              rintro e w5 ⟨rfl, hb5⟩
              have H2' := H2 w5 hb5
              have Hb5 : Hid (Below Wo.heap.size Wo w5) := hbq.out.trans (hb5.mono hbq.out.size)
              clear H1 H2 hb5
              go_wp2_with fail
              refine H2'.out.mono ?_
              rintro e w6 ⟨rfl, hb6⟩
              have Hb6 : Hid (Below Wo.heap.size Wo w6) := Hb5.out.trans (hb6.mono Hb5.out.size)
              clear H2' hb6
              by_cases h1 : ea = 0
              · subst h1
                by_cases h2 : eb = 0
                · subst h2
                  obtain rfl : sa = sb := HS.out rfl rfl
                  have hq : (sa.toList != sa.toList) = false := by simp
                  clear HS
                  go_wp2_with fail
                  refine (errno_any _ _).mono ?_
                  rintro e w' ⟨rfl, rfl⟩
                  go_wp2_with fail
                  refine (errno_any _ _).mono ?_
                  rintro e w' ⟨rfl, rfl⟩
                  go_wp2_with fail
                  go_roundw
                  case rel => exact ⟨r + 1, by omega, by omega, by go_num, Hb6⟩
                  case measure => simp [intOf]; omega
                · have hq : (eb == 0) = false := by simpa using h2
                  clear h2 HS
                  go_wp2_with fail
                  refine (errno_any _ _).mono ?_
                  rintro e w' ⟨rfl, rfl⟩
                  go_wp2_with fail
                  refine (errno_any _ _).mono ?_
                  rintro e w' ⟨rfl, rfl⟩
                  go_wp2_with fail
                  go_roundw
                  case rel => exact ⟨r + 1, by omega, by omega, by go_num, Hb6⟩
                  case measure => simp [intOf]; omega
              · have hq : (ea == 0) = false := by simpa using h1
                clear h1 HS
                go_wp2_with fail
                refine (errno_any _ _).mono ?_
                rintro e w' ⟨rfl, rfl⟩
                go_wp2_with fail
                go_roundw
                case rel => exact ⟨r + 1, by omega, by omega, by go_num, Hb6⟩
                case measure => simp [intOf]; omega
            · have hend2 : (decide ((r : Int) ≤ (K : Int)) = false ∧ decide (r ≤ K) = false) ∨ (decide ((r : Int) ≤ (K : Int)) = true ∧ decide (r ≤ K) = true ∧ decide ((r : Int) < 6) = false) := by
                by_cases h : r ≤ K
                · exact .inr ⟨decide_eq_true (by omega), decide_eq_true h, decide_eq_false (by omega)⟩
                · exact .inl ⟨decide_eq_false (by omega), decide_eq_false h⟩
              have Hfin : Hid (Below w.heap.size w wr) := Hbf.out.trans (hbq.out.mono hs5)
              clear hlt HSa HSb HSm
              rcases hend2 with ⟨x1, x2⟩ | ⟨x1, x2, x3⟩
              all_goals
                go_wp2_with fail
                go_ret
                exact ⟨rfl, Hfin.out⟩
  all_goals
    obtain rfl : z0 = [] := List.eq_nil_of_length_eq_zero h0
    simp only [List.length_nil] at *
    have HC1 := Lib.hid (ent_cells rd1)
    have HSn := Lib.hid (ent_snoc [] z1)
    clear rd0 rd1 hL0 hL1
    go_wp2_with fail
    have HO1 : Hid (((w1.alloc (.cells #[] 43)).alloc (.cells #[] 43)).ownsRow w1.heap.size 43 5 (.slice (some ⟨w1.heap.size + 1, 0, none⟩) 0 0) 0 (([] ++ z1.take 0).flatMap entCells)) := by
      have h := own_empty (w1.alloc (.cells #[] 43)) w1.heap.size 43 5 (by simp)
      rw [World.size_alloc] at h
      exact h
    have Hb1e : Hid (Below w1.heap.size w1 ((w1.alloc (.cells #[] 43)).alloc (.cells #[] 43))) := ((Below.refl _ _).alloc (Nat.le_refl _) _).alloc (by simp) _
    go_loopw [7, 8] (fun vb i wr => ∃ j : Nat, j ≤ z1.length ∧ j ≤ 20 ∧ i = .int .i64 (j : Int) ∧ Hid (wr.ownsRow w1.heap.size 43 5 vb j (([] ++ z1.take j).flatMap entCells)) ∧ Hid (Below w1.heap.size w1 wr)) (fun _ i _ => 20 - (intOf i).toNat)
    case atStart => exact ⟨0, Nat.zero_le _, by omega, rfl, HO1, Hb1e⟩
    case round =>
      obtain ⟨j, hj, hj20, rfl, hown, hbw⟩ := hrel
      have hsw := hbw.out.size
      by_cases hlt : j < z1.length ∧ j < 20
      · obtain ⟨hl1, hl2⟩ := hlt
        have hd1 : decide (j < z1.length) = true := decide_eq_true hl1
        have hd2 : decide ((j : Int) < 20) = true := decide_eq_true (by omega)
        have hd3 : decide ((j : Int) < (z1.length : Int)) = true := decide_eq_true (by omega)
        obtain ⟨bd, of, rfl, hbd, e0, e1, e2, e3, e4⟩ := HC1.out j hl1
        have hbw0 : Below w.heap.size w wr := Hb1.out.trans (hbw.out.mono hs1)
        rw [← hbw0.cell (p := ⟨bd, _, none⟩) hbd] at e0 e1 e2 e3 e4
        have HSn1 := Lib.hid (HSn.out j hl1)
        clear HSn HC1 hbw0
        generalize z1[j] = q at *
        obtain ⟨⟨v, cl, s, n⟩, EA, ec, bs⟩ := q
        simp only at e0 e1 e2 e3 e4
        go_wp2_with (at_builtin; refine wpList_push wr rfl _ _ 66 rfl w1.heap.size 43 i0 _ 5 56 Try.underlying66 hi hz0 hz1 hz2 rfl (by decide) _ j _ (by rfl) hown.out [.int .i64 v, .int .i64 cl, .int .i64 s, .int .i64 n, .slice EA bs.length ec] (by rfl) rfl (by simp [Value.oneCell']) (by unfold maxLen; omega) (by omega) w1 hbw.out hsw ?_; intro v8 w8 hown8 hb8)
        have Hown8 : Hid (w8.ownsRow w1.heap.size 43 5 v8 (j + 1) (([] ++ z1.take (j + 1)).flatMap entCells)) := by rw [← HSn1.out]; exact hown8
        have Hb8 := Lib.hid hb8
        clear hown8 hb8
        go_roundw
        case rel => exact ⟨j + 1, by omega, by omega, by go_num, Hown8, Hb8⟩
        case measure => simp [intOf]; omega
      · have hend : (decide (j < z1.length) = false ∧ decide ((j : Int) < (z1.length : Int)) = false) ∨ (decide (j < z1.length) = true ∧ decide ((j : Int) < (z1.length : Int)) = true ∧ decide ((j : Int) < 20) = false) := by
          by_cases h : j < z1.length
          · exact .inr ⟨decide_eq_true h, decide_eq_true (by omega), decide_eq_false (by omega)⟩
          · exact .inl ⟨decide_eq_false h, decide_eq_false (by omega)⟩
        have Hbf : Hid (Below w.heap.size w wr) := Hb1.out.trans (hbw.out.mono hs1)
        clear hlt HSn HC1 hown hbw
        rcases hend with ⟨hd1, hd3⟩ | ⟨hd1, hd3, hd2⟩
        all_goals
          generalize wr = Wo at *
          go_wp2_with fail
          go_loopw [9, 10, 11, 12, 13] (fun i _ _ _ _ wr => i = .int .i64 1 ∧ Hid (Below w.heap.size w wr)) (fun _ _ _ _ _ _ => 0)
          case atStart => exact ⟨rfl, Hbf⟩
          case round =>
            obtain ⟨rfl, hbq⟩ := hrel
            go_wp2_with fail
            go_ret
            exact ⟨rfl, hbq.out⟩
end Go.Proofs.Ytapdlmiioljpgaa
