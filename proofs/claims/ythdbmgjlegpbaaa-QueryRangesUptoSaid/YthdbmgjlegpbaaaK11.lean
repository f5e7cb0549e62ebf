/- Joined texts: StSymL, StSymM, StSymN, StStab, QmMerge. -/
import Derived.Test.YthdbmgjlegpbaaaK10
import Derived.Deep.DeepCutAuto
/- The walk through slices.symMergeCmpFunc at points: the middle lies ahead of the second row. -/
namespace Go.Proofs.Ythdbmgjlegpbaaa
open Go.RowKit
set_option linter.unusedVariables false

set_option maxRecDepth 100000 in
set_option maxHeartbeats 8000000 in
theorem symMerge_genL (base g N cap K : Nat) (ih : SymAll base g N cap K) (p A B s : List Pt.Point) (a m b : Nat) (w : World) (hK : A.length + B.length ≤ K + 1) (hA : 2 ≤ A.length) (hB : 2 ≤ B.length) (hown : w.ownsRow base 52 3 (.slice (some ⟨g, 0, none⟩) N cap) N ((p ++ (A ++ (B ++ s))).flatMap pointCells)) (hl : (p ++ (A ++ (B ++ s))).length = N) (ha : a = p.length) (hm : m = p.length + A.length) (hb : b = p.length + A.length + B.length) (hN : N ≤ 4611686018427387904) (hbr : (a + b) / 2 < m) :
    Calls Try.prog 96 #[.slice (some ⟨g, 0, none⟩) N cap, .int .i64 (a : Int), .int .i64 (m : Int), .int .i64 (b : Int), cmpF] w (RowPost w base g N cap (SymOk p A B s)) := by
  have hlN : b ≤ N := by rw [← hl, hb]; simp only [List.length_append]; omega
  have hma : ((m : Int) - (a : Int) == 1) = false := beq_eq_false_iff_ne.2 (by omega)
  have hbm : ((b : Int) - (m : Int) == 1) = false := beq_eq_false_iff_ne.2 (by omega)
  obtain ⟨hgA, hgB⟩ := @cut_facts p A B s a m b ha hm hb
  have ha1 := Nat.le_of_eq ha
  have ha2 := Nat.le_of_eq ha.symm
  have hm1 := Nat.le_of_eq hm
  have hm2 := Nat.le_of_eq hm.symm
  have hb1 := Nat.le_of_eq hb
  have hb2 := Nat.le_of_eq hb.symm
  have HgA := Lib.hid hgA
  have HgB := Lib.hid hgB
  have H0 := Lib.hid hown
  have Hl := Lib.hid hl
  unfold SymAll cmpF at ih
  have Ih := Lib.hid ih
  obtain ⟨mid, hmid⟩ : ∃ mid, (a + b) / 2 = mid := ⟨_, rfl⟩
  have hmidI : ((a : Int) + (b : Int)) / 2 = (mid : Int) := by omega
  have hmid1 : mid * 2 ≤ a + b := by omega
  have hmid2 : a + b ≤ mid * 2 + 1 := by omega
  obtain ⟨n, hn⟩ : ∃ n, mid + m = n := ⟨_, rfl⟩
  have hnI : (mid : Int) + (m : Int) = (n : Int) := by omega
  have hn1 := Nat.le_of_eq hn
  have hn2 := Nat.le_of_eq hn.symm
  obtain ⟨pp, hpp⟩ : ∃ pp, n - 1 = pp := ⟨_, rfl⟩
  have hppI : (n : Int) - 1 = (pp : Int) := by omega
  have hp1 : pp + 1 ≤ n := by omega
  have hp2 : n ≤ pp + 1 := by omega
  rw [hmid] at hbr
  clear hown hl ha hm hb hgA hgB ih hmid hn hpp
  unfold cmpF
  have hcs : ∃ st r : Nat, a ≤ st ∧ st ≤ r ∧ r ≤ m ∧ (st = a ∨ st + b = n) ∧ (r = m ∨ r = mid) ∧ (∀ c, st ≤ c → c < r → m + c ≤ pp ∧ pp < b + c) ∧ (((mid : Int) < (m : Int)) ∧ (n : Int) - (b : Int) = (st : Int) ∧ Hid (st = st) ∧ Hid (r = mid)) :=
    ⟨n - b, mid, by omega, by omega, by omega, by omega, by omega, fun c h1 h2 => by omega, by omega, by omega, Lib.hid rfl, Lib.hid rfl⟩
  obtain ⟨st, r, hst, hsr, hrm, hsta, hrmid, hpc, hmm, hsb, Hst, Hrr⟩ := hcs
  have HC := Lib.hid (And.intro hsta (And.intro hrmid hpc))
  clear hsta hrmid hpc hbr
  go_enter Try.func96, Try.ntmps96
  go_wp2_with fail
  go_loopw [20, 21, 23] (fun u v _ wr => ∃ I J : Nat, st ≤ I ∧ I ≤ J ∧ J ≤ r ∧ u = .int .i64 (I : Int) ∧ v = .int .i64 (J : Int) ∧ Hid (st < I → ∃ q1 q2, B[pp - (I - 1) - m]? = some q1 ∧ A[I - 1 - a]? = some q2 ∧ 0 ≤ Pt.cmpP q1 q2) ∧ Hid (J < r → ∃ q1 q2, B[pp - J - m]? = some q1 ∧ A[J - a]? = some q2 ∧ Pt.cmpP q1 q2 < 0) ∧ Hid (wr.ownsRow base 52 3 (.slice (some ⟨g, 0, none⟩) N cap) N ((p ++ (A ++ (B ++ s))).flatMap pointCells)) ∧ Hid (Only (fun k => k = g) w wr)) (fun u v _ _ => (intOf v).toNat - (intOf u).toNat)
  case atStart => exact ⟨st, r, Nat.le_refl _, hsr, Nat.le_refl _, by first | rfl | rw [Hst.out], by first | rfl | rw [Hrr.out], Lib.hid (fun h => absurd h (by omega)), Lib.hid (fun h => absurd h (by omega)), H0, Lib.hid (Only.refl _ _)⟩
  case round =>
    obtain ⟨I, J, hI, hIJ, hJ, rfl, rfl, hlo, hhi, hown, ho⟩ := hrel
    by_cases hlt : I < J
    · have hltI : (I : Int) < (J : Int) := by omega
      obtain ⟨h, hh⟩ : ∃ h, (I + J) / 2 = h := ⟨_, rfl⟩
      have hhI : ((I : Int) + (J : Int)) / 2 = (h : Int) := by omega
      have hh1 : I ≤ h ∧ h < J := by omega
      obtain ⟨hc1, hc2⟩ := HC.out.2.2 h (by omega) (by omega)
      obtain ⟨e, he⟩ : ∃ e, pp - h = e := ⟨_, rfl⟩
      have heI : (pp : Int) - (h : Int) = (e : Int) := by omega
      have hem : m ≤ e ∧ e < b := by omega
      obtain ⟨q1, hq1, hq1B⟩ := HgB.out e hem.1 hem.2
      obtain ⟨q2, hq2, hq2A⟩ := HgA.out h (by omega) (by omega)
      have hhn0 : (0 : Int) ≤ (h : Int) := by omega
      have hhn1 : (h : Int) < (N : Int) := by omega
      have hen0 : (0 : Int) ≤ (e : Int) := by omega
      have hen1 : (e : Int) < (N : Int) := by omega
      have hap := fun x : Aft wr.heap.size wr => pt_aft hown.out hq1 x
      have haq := fun x : Aft wr.heap.size wr => pt_aft hown.out hq2 x
      have H1 := fun W => Lib.hid (compare_any q1 q2 W)
      rw [← he] at hq1B
      have HB := Lib.hid hq1B
      have HA := Lib.hid hq2A
      clear hq1 hq2 hq1B hq2A hh he
      obtain ⟨xn, xt, xv⟩ := q1
      obtain ⟨qn, qt, qv⟩ := q2
      simp only at hap haq
      have x0 := fun x => (hap x).1
      have x1 := fun x => (hap x).2.1
      have x2 := fun x => (hap x).2.2
      have y0 := fun x => (haq x).1
      have y1 := fun x => (haq x).2.1
      have y2 := fun x => (haq x).2.2
      clear hap haq
      by_cases hc : Pt.cmpP (xn, xt, xv) (qn, qt, qv) < 0
      · as_aux_lemma =>
          have hhi2 : Hid (h < r → ∃ q1 q2, B[pp - h - m]? = some q1 ∧ A[h - a]? = some q2 ∧ Pt.cmpP q1 q2 < 0) := fun _ => ⟨_, _, HB.out, HA.out, hc⟩
          have hdc : decide (Pt.cmpP (xn, xt, xv) (qn, qt, qv) < 0) = true := decide_eq_true hc
          clear hhi
          generalize Pt.cmpP (xn, xt, xv) (qn, qt, qv) = cv at *
          go_wp2_with fail
          refine wp_region_aft wr.heap.size wr (by kernel_rfl) (by kernel_rfl) (Below.refl _ _) ?_
          repeat (go_big_quiet_step (first | (go_at_call 57; with_reducible exact aft_new (Nat.le_refl _) (Hid.out (H1 _)))))
          refine wpQuiet_nil ?_
          rintro _ ⟨x, rfl⟩
          have Hox : Hid (Only (fun k => k = g) w x.world) := ho.out.trans (Only.new (fun _ => False) x.below) (fun _ _ q => q.elim)
          have Hownx := Lib.hid (own_only hown.out (Only.new (fun _ => False) x.below) (fun _ _ q => q))
          clear x0 x1 x2 y0 y1 y2 hown ho H1
          generalize x.world = w3 at *
          go_wp2_with fail
          go_roundw
          case rel => exact ⟨I, h, hI, by omega, by omega, rfl, rfl, hlo, hhi2, Hownx, Hox⟩
          case measure => simp [intOf]; omega
      · as_aux_lemma =>
          have hlo2 : Hid (st < h + 1 → ∃ q1 q2, B[pp - (h + 1 - 1) - m]? = some q1 ∧ A[h + 1 - 1 - a]? = some q2 ∧ 0 ≤ Pt.cmpP q1 q2) := fun _ => ⟨_, _, HB.out, HA.out, by omega⟩
          have hdc : decide (Pt.cmpP (xn, xt, xv) (qn, qt, qv) < 0) = false := decide_eq_false hc
          clear hlo
          generalize Pt.cmpP (xn, xt, xv) (qn, qt, qv) = cv at *
          go_wp2_with fail
          refine wp_region_aft wr.heap.size wr (by kernel_rfl) (by kernel_rfl) (Below.refl _ _) ?_
          repeat (go_big_quiet_step (first | (go_at_call 57; with_reducible exact aft_new (Nat.le_refl _) (Hid.out (H1 _)))))
          refine wpQuiet_nil ?_
          rintro _ ⟨x, rfl⟩
          have Hox : Hid (Only (fun k => k = g) w x.world) := ho.out.trans (Only.new (fun _ => False) x.below) (fun _ _ q => q.elim)
          have Hownx := Lib.hid (own_only hown.out (Only.new (fun _ => False) x.below) (fun _ _ q => q))
          clear x0 x1 x2 y0 y1 y2 hown ho H1
          generalize x.world = w3 at *
          go_wp2_with fail
          go_roundw
          case rel => exact ⟨h + 1, J, by omega, by omega, hJ, by go_num, rfl, hlo2, hhi, Hownx, Hox⟩
          case measure => simp [intOf]; omega
    · obtain rfl : I = J := by omega
      have hltI : ¬ (I : Int) < (I : Int) := by omega
      obtain ⟨hC1, hC2, _⟩ := HC.out
      obtain ⟨en, hen⟩ : ∃ en, n - I = en := ⟨_, rfl⟩
      have hIn : I ≤ n := by omega
      have henI : (n : Int) - (I : Int) = (en : Int) := by omega
      have hen1 : en + I ≤ n ∧ n ≤ en + I := by omega
      have henb : m ≤ en ∧ en ≤ b := by have h1 := Hrr.out; have h2 := Hst.out; omega
      obtain ⟨i, hi⟩ : ∃ i, I - a = i := ⟨_, rfl⟩
      obtain ⟨j, hj⟩ : ∃ j, en - m = j := ⟨_, rfl⟩
      have hi1 : i + a ≤ I ∧ I ≤ i + a := by omega
      have hj1 : j + m ≤ en ∧ en ≤ j + m := by omega
      have hiA : i ≤ A.length := by omega
      have hjB : j ≤ B.length := by omega
      have hCut : Hid (∀ C1 C2, St.Mg (A.take i) (B.take j) C1 → St.Mg (A.drop i) (B.drop j) C2 → St.Mg A B (C1 ++ C2)) := fun C1 C2 h1 h2 => by
        refine St.mg_cut hiA hjB (fun g1 g2 => ?_) (fun g1 g2 => ?_) h1 h2
        · obtain ⟨q1, q2, e1, e2, e3⟩ := hlo.out (by omega)
          rw [show pp - (I - 1) - m = j from by omega, List.getElem?_eq_getElem g2] at e1
          rw [show I - 1 - a = i - 1 from by omega, List.getElem?_eq_getElem (by omega)] at e2
          injection e1 with e1
          injection e2 with e2
          rw [e1, e2]; omega
        · obtain ⟨q1, q2, e1, e2, e3⟩ := hhi.out (by omega)
          rw [show pp - I - m = j - 1 from by omega, List.getElem?_eq_getElem (by omega)] at e1
          rw [show I - a = i from hi, List.getElem?_eq_getElem g1] at e2
          injection e1 with e1
          injection e2 with e2
          rw [e1, e2]; exact e3
      have hlists : p ++ (A ++ (B ++ s)) = (p ++ A.take i) ++ (A.drop i ++ (B.take j ++ (B.drop j ++ s))) := by
        have e1 : A = A.take i ++ A.drop i := (List.take_append_drop i A).symm
        have e2 : B = B.take j ++ B.drop j := (List.take_append_drop j B).symm
        rw [show p ++ (A ++ (B ++ s)) = p ++ ((A.take i ++ A.drop i) ++ ((B.take j ++ B.drop j) ++ s)) from by rw [← e1, ← e2]]
        simp only [List.append_assoc]
      have l1 : (A.take i).length = i := by rw [List.length_take]; omega
      have l2 : (A.drop i).length = A.length - i := List.length_drop
      have l3 : (B.take j).length = j := by rw [List.length_take]; omega
      have l4 : (B.drop j).length = B.length - j := List.length_drop
      have HownI : Hid (wr.ownsRow base 52 3 (.slice (some ⟨g, 0, none⟩) N cap) N (((p ++ A.take i) ++ (A.drop i ++ (B.take j ++ (B.drop j ++ s)))).flatMap pointCells)) := by rw [← hlists]; exact hown.out
      have HlI : Hid (((p ++ A.take i) ++ (A.drop i ++ (B.take j ++ (B.drop j ++ s)))).length = N) := by rw [← hlists]; exact Hl.out
      have lA1 := Nat.le_of_eq l1
      have lA1' := Nat.le_of_eq l1.symm
      have lA2 := Nat.le_of_eq l2
      have lA2' := Nat.le_of_eq l2.symm
      have lB1 := Nat.le_of_eq l3
      have lB1' := Nat.le_of_eq l3.symm
      have lB2 := Nat.le_of_eq l4
      have lB2' := Nat.le_of_eq l4.symm
      clear hlo hhi HgA HgB HC hC1 hC2 hen hi hj hlists l1 l2 l3 l4 hown H0 Hl
      generalize A.take i = A1 at *
      generalize A.drop i = A2 at *
      generalize B.take j = B1 at *
      generalize B.drop j = B2 at *
      have hs1 : ((I : Int) < (m : Int) ∧ (m : Int) < (en : Int)) ∨ ¬ (I : Int) < (m : Int) ∨ ((I : Int) < (m : Int) ∧ ¬ (m : Int) < (en : Int)) := by omega
      have hs2 : ((a : Int) < (I : Int) ∧ (I : Int) < (mid : Int)) ∨ ¬ (a : Int) < (I : Int) ∨ ((a : Int) < (I : Int) ∧ ¬ (I : Int) < (mid : Int)) := by omega
      have hs3 : ((mid : Int) < (en : Int) ∧ (en : Int) < (b : Int)) ∨ ¬ (mid : Int) < (en : Int) ∨ ((mid : Int) < (en : Int) ∧ ¬ (en : Int) < (b : Int)) := by omega
      have HR := Lib.hid (fun (h1 : 0 < A2.length) (h2 : 0 < B1.length) W hw => rotate_any base g N cap (p ++ A1) A2 B1 (B2 ++ s) I m en (.func (.func 57) #[] #[]) W hw HlI.out (by rw [List.length_append]; omega) (by rw [List.length_append]; omega) (by rw [List.length_append]; omega) h1 h2 (by omega))
      have hlen2 : (p ++ (A1 ++ (B1 ++ (A2 ++ (B2 ++ s))))).length = N := by
        have := HlI.out
        simp only [List.length_append] at this ⊢
        omega
      have HI2 := Lib.hid (fun (h1 : 0 < A1.length) (h2 : 0 < B1.length) W hw => Ih.out p A1 B1 (A2 ++ (B2 ++ s)) a I mid W (by omega) h1 h2 hw hlen2 (by omega) (by omega) (by omega))
      have HI3 : Hid (∀ C1 : List Pt.Point, C1.length = A1.length + B1.length → 0 < A2.length → 0 < B2.length → ∀ W, W.ownsRow base 52 3 (.slice (some ⟨g, 0, none⟩) N cap) N (((p ++ C1) ++ (A2 ++ (B2 ++ s))).flatMap pointCells) → Calls Try.prog 96 #[.slice (some ⟨g, 0, none⟩) N cap, .int .i64 (mid : Int), .int .i64 (en : Int), .int .i64 (b : Int), .func (.func 57) #[] #[]] W (RowPost W base g N cap (SymOk (p ++ C1) A2 B2 s))) := fun C1 hC h1 h2 W hw =>
        Ih.out (p ++ C1) A2 B2 s mid en b W (by omega) h1 h2 hw (by have := hlen2; simp only [List.length_append] at this ⊢; omega) (by rw [List.length_append]; omega) (by rw [List.length_append]; omega) (by rw [List.length_append]; omega)
      have HFin : Hid (∀ l' C1 C2, l' = (p ++ C1) ++ (C2 ++ s) → St.Mg A1 B1 C1 → St.Mg A2 B2 C2 → l'.length = N ∧ SymOk p A B s l') := fun l' C1 C2 h h1 h2 => by
        have hm := hCut.out C1 C2 h1 h2
        refine ⟨?_, C1 ++ C2, by rw [h]; simp only [List.append_assoc], hm⟩
        rw [h]
        have := hlen2
        have e1 := h1.len
        have e2 := h2.len
        simp only [List.length_append] at this ⊢
        omega
      clear Ih hCut HlI hlen2
      have HNo1 : Hid ((A2 = [] ∨ B1 = []) → (p ++ A1) ++ (A2 ++ (B1 ++ (B2 ++ s))) = p ++ (A1 ++ (B1 ++ (A2 ++ (B2 ++ s))))) := fun h => by
        rcases h with rfl | rfl <;> simp only [List.append_assoc, List.nil_append]
      have HNo2 : Hid ((A1 = [] ∨ B1 = []) → SymOk p A1 B1 (A2 ++ (B2 ++ s)) (p ++ (A1 ++ (B1 ++ (A2 ++ (B2 ++ s)))))) := fun h => by
        rcases h with rfl | rfl
        · exact ⟨B1, rfl, St.mg_nil_left _⟩
        · exact ⟨A1, rfl, St.mg_nil_right _⟩
      have HNo3 : Hid (∀ C1, (A2 = [] ∨ B2 = []) → SymOk (p ++ C1) A2 B2 s ((p ++ C1) ++ (A2 ++ (B2 ++ s)))) := fun C1 h => by
        rcases h with rfl | rfl
        · exact ⟨B2, rfl, St.mg_nil_left _⟩
        · exact ⟨A2, rfl, St.mg_nil_right _⟩
      clear hs1 hs2 hs3
      go_upto_region 39 with fail
      go_cut [185] (fun c wx => c = .bool (decide (I < m ∧ m < en)) ∧ wr = wx)
      case first =>
        as_aux_lemma =>
          rcases (by omega : ((I : Int) < (m : Int) ∧ (m : Int) < (en : Int)) ∨ ¬ (I : Int) < (m : Int) ∨ ((I : Int) < (m : Int) ∧ ¬ (m : Int) < (en : Int))) with ⟨d1, d2⟩ | d1 | ⟨d1, d2⟩
          · go_wp2_with fail
            go_meet
            exact ⟨congrArg Value.bool (decide_eq_true (p := I < m ∧ m < en) (by omega)).symm, rfl⟩
          · go_wp2_with fail
            go_meet
            exact ⟨congrArg Value.bool (decide_eq_false (p := I < m ∧ m < en) (by omega)).symm, rfl⟩
          · go_wp2_with fail
            go_meet
            exact ⟨congrArg Value.bool (decide_eq_false (p := I < m ∧ m < en) (by omega)).symm, rfl⟩
      case rest =>
        obtain ⟨rfl, rfl⟩ := hcut
        go_upto_if 185 with fail
        go_cut [] (fun wx => Hid (wx.ownsRow base 52 3 (.slice (some ⟨g, 0, none⟩) N cap) N ((p ++ (A1 ++ (B1 ++ (A2 ++ (B2 ++ s))))).flatMap pointCells)) ∧ Hid (Only (fun k => k = g) w wx))
        case first =>
          as_aux_lemma =>
            by_cases hd : I < m ∧ m < en
            · have hdb : decide (I < m ∧ m < en) = true := decide_eq_true hd
              have HRw := Lib.hid (HR.out (by omega) (by omega) wr HownI.out)
              clear HR HI2 HI3 HFin HNo1 HNo2 HNo3
              rw [hdb]
              go_wp2_with fail
              refine HRw.out.mono ?_
              rintro e w4 ⟨l4, rfl, hl4, hown4, ho4, hr4⟩
              subst hr4
              have Hown4 : Hid (w4.ownsRow base 52 3 (.slice (some ⟨g, 0, none⟩) N cap) N ((p ++ (A1 ++ (B1 ++ (A2 ++ (B2 ++ s))))).flatMap pointCells)) := by
                have := hown4
                rw [List.append_assoc] at this
                exact this
              have Ho4 : Hid (Only (fun k => k = g) w w4) := ho.out.trans ho4 (fun _ _ h => h)
              clear HownI ho hown4 ho4 HRw hl4
              go_wp2_with fail
              go_meet
              exact ⟨Hown4, Ho4⟩
            · have hdb : decide (I < m ∧ m < en) = false := decide_eq_false hd
              have Hown4 : Hid (wr.ownsRow base 52 3 (.slice (some ⟨g, 0, none⟩) N cap) N ((p ++ (A1 ++ (B1 ++ (A2 ++ (B2 ++ s))))).flatMap pointCells)) := by
                rw [← HNo1.out (by
                  by_cases h : I < m
                  · exact .inr (List.eq_nil_of_length_eq_zero (by omega))
                  · exact .inl (List.eq_nil_of_length_eq_zero (by omega)))]
                exact HownI.out
              clear HR HI2 HI3 HFin HNo1 HNo2 HNo3
              rw [hdb]
              go_wp2_with fail
              go_meet
              exact ⟨Hown4, ho⟩
        case rest =>
          obtain ⟨Hown4, Ho4⟩ := hcut
          clear HR HNo1 HownI ho
          generalize wc = w4 at *
          go_upto_region 41 with fail
          go_cut [199] (fun c wx => c = .bool (decide (a < I ∧ I < mid)) ∧ w4 = wx)
          case first =>
            as_aux_lemma =>
              rcases (by omega : ((a : Int) < (I : Int) ∧ (I : Int) < (mid : Int)) ∨ ¬ (a : Int) < (I : Int) ∨ ((a : Int) < (I : Int) ∧ ¬ (I : Int) < (mid : Int))) with ⟨d1, d2⟩ | d1 | ⟨d1, d2⟩
              · go_wp2_with fail
                go_meet
                exact ⟨congrArg Value.bool (decide_eq_true (p := a < I ∧ I < mid) (by omega)).symm, rfl⟩
              · go_wp2_with fail
                go_meet
                exact ⟨congrArg Value.bool (decide_eq_false (p := a < I ∧ I < mid) (by omega)).symm, rfl⟩
              · go_wp2_with fail
                go_meet
                exact ⟨congrArg Value.bool (decide_eq_false (p := a < I ∧ I < mid) (by omega)).symm, rfl⟩
          case rest =>
            obtain ⟨rfl, rfl⟩ := hcut
            go_upto_if 199 with fail
            go_cut [] (fun wx => ∃ C1, Hid (St.Mg A1 B1 C1) ∧ Hid (wx.ownsRow base 52 3 (.slice (some ⟨g, 0, none⟩) N cap) N (((p ++ C1) ++ (A2 ++ (B2 ++ s))).flatMap pointCells)) ∧ Hid (Only (fun k => k = g) w wx))
            case first =>
              as_aux_lemma =>
                by_cases hd : a < I ∧ I < mid
                · have hdb : decide (a < I ∧ I < mid) = true := decide_eq_true hd
                  have HRw := Lib.hid (HI2.out (by omega) (by omega) w4 Hown4.out)
                  clear HI2 HI3 HFin HNo2 HNo3
                  rw [hdb]
                  go_wp2_with fail
                  refine HRw.out.mono ?_
                  rintro e w5 ⟨l5, rfl, hl5, hown5, ho5, C1, hC1, hM1⟩
                  subst hC1
                  have Hown5 : Hid (w5.ownsRow base 52 3 (.slice (some ⟨g, 0, none⟩) N cap) N (((p ++ C1) ++ (A2 ++ (B2 ++ s))).flatMap pointCells)) := by
                    rw [List.append_assoc]; exact hown5
                  have Ho5 : Hid (Only (fun k => k = g) w w5) := Ho4.out.trans ho5 (fun _ _ h => h)
                  have HM1 := Lib.hid hM1
                  clear Hown4 Ho4 hown5 ho5 HRw hl5 hM1
                  go_wp2_with fail
                  go_meet
                  exact ⟨C1, HM1, Hown5, Ho5⟩
                · have hdb : decide (a < I ∧ I < mid) = false := decide_eq_false hd
                  obtain ⟨C1, hC1, hM1⟩ := HNo2.out (by
                      by_cases h : a < I
                      · exact .inr (List.eq_nil_of_length_eq_zero (by omega))
                      · exact .inl (List.eq_nil_of_length_eq_zero (by omega)))
                  have Hown5 : Hid (w4.ownsRow base 52 3 (.slice (some ⟨g, 0, none⟩) N cap) N (((p ++ C1) ++ (A2 ++ (B2 ++ s))).flatMap pointCells)) := by
                    rw [List.append_assoc, ← hC1]; exact Hown4.out
                  have HM1 := Lib.hid hM1
                  clear HI2 HI3 HFin HNo2 HNo3 hC1 hM1
                  rw [hdb]
                  go_wp2_with fail
                  go_meet
                  exact ⟨C1, HM1, Hown5, Ho4⟩
            case rest =>
              obtain ⟨C1, HM1, Hown5, Ho5⟩ := hcut
              clear HI2 HNo2 Hown4 Ho4
              generalize wc = w5 at *
              go_upto_region 43 with fail
              go_cut [213] (fun c wx => c = .bool (decide (mid < en ∧ en < b)) ∧ w5 = wx)
              case first =>
                as_aux_lemma =>
                  rcases (by omega : ((mid : Int) < (en : Int) ∧ (en : Int) < (b : Int)) ∨ ¬ (mid : Int) < (en : Int) ∨ ((mid : Int) < (en : Int) ∧ ¬ (en : Int) < (b : Int))) with ⟨d1, d2⟩ | d1 | ⟨d1, d2⟩
                  · go_wp2_with fail
                    go_meet
                    exact ⟨congrArg Value.bool (decide_eq_true (p := mid < en ∧ en < b) (by omega)).symm, rfl⟩
                  · go_wp2_with fail
                    go_meet
                    exact ⟨congrArg Value.bool (decide_eq_false (p := mid < en ∧ en < b) (by omega)).symm, rfl⟩
                  · go_wp2_with fail
                    go_meet
                    exact ⟨congrArg Value.bool (decide_eq_false (p := mid < en ∧ en < b) (by omega)).symm, rfl⟩
              case rest =>
                obtain ⟨rfl, rfl⟩ := hcut
                by_cases hd : mid < en ∧ en < b
                · have hdb : decide (mid < en ∧ en < b) = true := decide_eq_true hd
                  have HRw := Lib.hid (HI3.out C1 HM1.out.len (by omega) (by omega) w5 Hown5.out)
                  clear HI3 HNo3
                  rw [hdb]
                  go_wp2_with fail
                  refine HRw.out.mono ?_
                  rintro e w6 ⟨l6, rfl, hl6, hown6, ho6, C2, hC2, hM2⟩
                  obtain ⟨hf1, hf2⟩ := HFin.out l6 C1 C2 hC2 HM1.out hM2
                  have Hfin := Lib.hid (And.intro hf1 (And.intro hown6 (And.intro (Ho5.out.trans ho6 (fun _ _ h => h)) hf2)))
                  clear hC2 hM2 hown6 ho6 hl6 HRw hf1 hf2 HFin HM1 Hown5 Ho5
                  go_wp2_with fail
                  go_end0
                  exact ⟨l6, rfl, Hfin.out.1, Hfin.out.2.1, Hfin.out.2.2.1, Hfin.out.2.2.2⟩
                · have hdb : decide (mid < en ∧ en < b) = false := decide_eq_false hd
                  obtain ⟨C2, hC2, hM2⟩ := HNo3.out C1 (by
                        by_cases h : mid < en
                        · exact .inr (List.eq_nil_of_length_eq_zero (by omega))
                        · exact .inl (List.eq_nil_of_length_eq_zero (by omega)))
                  obtain ⟨hf1, hf2⟩ := HFin.out _ C1 C2 hC2 HM1.out hM2
                  have Hfin := Lib.hid (And.intro hf1 (And.intro Hown5.out (And.intro Ho5.out hf2)))
                  clear hC2 hM2 HI3 HNo3 hf1 hf2 HFin HM1 Hown5 Ho5
                  rw [hdb]
                  go_wp2_with fail
                  go_end0
                  exact ⟨_, rfl, Hfin.out.1, Hfin.out.2.1, Hfin.out.2.2.1, Hfin.out.2.2.2⟩
end Go.Proofs.Ythdbmgjlegpbaaa
/- The walk through slices.symMergeCmpFunc at points: the middle lies in the second row. -/
namespace Go.Proofs.Ythdbmgjlegpbaaa
open Go.RowKit
set_option linter.unusedVariables false

set_option maxRecDepth 100000 in
set_option maxHeartbeats 8000000 in
theorem symMerge_genR (base g N cap K : Nat) (ih : SymAll base g N cap K) (p A B s : List Pt.Point) (a m b : Nat) (w : World) (hK : A.length + B.length ≤ K + 1) (hA : 2 ≤ A.length) (hB : 2 ≤ B.length) (hown : w.ownsRow base 52 3 (.slice (some ⟨g, 0, none⟩) N cap) N ((p ++ (A ++ (B ++ s))).flatMap pointCells)) (hl : (p ++ (A ++ (B ++ s))).length = N) (ha : a = p.length) (hm : m = p.length + A.length) (hb : b = p.length + A.length + B.length) (hN : N ≤ 4611686018427387904) (hbr : ¬ (a + b) / 2 < m) :
    Calls Try.prog 96 #[.slice (some ⟨g, 0, none⟩) N cap, .int .i64 (a : Int), .int .i64 (m : Int), .int .i64 (b : Int), cmpF] w (RowPost w base g N cap (SymOk p A B s)) := by
  have hlN : b ≤ N := by rw [← hl, hb]; simp only [List.length_append]; omega
  have hma : ((m : Int) - (a : Int) == 1) = false := beq_eq_false_iff_ne.2 (by omega)
  have hbm : ((b : Int) - (m : Int) == 1) = false := beq_eq_false_iff_ne.2 (by omega)
  obtain ⟨hgA, hgB⟩ := @cut_facts p A B s a m b ha hm hb
  have ha1 := Nat.le_of_eq ha
  have ha2 := Nat.le_of_eq ha.symm
  have hm1 := Nat.le_of_eq hm
  have hm2 := Nat.le_of_eq hm.symm
  have hb1 := Nat.le_of_eq hb
  have hb2 := Nat.le_of_eq hb.symm
  have HgA := Lib.hid hgA
  have HgB := Lib.hid hgB
  have H0 := Lib.hid hown
  have Hl := Lib.hid hl
  unfold SymAll cmpF at ih
  have Ih := Lib.hid ih
  obtain ⟨mid, hmid⟩ : ∃ mid, (a + b) / 2 = mid := ⟨_, rfl⟩
  have hmidI : ((a : Int) + (b : Int)) / 2 = (mid : Int) := by omega
  have hmid1 : mid * 2 ≤ a + b := by omega
  have hmid2 : a + b ≤ mid * 2 + 1 := by omega
  obtain ⟨n, hn⟩ : ∃ n, mid + m = n := ⟨_, rfl⟩
  have hnI : (mid : Int) + (m : Int) = (n : Int) := by omega
  have hn1 := Nat.le_of_eq hn
  have hn2 := Nat.le_of_eq hn.symm
  obtain ⟨pp, hpp⟩ : ∃ pp, n - 1 = pp := ⟨_, rfl⟩
  have hppI : (n : Int) - 1 = (pp : Int) := by omega
  have hp1 : pp + 1 ≤ n := by omega
  have hp2 : n ≤ pp + 1 := by omega
  rw [hmid] at hbr
  clear hown hl ha hm hb hgA hgB ih hmid hn hpp
  unfold cmpF
  have hcs : ∃ st r : Nat, a ≤ st ∧ st ≤ r ∧ r ≤ m ∧ (st = a ∨ st + b = n) ∧ (r = m ∨ r = mid) ∧ (∀ c, st ≤ c → c < r → m + c ≤ pp ∧ pp < b + c) ∧ (¬ ((mid : Int) < (m : Int)) ∧ Hid (st = a) ∧ Hid (r = m)) :=
    ⟨a, m, by omega, by omega, by omega, by omega, by omega, fun c h1 h2 => by omega, by omega, Lib.hid rfl, Lib.hid rfl⟩
  obtain ⟨st, r, hst, hsr, hrm, hsta, hrmid, hpc, hmm, Hst, Hrr⟩ := hcs
  have HC := Lib.hid (And.intro hsta (And.intro hrmid hpc))
  clear hsta hrmid hpc hbr
  go_enter Try.func96, Try.ntmps96
  go_wp2_with fail
  go_loopw [20, 21, 23] (fun u v _ wr => ∃ I J : Nat, st ≤ I ∧ I ≤ J ∧ J ≤ r ∧ u = .int .i64 (I : Int) ∧ v = .int .i64 (J : Int) ∧ Hid (st < I → ∃ q1 q2, B[pp - (I - 1) - m]? = some q1 ∧ A[I - 1 - a]? = some q2 ∧ 0 ≤ Pt.cmpP q1 q2) ∧ Hid (J < r → ∃ q1 q2, B[pp - J - m]? = some q1 ∧ A[J - a]? = some q2 ∧ Pt.cmpP q1 q2 < 0) ∧ Hid (wr.ownsRow base 52 3 (.slice (some ⟨g, 0, none⟩) N cap) N ((p ++ (A ++ (B ++ s))).flatMap pointCells)) ∧ Hid (Only (fun k => k = g) w wr)) (fun u v _ _ => (intOf v).toNat - (intOf u).toNat)
  case atStart => exact ⟨st, r, Nat.le_refl _, hsr, Nat.le_refl _, by first | rfl | rw [Hst.out], by first | rfl | rw [Hrr.out], Lib.hid (fun h => absurd h (by omega)), Lib.hid (fun h => absurd h (by omega)), H0, Lib.hid (Only.refl _ _)⟩
  case round =>
    obtain ⟨I, J, hI, hIJ, hJ, rfl, rfl, hlo, hhi, hown, ho⟩ := hrel
    by_cases hlt : I < J
    · have hltI : (I : Int) < (J : Int) := by omega
      obtain ⟨h, hh⟩ : ∃ h, (I + J) / 2 = h := ⟨_, rfl⟩
      have hhI : ((I : Int) + (J : Int)) / 2 = (h : Int) := by omega
      have hh1 : I ≤ h ∧ h < J := by omega
      obtain ⟨hc1, hc2⟩ := HC.out.2.2 h (by omega) (by omega)
      obtain ⟨e, he⟩ : ∃ e, pp - h = e := ⟨_, rfl⟩
      have heI : (pp : Int) - (h : Int) = (e : Int) := by omega
      have hem : m ≤ e ∧ e < b := by omega
      obtain ⟨q1, hq1, hq1B⟩ := HgB.out e hem.1 hem.2
      obtain ⟨q2, hq2, hq2A⟩ := HgA.out h (by omega) (by omega)
      have hhn0 : (0 : Int) ≤ (h : Int) := by omega
      have hhn1 : (h : Int) < (N : Int) := by omega
      have hen0 : (0 : Int) ≤ (e : Int) := by omega
      have hen1 : (e : Int) < (N : Int) := by omega
      have hap := fun x : Aft wr.heap.size wr => pt_aft hown.out hq1 x
      have haq := fun x : Aft wr.heap.size wr => pt_aft hown.out hq2 x
      have H1 := fun W => Lib.hid (compare_any q1 q2 W)
      rw [← he] at hq1B
      have HB := Lib.hid hq1B
      have HA := Lib.hid hq2A
      clear hq1 hq2 hq1B hq2A hh he
      obtain ⟨xn, xt, xv⟩ := q1
      obtain ⟨qn, qt, qv⟩ := q2
      simp only at hap haq
      have x0 := fun x => (hap x).1
      have x1 := fun x => (hap x).2.1
      have x2 := fun x => (hap x).2.2
      have y0 := fun x => (haq x).1
      have y1 := fun x => (haq x).2.1
      have y2 := fun x => (haq x).2.2
      clear hap haq
      by_cases hc : Pt.cmpP (xn, xt, xv) (qn, qt, qv) < 0
      · as_aux_lemma =>
          have hhi2 : Hid (h < r → ∃ q1 q2, B[pp - h - m]? = some q1 ∧ A[h - a]? = some q2 ∧ Pt.cmpP q1 q2 < 0) := fun _ => ⟨_, _, HB.out, HA.out, hc⟩
          have hdc : decide (Pt.cmpP (xn, xt, xv) (qn, qt, qv) < 0) = true := decide_eq_true hc
          clear hhi
          generalize Pt.cmpP (xn, xt, xv) (qn, qt, qv) = cv at *
          go_wp2_with fail
          refine wp_region_aft wr.heap.size wr (by kernel_rfl) (by kernel_rfl) (Below.refl _ _) ?_
          repeat (go_big_quiet_step (first | (go_at_call 57; with_reducible exact aft_new (Nat.le_refl _) (Hid.out (H1 _)))))
          refine wpQuiet_nil ?_
          rintro _ ⟨x, rfl⟩
          have Hox : Hid (Only (fun k => k = g) w x.world) := ho.out.trans (Only.new (fun _ => False) x.below) (fun _ _ q => q.elim)
          have Hownx := Lib.hid (own_only hown.out (Only.new (fun _ => False) x.below) (fun _ _ q => q))
          clear x0 x1 x2 y0 y1 y2 hown ho H1
          generalize x.world = w3 at *
          go_wp2_with fail
          go_roundw
          case rel => exact ⟨I, h, hI, by omega, by omega, rfl, rfl, hlo, hhi2, Hownx, Hox⟩
          case measure => simp [intOf]; omega
      · as_aux_lemma =>
          have hlo2 : Hid (st < h + 1 → ∃ q1 q2, B[pp - (h + 1 - 1) - m]? = some q1 ∧ A[h + 1 - 1 - a]? = some q2 ∧ 0 ≤ Pt.cmpP q1 q2) := fun _ => ⟨_, _, HB.out, HA.out, by omega⟩
          have hdc : decide (Pt.cmpP (xn, xt, xv) (qn, qt, qv) < 0) = false := decide_eq_false hc
          clear hlo
          generalize Pt.cmpP (xn, xt, xv) (qn, qt, qv) = cv at *
          go_wp2_with fail
          refine wp_region_aft wr.heap.size wr (by kernel_rfl) (by kernel_rfl) (Below.refl _ _) ?_
          repeat (go_big_quiet_step (first | (go_at_call 57; with_reducible exact aft_new (Nat.le_refl _) (Hid.out (H1 _)))))
          refine wpQuiet_nil ?_
          rintro _ ⟨x, rfl⟩
          have Hox : Hid (Only (fun k => k = g) w x.world) := ho.out.trans (Only.new (fun _ => False) x.below) (fun _ _ q => q.elim)
          have Hownx := Lib.hid (own_only hown.out (Only.new (fun _ => False) x.below) (fun _ _ q => q))
          clear x0 x1 x2 y0 y1 y2 hown ho H1
          generalize x.world = w3 at *
          go_wp2_with fail
          go_roundw
          case rel => exact ⟨h + 1, J, by omega, by omega, hJ, by go_num, rfl, hlo2, hhi, Hownx, Hox⟩
          case measure => simp [intOf]; omega
    · obtain rfl : I = J := by omega
      have hltI : ¬ (I : Int) < (I : Int) := by omega
      obtain ⟨hC1, hC2, _⟩ := HC.out
      obtain ⟨en, hen⟩ : ∃ en, n - I = en := ⟨_, rfl⟩
      have hIn : I ≤ n := by omega
      have henI : (n : Int) - (I : Int) = (en : Int) := by omega
      have hen1 : en + I ≤ n ∧ n ≤ en + I := by omega
      have henb : m ≤ en ∧ en ≤ b := by have h1 := Hrr.out; have h2 := Hst.out; omega
      obtain ⟨i, hi⟩ : ∃ i, I - a = i := ⟨_, rfl⟩
      obtain ⟨j, hj⟩ : ∃ j, en - m = j := ⟨_, rfl⟩
      have hi1 : i + a ≤ I ∧ I ≤ i + a := by omega
      have hj1 : j + m ≤ en ∧ en ≤ j + m := by omega
      have hiA : i ≤ A.length := by omega
      have hjB : j ≤ B.length := by omega
      have hCut : Hid (∀ C1 C2, St.Mg (A.take i) (B.take j) C1 → St.Mg (A.drop i) (B.drop j) C2 → St.Mg A B (C1 ++ C2)) := fun C1 C2 h1 h2 => by
        refine St.mg_cut hiA hjB (fun g1 g2 => ?_) (fun g1 g2 => ?_) h1 h2
        · obtain ⟨q1, q2, e1, e2, e3⟩ := hlo.out (by omega)
          rw [show pp - (I - 1) - m = j from by omega, List.getElem?_eq_getElem g2] at e1
          rw [show I - 1 - a = i - 1 from by omega, List.getElem?_eq_getElem (by omega)] at e2
          injection e1 with e1
          injection e2 with e2
          rw [e1, e2]; omega
        · obtain ⟨q1, q2, e1, e2, e3⟩ := hhi.out (by omega)
          rw [show pp - I - m = j - 1 from by omega, List.getElem?_eq_getElem (by omega)] at e1
          rw [show I - a = i from hi, List.getElem?_eq_getElem g1] at e2
          injection e1 with e1
          injection e2 with e2
          rw [e1, e2]; exact e3
      have hlists : p ++ (A ++ (B ++ s)) = (p ++ A.take i) ++ (A.drop i ++ (B.take j ++ (B.drop j ++ s))) := by
        have e1 : A = A.take i ++ A.drop i := (List.take_append_drop i A).symm
        have e2 : B = B.take j ++ B.drop j := (List.take_append_drop j B).symm
        rw [show p ++ (A ++ (B ++ s)) = p ++ ((A.take i ++ A.drop i) ++ ((B.take j ++ B.drop j) ++ s)) from by rw [← e1, ← e2]]
        simp only [List.append_assoc]
      have l1 : (A.take i).length = i := by rw [List.length_take]; omega
      have l2 : (A.drop i).length = A.length - i := List.length_drop
      have l3 : (B.take j).length = j := by rw [List.length_take]; omega
      have l4 : (B.drop j).length = B.length - j := List.length_drop
      have HownI : Hid (wr.ownsRow base 52 3 (.slice (some ⟨g, 0, none⟩) N cap) N (((p ++ A.take i) ++ (A.drop i ++ (B.take j ++ (B.drop j ++ s)))).flatMap pointCells)) := by rw [← hlists]; exact hown.out
      have HlI : Hid (((p ++ A.take i) ++ (A.drop i ++ (B.take j ++ (B.drop j ++ s)))).length = N) := by rw [← hlists]; exact Hl.out
      have lA1 := Nat.le_of_eq l1
      have lA1' := Nat.le_of_eq l1.symm
      have lA2 := Nat.le_of_eq l2
      have lA2' := Nat.le_of_eq l2.symm
      have lB1 := Nat.le_of_eq l3
      have lB1' := Nat.le_of_eq l3.symm
      have lB2 := Nat.le_of_eq l4
      have lB2' := Nat.le_of_eq l4.symm
      clear hlo hhi HgA HgB HC hC1 hC2 hen hi hj hlists l1 l2 l3 l4 hown H0 Hl
      generalize A.take i = A1 at *
      generalize A.drop i = A2 at *
      generalize B.take j = B1 at *
      generalize B.drop j = B2 at *
      have hs1 : ((I : Int) < (m : Int) ∧ (m : Int) < (en : Int)) ∨ ¬ (I : Int) < (m : Int) ∨ ((I : Int) < (m : Int) ∧ ¬ (m : Int) < (en : Int)) := by omega
      have hs2 : ((a : Int) < (I : Int) ∧ (I : Int) < (mid : Int)) ∨ ¬ (a : Int) < (I : Int) ∨ ((a : Int) < (I : Int) ∧ ¬ (I : Int) < (mid : Int)) := by omega
      have hs3 : ((mid : Int) < (en : Int) ∧ (en : Int) < (b : Int)) ∨ ¬ (mid : Int) < (en : Int) ∨ ((mid : Int) < (en : Int) ∧ ¬ (en : Int) < (b : Int)) := by omega
      have HR := Lib.hid (fun (h1 : 0 < A2.length) (h2 : 0 < B1.length) W hw => rotate_any base g N cap (p ++ A1) A2 B1 (B2 ++ s) I m en (.func (.func 57) #[] #[]) W hw HlI.out (by rw [List.length_append]; omega) (by rw [List.length_append]; omega) (by rw [List.length_append]; omega) h1 h2 (by omega))
      have hlen2 : (p ++ (A1 ++ (B1 ++ (A2 ++ (B2 ++ s))))).length = N := by
        have := HlI.out
        simp only [List.length_append] at this ⊢
        omega
      have HI2 := Lib.hid (fun (h1 : 0 < A1.length) (h2 : 0 < B1.length) W hw => Ih.out p A1 B1 (A2 ++ (B2 ++ s)) a I mid W (by omega) h1 h2 hw hlen2 (by omega) (by omega) (by omega))
      have HI3 : Hid (∀ C1 : List Pt.Point, C1.length = A1.length + B1.length → 0 < A2.length → 0 < B2.length → ∀ W, W.ownsRow base 52 3 (.slice (some ⟨g, 0, none⟩) N cap) N (((p ++ C1) ++ (A2 ++ (B2 ++ s))).flatMap pointCells) → Calls Try.prog 96 #[.slice (some ⟨g, 0, none⟩) N cap, .int .i64 (mid : Int), .int .i64 (en : Int), .int .i64 (b : Int), .func (.func 57) #[] #[]] W (RowPost W base g N cap (SymOk (p ++ C1) A2 B2 s))) := fun C1 hC h1 h2 W hw =>
        Ih.out (p ++ C1) A2 B2 s mid en b W (by omega) h1 h2 hw (by have := hlen2; simp only [List.length_append] at this ⊢; omega) (by rw [List.length_append]; omega) (by rw [List.length_append]; omega) (by rw [List.length_append]; omega)
      have HFin : Hid (∀ l' C1 C2, l' = (p ++ C1) ++ (C2 ++ s) → St.Mg A1 B1 C1 → St.Mg A2 B2 C2 → l'.length = N ∧ SymOk p A B s l') := fun l' C1 C2 h h1 h2 => by
        have hm := hCut.out C1 C2 h1 h2
        refine ⟨?_, C1 ++ C2, by rw [h]; simp only [List.append_assoc], hm⟩
        rw [h]
        have := hlen2
        have e1 := h1.len
        have e2 := h2.len
        simp only [List.length_append] at this ⊢
        omega
      clear Ih hCut HlI hlen2
      have HNo1 : Hid ((A2 = [] ∨ B1 = []) → (p ++ A1) ++ (A2 ++ (B1 ++ (B2 ++ s))) = p ++ (A1 ++ (B1 ++ (A2 ++ (B2 ++ s))))) := fun h => by
        rcases h with rfl | rfl <;> simp only [List.append_assoc, List.nil_append]
      have HNo2 : Hid ((A1 = [] ∨ B1 = []) → SymOk p A1 B1 (A2 ++ (B2 ++ s)) (p ++ (A1 ++ (B1 ++ (A2 ++ (B2 ++ s)))))) := fun h => by
        rcases h with rfl | rfl
        · exact ⟨B1, rfl, St.mg_nil_left _⟩
        · exact ⟨A1, rfl, St.mg_nil_right _⟩
      have HNo3 : Hid (∀ C1, (A2 = [] ∨ B2 = []) → SymOk (p ++ C1) A2 B2 s ((p ++ C1) ++ (A2 ++ (B2 ++ s)))) := fun C1 h => by
        rcases h with rfl | rfl
        · exact ⟨B2, rfl, St.mg_nil_left _⟩
        · exact ⟨A2, rfl, St.mg_nil_right _⟩
      clear hs1 hs2 hs3
      go_upto_region 39 with fail
      go_cut [185] (fun c wx => c = .bool (decide (I < m ∧ m < en)) ∧ wr = wx)
      case first =>
        as_aux_lemma =>
          rcases (by omega : ((I : Int) < (m : Int) ∧ (m : Int) < (en : Int)) ∨ ¬ (I : Int) < (m : Int) ∨ ((I : Int) < (m : Int) ∧ ¬ (m : Int) < (en : Int))) with ⟨d1, d2⟩ | d1 | ⟨d1, d2⟩
          · go_wp2_with fail
            go_meet
            exact ⟨congrArg Value.bool (decide_eq_true (p := I < m ∧ m < en) (by omega)).symm, rfl⟩
          · go_wp2_with fail
            go_meet
            exact ⟨congrArg Value.bool (decide_eq_false (p := I < m ∧ m < en) (by omega)).symm, rfl⟩
          · go_wp2_with fail
            go_meet
            exact ⟨congrArg Value.bool (decide_eq_false (p := I < m ∧ m < en) (by omega)).symm, rfl⟩
      case rest =>
        obtain ⟨rfl, rfl⟩ := hcut
        go_upto_if 185 with fail
        go_cut [] (fun wx => Hid (wx.ownsRow base 52 3 (.slice (some ⟨g, 0, none⟩) N cap) N ((p ++ (A1 ++ (B1 ++ (A2 ++ (B2 ++ s))))).flatMap pointCells)) ∧ Hid (Only (fun k => k = g) w wx))
        case first =>
          as_aux_lemma =>
            by_cases hd : I < m ∧ m < en
            · have hdb : decide (I < m ∧ m < en) = true := decide_eq_true hd
              have HRw := Lib.hid (HR.out (by omega) (by omega) wr HownI.out)
              clear HR HI2 HI3 HFin HNo1 HNo2 HNo3
              rw [hdb]
              go_wp2_with fail
              refine HRw.out.mono ?_
              rintro e w4 ⟨l4, rfl, hl4, hown4, ho4, hr4⟩
              subst hr4
              have Hown4 : Hid (w4.ownsRow base 52 3 (.slice (some ⟨g, 0, none⟩) N cap) N ((p ++ (A1 ++ (B1 ++ (A2 ++ (B2 ++ s))))).flatMap pointCells)) := by
                have := hown4
                rw [List.append_assoc] at this
                exact this
              have Ho4 : Hid (Only (fun k => k = g) w w4) := ho.out.trans ho4 (fun _ _ h => h)
              clear HownI ho hown4 ho4 HRw hl4
              go_wp2_with fail
              go_meet
              exact ⟨Hown4, Ho4⟩
            · have hdb : decide (I < m ∧ m < en) = false := decide_eq_false hd
              have Hown4 : Hid (wr.ownsRow base 52 3 (.slice (some ⟨g, 0, none⟩) N cap) N ((p ++ (A1 ++ (B1 ++ (A2 ++ (B2 ++ s))))).flatMap pointCells)) := by
                rw [← HNo1.out (by
                  by_cases h : I < m
                  · exact .inr (List.eq_nil_of_length_eq_zero (by omega))
                  · exact .inl (List.eq_nil_of_length_eq_zero (by omega)))]
                exact HownI.out
              clear HR HI2 HI3 HFin HNo1 HNo2 HNo3
              rw [hdb]
              go_wp2_with fail
              go_meet
              exact ⟨Hown4, ho⟩
        case rest =>
          obtain ⟨Hown4, Ho4⟩ := hcut
          clear HR HNo1 HownI ho
          generalize wc = w4 at *
          go_upto_region 41 with fail
          go_cut [199] (fun c wx => c = .bool (decide (a < I ∧ I < mid)) ∧ w4 = wx)
          case first =>
            as_aux_lemma =>
              rcases (by omega : ((a : Int) < (I : Int) ∧ (I : Int) < (mid : Int)) ∨ ¬ (a : Int) < (I : Int) ∨ ((a : Int) < (I : Int) ∧ ¬ (I : Int) < (mid : Int))) with ⟨d1, d2⟩ | d1 | ⟨d1, d2⟩
              · go_wp2_with fail
                go_meet
                exact ⟨congrArg Value.bool (decide_eq_true (p := a < I ∧ I < mid) (by omega)).symm, rfl⟩
              · go_wp2_with fail
                go_meet
                exact ⟨congrArg Value.bool (decide_eq_false (p := a < I ∧ I < mid) (by omega)).symm, rfl⟩
              · go_wp2_with fail
                go_meet
                exact ⟨congrArg Value.bool (decide_eq_false (p := a < I ∧ I < mid) (by omega)).symm, rfl⟩
          case rest =>
            obtain ⟨rfl, rfl⟩ := hcut
            go_upto_if 199 with fail
            go_cut [] (fun wx => ∃ C1, Hid (St.Mg A1 B1 C1) ∧ Hid (wx.ownsRow base 52 3 (.slice (some ⟨g, 0, none⟩) N cap) N (((p ++ C1) ++ (A2 ++ (B2 ++ s))).flatMap pointCells)) ∧ Hid (Only (fun k => k = g) w wx))
            case first =>
              as_aux_lemma =>
                by_cases hd : a < I ∧ I < mid
                · have hdb : decide (a < I ∧ I < mid) = true := decide_eq_true hd
                  have HRw := Lib.hid (HI2.out (by omega) (by omega) w4 Hown4.out)
                  clear HI2 HI3 HFin HNo2 HNo3
                  rw [hdb]
                  go_wp2_with fail
                  refine HRw.out.mono ?_
                  rintro e w5 ⟨l5, rfl, hl5, hown5, ho5, C1, hC1, hM1⟩
                  subst hC1
                  have Hown5 : Hid (w5.ownsRow base 52 3 (.slice (some ⟨g, 0, none⟩) N cap) N (((p ++ C1) ++ (A2 ++ (B2 ++ s))).flatMap pointCells)) := by
                    rw [List.append_assoc]; exact hown5
                  have Ho5 : Hid (Only (fun k => k = g) w w5) := Ho4.out.trans ho5 (fun _ _ h => h)
                  have HM1 := Lib.hid hM1
                  clear Hown4 Ho4 hown5 ho5 HRw hl5 hM1
                  go_wp2_with fail
                  go_meet
                  exact ⟨C1, HM1, Hown5, Ho5⟩
                · have hdb : decide (a < I ∧ I < mid) = false := decide_eq_false hd
                  obtain ⟨C1, hC1, hM1⟩ := HNo2.out (by
                      by_cases h : a < I
                      · exact .inr (List.eq_nil_of_length_eq_zero (by omega))
                      · exact .inl (List.eq_nil_of_length_eq_zero (by omega)))
                  have Hown5 : Hid (w4.ownsRow base 52 3 (.slice (some ⟨g, 0, none⟩) N cap) N (((p ++ C1) ++ (A2 ++ (B2 ++ s))).flatMap pointCells)) := by
                    rw [List.append_assoc, ← hC1]; exact Hown4.out
                  have HM1 := Lib.hid hM1
                  clear HI2 HI3 HFin HNo2 HNo3 hC1 hM1
                  rw [hdb]
                  go_wp2_with fail
                  go_meet
                  exact ⟨C1, HM1, Hown5, Ho4⟩
            case rest =>
              obtain ⟨C1, HM1, Hown5, Ho5⟩ := hcut
              clear HI2 HNo2 Hown4 Ho4
              generalize wc = w5 at *
              go_upto_region 43 with fail
              go_cut [213] (fun c wx => c = .bool (decide (mid < en ∧ en < b)) ∧ w5 = wx)
              case first =>
                as_aux_lemma =>
                  rcases (by omega : ((mid : Int) < (en : Int) ∧ (en : Int) < (b : Int)) ∨ ¬ (mid : Int) < (en : Int) ∨ ((mid : Int) < (en : Int) ∧ ¬ (en : Int) < (b : Int))) with ⟨d1, d2⟩ | d1 | ⟨d1, d2⟩
                  · go_wp2_with fail
                    go_meet
                    exact ⟨congrArg Value.bool (decide_eq_true (p := mid < en ∧ en < b) (by omega)).symm, rfl⟩
                  · go_wp2_with fail
                    go_meet
                    exact ⟨congrArg Value.bool (decide_eq_false (p := mid < en ∧ en < b) (by omega)).symm, rfl⟩
                  · go_wp2_with fail
                    go_meet
                    exact ⟨congrArg Value.bool (decide_eq_false (p := mid < en ∧ en < b) (by omega)).symm, rfl⟩
              case rest =>
                obtain ⟨rfl, rfl⟩ := hcut
                by_cases hd : mid < en ∧ en < b
                · have hdb : decide (mid < en ∧ en < b) = true := decide_eq_true hd
                  have HRw := Lib.hid (HI3.out C1 HM1.out.len (by omega) (by omega) w5 Hown5.out)
                  clear HI3 HNo3
                  rw [hdb]
                  go_wp2_with fail
                  refine HRw.out.mono ?_
                  rintro e w6 ⟨l6, rfl, hl6, hown6, ho6, C2, hC2, hM2⟩
                  obtain ⟨hf1, hf2⟩ := HFin.out l6 C1 C2 hC2 HM1.out hM2
                  have Hfin := Lib.hid (And.intro hf1 (And.intro hown6 (And.intro (Ho5.out.trans ho6 (fun _ _ h => h)) hf2)))
                  clear hC2 hM2 hown6 ho6 hl6 HRw hf1 hf2 HFin HM1 Hown5 Ho5
                  go_wp2_with fail
                  go_end0
                  exact ⟨l6, rfl, Hfin.out.1, Hfin.out.2.1, Hfin.out.2.2.1, Hfin.out.2.2.2⟩
                · have hdb : decide (mid < en ∧ en < b) = false := decide_eq_false hd
                  obtain ⟨C2, hC2, hM2⟩ := HNo3.out C1 (by
                        by_cases h : mid < en
                        · exact .inr (List.eq_nil_of_length_eq_zero (by omega))
                        · exact .inl (List.eq_nil_of_length_eq_zero (by omega)))
                  obtain ⟨hf1, hf2⟩ := HFin.out _ C1 C2 hC2 HM1.out hM2
                  have Hfin := Lib.hid (And.intro hf1 (And.intro Hown5.out (And.intro Ho5.out hf2)))
                  clear hC2 hM2 HI3 HNo3 hf1 hf2 HFin HM1 Hown5 Ho5
                  rw [hdb]
                  go_wp2_with fail
                  go_end0
                  exact ⟨_, rfl, Hfin.out.1, Hfin.out.2.1, Hfin.out.2.2.1, Hfin.out.2.2.2⟩
end Go.Proofs.Ythdbmgjlegpbaaa
/- The walk through slices.symMergeCmpFunc at points, whole. -/
namespace Go.Proofs.Ythdbmgjlegpbaaa
open Go.RowKit
set_option linter.unusedVariables false

theorem symMerge_any (base g N cap : Nat) (hN : N ≤ 4611686018427387904) (K : Nat) : SymAll base g N cap K := by
  induction K with
  | zero => intro p A B s a m b w hK hA; omega
  | succ K ih =>
    intro p A B s a m b w hK hA hB hown hl ha hm hb
    by_cases h1 : A.length = 1
    · obtain ⟨x, rfl⟩ := List.length_eq_one_iff.1 h1
      exact symMerge_oneA base g N cap p B s x a m b w hown hl ha hm hb hN
    · by_cases h2 : B.length = 1
      · obtain ⟨y, rfl⟩ := List.length_eq_one_iff.1 h2
        exact symMerge_oneB base g N cap p A s y a m b w hown hl ha (by omega) hm hb hN
      · by_cases h3 : (a + b) / 2 < m
        · exact symMerge_genL base g N cap K ih p A B s a m b w hK (by omega) (by omega) hown hl ha hm hb hN h3
        · exact symMerge_genR base g N cap K ih p A B s a m b w hK (by omega) (by omega) hown hl ha hm hb hN h3
end Go.Proofs.Ythdbmgjlegpbaaa
/- The walks through slices.stableCmpFunc and SortStableFunc at points. -/
namespace Go.Proofs.Ythdbmgjlegpbaaa
open Go.RowKit
set_option linter.unusedVariables false
namespace St
def sg (l : List Pt.Point) (x k : Nat) : List Pt.Point := (l.drop x).take k
theorem sg_len {l : List Pt.Point} {x k : Nat} (h : x + k ≤ l.length) : (sg l x k).length = k := by unfold sg; rw [List.length_take, List.length_drop]; omega
theorem sg_pre {p r : List Pt.Point} {x k : Nat} (h : x + k ≤ p.length) : sg (p ++ r) x k = sg p x k := by
  unfold sg
  rw [List.drop_append_of_le_length (by omega), List.take_append_of_le_length (by rw [List.length_drop]; omega)]
theorem sg_mid (p u s : List Pt.Point) : sg (p ++ (u ++ s)) p.length u.length = u := by
  unfold sg
  rw [List.drop_left, List.take_left]
theorem sg_post {p u u' s : List Pt.Point} {x k : Nat} (hl : u'.length = u.length) (h : p.length + u.length ≤ x) : sg (p ++ (u ++ s)) x k = sg (p ++ (u' ++ s)) x k := by
  have e : ∀ v : List Pt.Point, v.length = u.length → (p ++ (v ++ s)).drop x = s.drop (x - p.length - u.length) := fun v hv => by
    rw [List.drop_append, List.drop_eq_nil_of_le (by omega), List.nil_append, List.drop_append, List.drop_eq_nil_of_le (by omega), List.nil_append, hv]
  unfold sg
  rw [e u rfl, e u' hl]
theorem sg_end {l : List Pt.Point} {x k : Nat} (h : l.length ≤ x) : sg l x k = [] := by unfold sg; rw [List.drop_eq_nil_of_le h]; exact List.take_nil
theorem sg_tail {l : List Pt.Point} {x k k' : Nat} (h : l.length ≤ x + k) (h' : l.length ≤ x + k') : sg l x k = sg l x k' := by
  unfold sg
  rw [List.take_of_length_le (by rw [List.length_drop]; omega), List.take_of_length_le (by rw [List.length_drop]; omega)]
theorem cut3 (l : List Pt.Point) (a k : Nat) : l = l.take a ++ (sg l a k ++ l.drop (a + k)) := by
  unfold sg
  rw [show l.drop (a + k) = (l.drop a).drop k from by rw [List.drop_drop], List.take_append_drop, List.take_append_drop]
theorem cut4 (l : List Pt.Point) (a k k' : Nat) : l = l.take a ++ (sg l a k ++ (sg l (a + k) k' ++ l.drop (a + k + k'))) := by
  have h := cut3 l a k
  have h2 : l.drop (a + k) = sg l (a + k) k' ++ l.drop (a + k + k') := by
    unfold sg
    rw [show l.drop (a + k + k') = (l.drop (a + k)).drop k' from by rw [List.drop_drop], List.take_append_drop]
  rw [← h2]
  exact h
/-- l with other points from a on -/
def pt_ (l : List Pt.Point) (a k : Nat) (u : List Pt.Point) : List Pt.Point := l.take a ++ (u ++ l.drop (a + k))
theorem put_sg {l u : List Pt.Point} {a k : Nat} (h : a + k ≤ l.length) (hu : u.length = k) : (pt_ l a k u).length = l.length ∧ sg (pt_ l a k u) a k = u ∧ (∀ x j, x + j ≤ a → sg (pt_ l a k u) x j = sg l x j) ∧ (∀ x j, a + k ≤ x → sg (pt_ l a k u) x j = sg l x j) := by
  have hp : (l.take a).length = a := by rw [List.length_take]; omega
  have hs := sg_len h
  have hc := cut3 l a k
  refine ⟨?_, ?_, fun x j hx => ?_, fun x j hx => ?_⟩
  · unfold pt_
    simp only [List.length_append, List.length_take, List.length_drop]
    omega
  · have := sg_mid (l.take a) u (l.drop (a + k))
    rw [hp, hu] at this
    exact this
  · unfold pt_
    rw [sg_pre (by omega)]
    have e : sg l x j = sg (l.take a ++ (sg l a k ++ l.drop (a + k))) x j := by rw [← hc]
    rw [e, sg_pre (by omega)]
  · unfold pt_
    have e : sg l x j = sg (l.take a ++ (sg l a k ++ l.drop (a + k))) x j := by rw [← hc]
    rw [e]
    exact sg_post (by omega) (by omega)
theorem put_stab {l u : List Pt.Point} {a k : Nat} (h : Stab (sg l a k) u) : Stab l (pt_ l a k u) := by
  have : Stab (l.take a ++ (sg l a k ++ l.drop (a + k))) (pt_ l a k u) := (Stab.refl _).append (h.append (Stab.refl _))
  rwa [← cut3] at this
/-- in blocks of k each ascending -/
def Bk (k : Nat) (l : List Pt.Point) : Prop := ∀ i, Asc (sg l (i * k) k)
/-- the first t blocks of k ascending -/
def Bt (k t : Nat) (l : List Pt.Point) : Prop := ∀ i, i < t → Asc (sg l (i * k) k)
theorem mul_lt {i t k : Nat} (h : i < t) : i * k + k ≤ t * k := by
  have := Nat.mul_le_mul_right k (Nat.succ_le_of_lt h)
  rwa [Nat.succ_mul] at this
theorem bt_put {l u : List Pt.Point} {k t a : Nat} (ha : a = t * k) (h : a + k ≤ l.length) (hu : u.length = k) (hb : Bt k t l) (hs : Asc u) : Bt k (t + 1) (pt_ l a k u) := fun i hi => by
  obtain ⟨_, h1, h2, _⟩ := put_sg h hu
  by_cases e : i = t
  · subst e; rw [← ha, h1]; exact hs
  · have := mul_lt (k := k) (show i < t by omega)
    rw [h2 _ _ (by omega)]
    exact hb i (by omega)
/-- the last block, shorter -/
theorem bk_last {l u : List Pt.Point} {k t a j : Nat} (ha : a = t * k) (h : a + j = l.length) (hj : j ≤ k) (hu : u.length = j) (hb : Bt k t l) (hs : Asc u) : Bk k (pt_ l a j u) := fun i => by
  obtain ⟨h0, h1, h2, _⟩ := put_sg (Nat.le_of_eq h) hu
  rcases Nat.lt_trichotomy i t with e | e | e
  · have := mul_lt (k := k) e
    rw [h2 _ _ (by omega)]
    exact hb i e
  · subst e
    rw [← ha, sg_tail (k' := j) (by omega) (by omega), h1]; exact hs
  · have := mul_lt (k := k) e
    by_cases hk : k = 0
    · subst hk; unfold sg; exact asc_nil
    · rw [sg_end (by omega)]; exact asc_nil
theorem bk_stay {l : List Pt.Point} {k t a : Nat} (ha : a = t * k) (h : l.length ≤ a + k) (hb : Bt k t l) (hs : Asc (sg l a k)) : Bk k l := fun i => by
  rcases Nat.lt_trichotomy i t with e | e | e
  · exact hb i e
  · subst e; rw [← ha]; exact hs
  · have := mul_lt (k := k) e
    rw [sg_end (by omega)]; exact asc_nil
theorem bk_all {l : List Pt.Point} {k : Nat} (h : Bk k l) (hk : l.length ≤ k) : Asc l := by
  have := h 0
  unfold sg at this
  rwa [Nat.zero_mul, List.drop_zero, List.take_of_length_le hk] at this
/-- the blocks of k from 2 * t on -/
def Br (k t : Nat) (l : List Pt.Point) : Prop := ∀ i, 2 * t ≤ i → Asc (sg l (i * k) k)
theorem br_put {l u : List Pt.Point} {k t a : Nat} (ha : a = t * (2 * k)) (h : a + 2 * k ≤ l.length) (hu : u.length = 2 * k) (hb : Br k t l) : Br k (t + 1) (pt_ l a (2 * k) u) := fun i hi => by
  obtain ⟨_, _, _, h3⟩ := put_sg h hu
  have e : a + 2 * k ≤ i * k := by
    have := Nat.mul_le_mul_right k (show 2 * (t + 1) ≤ i from hi)
    have e2 : 2 * (t + 1) * k = t * (2 * k) + 2 * k := by
      rw [Nat.mul_add, Nat.add_mul, Nat.mul_comm 2 t, Nat.mul_assoc]
    omega
  rw [h3 _ _ e]
  exact hb i (by omega)
theorem br_two {l : List Pt.Point} {k t a : Nat} (ha : a = t * (2 * k)) (hb : Br k t l) : Asc (sg l a k) ∧ Asc (sg l (a + k) k) := by
  have e1 : 2 * t * k = a := by rw [ha, Nat.mul_comm 2 t, Nat.mul_assoc]
  have h1 := hb (2 * t) (Nat.le_refl _)
  have h2 := hb (2 * t + 1) (by omega)
  rw [e1] at h1
  rw [Nat.add_mul, e1, Nat.one_mul] at h2
  exact ⟨h1, h2⟩
end St
set_option maxRecDepth 100000 in
set_option maxHeartbeats 4000000 in
theorem stable_any (base g N cap : Nat) (l : List Pt.Point) (w : World) (hown : w.ownsRow base 52 3 (.slice (some ⟨g, 0, none⟩) N cap) N (l.flatMap pointCells)) (hl : l.length = N) (hN : N ≤ 1125899906842624) :
    Calls Try.prog 80 #[.slice (some ⟨g, 0, none⟩) N cap, .int .i64 (N : Int), cmpF] w (RowPost w base g N cap (fun l' => St.Asc l' ∧ St.Stab l l')) := by
  have H0 := Lib.hid hown
  have HI : Hid (∀ (l1 : List Pt.Point) (a k b : Nat) (W : World), l1.length = N → a + k ≤ N → b = a + k → W.ownsRow base 52 3 (.slice (some ⟨g, 0, none⟩) N cap) N (l1.flatMap pointCells) → Calls Try.prog 95 #[.slice (some ⟨g, 0, none⟩) N cap, .int .i64 (a : Int), .int .i64 (b : Int), .func (.func 57) #[] #[]] W (RowPost W base g N cap (fun l' => ∃ u, l' = St.pt_ l1 a k u ∧ u.length = k ∧ St.Asc u ∧ St.Stab l1 l'))) := fun l1 a k b W h1 h2 h3 h4 => by
    have hp : (l1.take a).length = a := by rw [List.length_take]; omega
    have hs := St.sg_len (l := l1) (x := a) (k := k) (by omega)
    have hc := St.cut3 l1 a k
    refine (insertionSort_any base g N cap (l1.take a) (St.sg l1 a k) (l1.drop (a + k)) a b W (by rw [← hc]; exact h4) (by rw [← hc]; exact h1) hp.symm (by omega) (by omega)).mono ?_
    rintro e w' ⟨l', rfl, hl', hown', ho', u, hu, hul, hasc, hst⟩
    exact ⟨l', rfl, hl', hown', ho', u, hu, by omega, hasc, by rw [hu]; exact St.put_stab hst⟩
  have HM : Hid (∀ (l1 : List Pt.Point) (a k j m b : Nat) (W : World), l1.length = N → 0 < k → 0 < j → a + k + j ≤ N → m = a + k → b = a + k + j → W.ownsRow base 52 3 (.slice (some ⟨g, 0, none⟩) N cap) N (l1.flatMap pointCells) → St.Asc (St.sg l1 a k) → St.Asc (St.sg l1 (a + k) j) → Calls Try.prog 96 #[.slice (some ⟨g, 0, none⟩) N cap, .int .i64 (a : Int), .int .i64 (m : Int), .int .i64 (b : Int), .func (.func 57) #[] #[]] W (RowPost W base g N cap (fun l' => ∃ u, l' = St.pt_ l1 a (k + j) u ∧ u.length = k + j ∧ St.Asc u ∧ St.Stab l1 l'))) := fun l1 a k j m b W h1 hk hj h2 hm h3 h4 ha1 ha2 => by
    have hp : (l1.take a).length = a := by rw [List.length_take]; omega
    have hs := St.sg_len (l := l1) (x := a) (k := k) (by omega)
    have hs2 := St.sg_len (l := l1) (x := a + k) (k := j) (by omega)
    have hc := St.cut4 l1 a k j
    refine (symMerge_any base g N cap (by omega) N (l1.take a) (St.sg l1 a k) (St.sg l1 (a + k) j) (l1.drop (a + k + j)) a m b W (by omega) (by omega) (by omega) (by rw [← hc]; exact h4) (by rw [← hc]; exact h1) hp.symm (by omega) (by omega)).mono ?_
    rintro e w' ⟨l', rfl, hl', hown', ho', u, hu, hM⟩
    have hul := hM.len
    have hst := hM.stab ha1 ha2
    have e2 : St.sg l1 a k ++ St.sg l1 (a + k) j = St.sg l1 a (k + j) := by
      unfold St.sg
      rw [show l1.drop (a + k) = (l1.drop a).drop k from by rw [List.drop_drop], ← List.take_add]
    rw [e2] at hst
    have hu2 : l' = St.pt_ l1 a (k + j) u := by rw [hu]; unfold St.pt_; rw [Nat.add_assoc]
    exact ⟨l', rfl, hl', hown', ho', u, hu2, by omega, hM.asc ha1 ha2, by rw [hu2]; exact St.put_stab hst⟩
  clear hown
  unfold cmpF
  go_enter Try.func80, Try.ntmps80
  go_wp2_with fail
  go_loopw [7, 8] (fun x y wr => ∃ (t a b : Nat) (l1 : List Pt.Point), Hid (a = t * 20) ∧ Hid (b = a + 20) ∧ a ≤ N ∧ x = .int .i64 (a : Int) ∧ y = .int .i64 (b : Int) ∧ Hid (l1.length = N) ∧ Hid (St.Bt 20 t l1) ∧ Hid (St.Stab l l1) ∧ Hid (wr.ownsRow base 52 3 (.slice (some ⟨g, 0, none⟩) N cap) N (l1.flatMap pointCells)) ∧ Hid (Only (fun k => k = g) w wr)) (fun x _ _ => N - (intOf x).toNat)
  case atStart => exact ⟨0, 0, 20, l, Lib.hid rfl, Lib.hid rfl, Nat.zero_le _, rfl, rfl, hl, Lib.hid (fun i h => absurd h (by omega)), Lib.hid (St.Stab.refl l), H0, Lib.hid (Only.refl _ _)⟩
  case round =>
    obtain ⟨t, a, b, l1, ha, hb, haN, rfl, rfl, hl1, hbt, hst, hown, ho⟩ := hrel
    by_cases hlt : b ≤ N
    · have hb1 := Nat.le_of_eq hb.out
      have hb2 := Nat.le_of_eq hb.out.symm
      have hbI : (b : Int) ≤ (N : Int) := by omega
      have HC := Lib.hid (HI.out l1 a 20 b wr hl1.out (by omega) hb.out hown.out)
      have HB := Lib.hid (fun u h1 h2 => St.bt_put (u := u) ha.out (by rw [hl1.out]; omega) h1 hbt.out h2)
      have Ha2 : Hid (b = (t + 1) * 20) := by have := ha.out; show b = _; omega
      clear HI HM hown hbt
      go_wp2_with fail
      refine HC.out.mono ?_
      rintro e w2 ⟨l2, rfl, hl2, hown2, ho2, u, hu, hul, hua, hust⟩
      have Hb := Lib.hid (HB.out u hul hua)
      rw [← hu] at Hb
      have Hst2 := Lib.hid (hst.out.trans hust)
      have Hown2 := Lib.hid hown2
      have Ho2 : Hid (Only (fun k => k = g) w w2) := ho.out.trans ho2 (fun _ _ h => h)
      have Hl2 := Lib.hid hl2
      clear hu hul hua hust hown2 ho2 hl2 HC HB hst ho
      go_wp2_with fail
      go_roundw
      case rel => exact ⟨t + 1, b, b + 20, l2, Ha2, Lib.hid rfl, hlt, rfl, by go_num, Hl2, Hb, Hst2, Hown2, Ho2⟩
      case measure => simp [intOf]; omega
    · have hbI : ¬ (b : Int) ≤ (N : Int) := by omega
      have hb1 := Nat.le_of_eq hb.out
      have hb2 := Nat.le_of_eq hb.out.symm
      have HC := Lib.hid (HI.out l1 a (N - a) N wr hl1.out (by omega) (by omega) hown.out)
      have HB := Lib.hid (fun u h1 h2 => St.bk_last (u := u) (j := N - a) ha.out (by rw [hl1.out]; omega) (by omega) h1 hbt.out h2)
      clear HI hown hbt
      generalize wr = Wo at *
      go_wp2_with fail
      refine HC.out.mono ?_
      rintro e w2 ⟨l2, rfl, hl2, hown2, ho2, u, hu, hul, hua, hust⟩
      have Hb := Lib.hid (HB.out u hul hua)
      rw [← hu] at Hb
      have Hst2 := Lib.hid (hst.out.trans hust)
      have Hown2 := Lib.hid hown2
      have Ho2 : Hid (Only (fun k => k = g) w w2) := ho.out.trans ho2 (fun _ _ h => h)
      have Hl2 := Lib.hid hl2
      clear hu hul hua hust hown2 ho2 hl2 HC HB hst ho ha hb
      go_wp2_with fail
      go_loopw [6, 7, 8, 9] (fun z _ _ _ wr => ∃ (k : Nat) (l3 : List Pt.Point), 0 < k ∧ k ≤ 20 + 2 * N ∧ z = .int .i64 (k : Int) ∧ Hid (l3.length = N) ∧ Hid (St.Bk k l3) ∧ Hid (St.Stab l l3) ∧ Hid (wr.ownsRow base 52 3 (.slice (some ⟨g, 0, none⟩) N cap) N (l3.flatMap pointCells)) ∧ Hid (Only (fun k => k = g) w wr)) (fun z _ _ _ _ => N - (intOf z).toNat)
      case atStart => exact ⟨20, l2, by omega, by omega, rfl, Hl2, Hb, Hst2, Hown2, Ho2⟩
      case round =>
        clear Hl2 Hb Hst2 Hown2 Ho2
        obtain ⟨k, l3, hk0, hkN, rfl, hl3, hbk, hst, hown, ho⟩ := hrel
        by_cases hlt3 : k < N
        · have hkI : (k : Int) < (N : Int) := by omega
          have H0k : Hid (St.Br k 0 l3) := fun i _ => hbk.out i
          clear hbk
          generalize wr = Wq at *
          go_wp2_with fail
          go_loopw [7, 8] (fun x y wr => ∃ (t a b : Nat) (l4 : List Pt.Point), Hid (a = t * (2 * k)) ∧ Hid (b = a + 2 * k) ∧ a ≤ N ∧ x = .int .i64 (a : Int) ∧ y = .int .i64 (b : Int) ∧ Hid (l4.length = N) ∧ Hid (St.Bt (2 * k) t l4) ∧ Hid (St.Br k t l4) ∧ Hid (St.Stab l l4) ∧ Hid (wr.ownsRow base 52 3 (.slice (some ⟨g, 0, none⟩) N cap) N (l4.flatMap pointCells)) ∧ Hid (Only (fun k => k = g) w wr)) (fun x _ _ => N - (intOf x).toNat)
          case atStart => exact ⟨0, 0, 2 * k, l3, Lib.hid (by simp), Lib.hid (by simp), Nat.zero_le _, rfl, by go_num, hl3, Lib.hid (fun i h => absurd h (by omega)), H0k, hst, hown, ho⟩
          case round =>
            clear hl3 H0k hst hown ho
            obtain ⟨t, a, b, l4, ha, hb, haN, rfl, rfl, hl4, hbt, hbr, hst, hown, ho⟩ := hrel
            have hb1 := Nat.le_of_eq hb.out
            have hb2 := Nat.le_of_eq hb.out.symm
            have htwo := St.br_two ha.out hbr.out
            obtain ⟨m, hm⟩ : ∃ m, m = a + k := ⟨_, rfl⟩
            have hmI : (a : Int) + (k : Int) = (m : Int) := by omega
            have hm1 := Nat.le_of_eq hm
            have hm2 := Nat.le_of_eq hm.symm
            by_cases hlt4 : b ≤ N
            · have hbI : (b : Int) ≤ (N : Int) := by omega
              have HC := Lib.hid (HM.out l4 a k k m b wr hl4.out hk0 hk0 (by omega) hm (by omega) hown.out htwo.1 htwo.2)
              have HB := Lib.hid (fun u h1 h2 => And.intro (St.bt_put (u := u) (k := 2 * k) ha.out (by rw [hl4.out]; omega) h1 hbt.out h2) (St.br_put (u := u) ha.out (by rw [hl4.out]; omega) h1 hbr.out))
              have Ha2 : Hid (b = (t + 1) * (2 * k)) := by show b = _; rw [Nat.succ_mul, ← ha.out, hb.out]
              obtain ⟨b2, hbe⟩ : ∃ b2, b2 = b + 2 * k := ⟨_, rfl⟩
              have hbb : (b : Int) + 2 * (k : Int) = (b2 : Int) := by omega
              have Hbe := Lib.hid hbe
              have hbe1 := Nat.le_of_eq hbe
              clear hbe
              clear HM hown hbt hbr htwo hm
              go_wp2_with fail
              refine HC.out.mono ?_
              rintro e w5 ⟨l5, rfl, hl5, hown5, ho5, u, hu, hul, hua, hust⟩
              have Hbb := Lib.hid (HB.out u (by omega) hua)
              rw [show 2 * k = k + k from by omega, ← hu, show k + k = 2 * k from by omega] at Hbb
              have Hst5 := Lib.hid (hst.out.trans hust)
              have Hown5 := Lib.hid hown5
              have Ho5 : Hid (Only (fun k => k = g) w w5) := ho.out.trans ho5 (fun _ _ h => h)
              have Hl5 := Lib.hid hl5
              clear hu hul hua hust hown5 ho5 hl5 HC HB hst ho
              go_wp2_with fail
              go_roundw
              case rel => exact ⟨t + 1, b, b2, l5, Ha2, Hbe, hlt4, rfl, rfl, Hl5, Lib.hid Hbb.out.1, Lib.hid Hbb.out.2, Hst5, Hown5, Ho5⟩
              case measure => simp [intOf]; omega
            · have hbI : ¬ (b : Int) ≤ (N : Int) := by omega
              generalize wr = Wr at *
              by_cases hmN : m < N
              · have hmN2 : (m : Int) < (N : Int) := by omega
                have HC := Lib.hid (HM.out l4 a k (N - m) m N Wr hl4.out hk0 (by omega) (by omega) hm (by omega) hown.out htwo.1 (by rw [St.sg_tail (k' := k) (by rw [hl4.out]; omega) (by rw [hl4.out]; omega)]; exact htwo.2))
                have HB := Lib.hid (fun u h1 h2 => St.bk_last (u := u) (k := 2 * k) (j := k + (N - m)) ha.out (by rw [hl4.out]; omega) (by omega) h1 hbt.out h2)
                obtain ⟨k2, hke⟩ : ∃ k2, k2 = 2 * k := ⟨_, rfl⟩
                have hkk : (k : Int) * 2 = (k2 : Int) := by omega
                have Hke := Lib.hid hke
                have hke1 := Nat.le_of_eq hke
                have hke2 := Nat.le_of_eq hke.symm
                clear hke
                clear HM hown hbt hbr htwo hm
                go_wp2_with fail
                refine HC.out.mono ?_
                rintro e w5 ⟨l5, rfl, hl5, hown5, ho5, u, hu, hul, hua, hust⟩
                have Hbb := Lib.hid (HB.out u hul hua)
                rw [← hu] at Hbb
                have Hst5 := Lib.hid (hst.out.trans hust)
                have Hown5 := Lib.hid hown5
                have Ho5 : Hid (Only (fun k => k = g) w w5) := ho.out.trans ho5 (fun _ _ h => h)
                have Hl5 := Lib.hid hl5
                clear hu hul hua hust hown5 ho5 hl5 HC HB hst ho
                go_wp2_with fail
                go_roundw
                case rel => exact ⟨k2, l5, by omega, by omega, rfl, Hl5, Lib.hid (by rw [Hke.out]; exact Hbb.out), Hst5, Hown5, Ho5⟩
                case measure => simp [intOf]; omega
              · have hmN2 : ¬ (m : Int) < (N : Int) := by omega
                have HBb := Lib.hid (St.bk_stay (k := 2 * k) ha.out (by rw [hl4.out]; omega) hbt.out (by rw [St.sg_tail (k' := k) (by rw [hl4.out]; omega) (by rw [hl4.out]; omega)]; exact htwo.1))
                obtain ⟨k2, hke⟩ : ∃ k2, k2 = 2 * k := ⟨_, rfl⟩
                have hkk : (k : Int) * 2 = (k2 : Int) := by omega
                have Hke := Lib.hid hke
                have hke1 := Nat.le_of_eq hke
                have hke2 := Nat.le_of_eq hke.symm
                clear hke
                clear HM hbt hbr htwo hm
                go_wp2_with fail
                go_roundw
                case rel => exact ⟨k2, l4, by omega, by omega, rfl, hl4, Lib.hid (by rw [Hke.out]; exact HBb.out), hst, hown, ho⟩
                case measure => simp [intOf]; omega
        · have hkI : ¬ (k : Int) < (N : Int) := by omega
          have Hfin := Lib.hid (St.bk_all hbk.out (by rw [hl3.out]; omega))
          clear HM hbk
          go_wp2_with fail
          go_end0
          exact ⟨l3, rfl, hl3.out, hown.out, ho.out, Hfin.out, hst.out⟩
theorem sortStable_any (base g N cap : Nat) (l : List Pt.Point) (w : World) (hown : w.ownsRow base 52 3 (.slice (some ⟨g, 0, none⟩) N cap) N (l.flatMap pointCells)) (hl : l.length = N) (hN : N ≤ 1125899906842624) :
    Calls Try.prog 56 #[.slice (some ⟨g, 0, none⟩) N cap, cmpF] w (RowPost w base g N cap (fun l' => St.Asc l' ∧ St.Stab l l')) := by
  have HS := Lib.hid (stable_any base g N cap l w hown hl hN)
  clear hown hl
  unfold cmpF at *
  go_enter Try.func56, Try.ntmps56
  go_wp2_with fail
  refine HS.out.mono ?_
  rintro e w2 ⟨l2, rfl, hl2, hown2, ho2, h2⟩
  have Hf := Lib.hid (And.intro hl2 (And.intro hown2 (And.intro ho2 h2)))
  clear hl2 hown2 ho2 h2
  go_wp2_with fail
  go_end0
  exact ⟨l2, rfl, Hf.out.1, Hf.out.2.1, Hf.out.2.2.1, Hf.out.2.2.2⟩
end Go.Proofs.Ythdbmgjlegpbaaa
/- The walk through query.Merge. -/
namespace Go.Proofs.Ythdbmgjlegpbaaa
open Go.RowKit
set_option linter.unusedVariables false

set_option maxRecDepth 100000 in
theorem insertionNil (w : World) : Calls Try.prog 95 #[.slice none 0 0, .int .i64 0, .int .i64 0, cmpF] w (fun e w' => e = .returned (.tuple #[]) ∧ w' = w) := by
  unfold cmpF
  go_enter Try.func95, Try.ntmps95
  go_wp2_with fail
  go_loopw [8, 9] (fun i _ wr => i = .int .i64 1 ∧ w = wr) (fun _ _ _ => 0)
  case atStart => exact ⟨rfl, rfl⟩
  case round =>
    obtain ⟨rfl, rfl⟩ := hrel
    go_wp2_with fail
    go_end0
    exact ⟨rfl, rfl⟩
set_option maxRecDepth 100000 in
theorem stableNil (w : World) : Calls Try.prog 80 #[.slice none 0 0, .int .i64 0, cmpF] w (fun e w' => e = .returned (.tuple #[]) ∧ w' = w) := by
  have H := Lib.hid (insertionNil w)
  unfold cmpF at *
  go_enter Try.func80, Try.ntmps80
  go_wp2_with fail
  go_loopw [7, 8] (fun x y wr => x = .int .i64 0 ∧ y = .int .i64 20 ∧ w = wr) (fun _ _ _ => 0)
  case atStart => exact ⟨rfl, rfl, rfl⟩
  case round =>
    obtain ⟨rfl, rfl, rfl⟩ := hrel
    go_wp2_with fail
    refine H.out.mono ?_
    rintro e w2 ⟨rfl, rfl⟩
    go_wp2_with fail
    go_loopw [6, 7, 8, 9] (fun z _ _ _ wr => z = .int .i64 20 ∧ w2 = wr) (fun _ _ _ _ _ => 0)
    case atStart => exact ⟨rfl, rfl⟩
    case round =>
      obtain ⟨rfl, rfl⟩ := hrel
      go_wp2_with fail
      go_end0
      exact ⟨rfl, rfl⟩
set_option maxRecDepth 100000 in
theorem sortNil (w : World) : Calls Try.prog 56 #[.slice none 0 0, cmpF] w (fun e w' => e = .returned (.tuple #[]) ∧ w' = w) := by
  have H := Lib.hid (stableNil w)
  unfold cmpF at *
  go_enter Try.func56, Try.ntmps56
  go_wp2_with fail
  refine H.out.mono ?_
  rintro e w2 ⟨rfl, rfl⟩
  go_wp2_with fail
  go_end0
  exact ⟨rfl, rfl⟩
def SortPost (w : World) (base : Nat) (v : Value) (l : List Pt.Point) (e : Ending) (w' : World) : Prop :=
  ∃ l', e = .returned (.tuple #[]) ∧ l'.length = l.length ∧ w'.ownsRow base 52 3 v l'.length (l'.flatMap pointCells) ∧ Only (fun k => v.ownBlock = some k) w w' ∧ St.Asc l' ∧ St.Stab l l'
theorem sortP_any (base : Nat) (v : Value) (l : List Pt.Point) (w : World) (hown : w.ownsRow base 52 3 v l.length (l.flatMap pointCells)) (hN : l.length ≤ 1125899906842624) :
    Calls Try.prog 56 #[v, cmpF] w (SortPost w base v l) := by
  obtain ⟨A, c, rfl, hnc, _⟩ := own_slice hown
  rcases hown.2 with ⟨h, h0⟩ | ⟨g, cap, cur, h, _, _, _, _, _, _⟩
  · injection h with h1 h2 h3
    have hl : l = [] := List.eq_nil_of_length_eq_zero h2
    subst hl; subst h1; subst h3
    refine (sortNil w).mono ?_
    rintro e w' ⟨rfl, rfl⟩
    exact ⟨[], rfl, rfl, hown, Only.refl _ _, St.asc_nil, St.Stab.refl _⟩
  · injection h with h1 h2 h3
    subst h1
    refine (sortStable_any base g l.length c l w hown rfl hN).mono ?_
    rintro e w' ⟨l', rfl, hl', hown', ho', h2, h3⟩
    refine ⟨l', rfl, hl', by rw [hl']; exact hown', ho'.mono ?_, h2, h3⟩
    intro j _ hj
    rw [hj]; rfl
end Go.Proofs.Ythdbmgjlegpbaaa
