/- The walk through QueryMerges. -/
import Derived.Test.YthdbmgjlegpbaaaK8
import Derived.Test.YthdbmgjlegpbaaaK12
import Derived.Test.YthdbmgjlegpbaaaKQmLawP
import Derived.BigRegion
namespace Go.Proofs.Ythdbmgjlegpbaaa
open Go.RowKit
set_option linter.unusedVariables false

theorem two_boxes {w2 wr : World} {x y : Pt.Point} (hb : Below w2.heap.size w2 wr) (hs : w2.heap.size ≤ wr.heap.size) :
    ((((wr.alloc (.cells #[.string x.1, .int .i64 x.2.1, .int .i64 x.2.2] 52)).alloc (.cells #[.string y.1, .int .i64 y.2.1, .int .i64 y.2.2] 52)).drew.cell? ⟨wr.heap.size, 0, none⟩ = some (.string x.1) ∧
      ((wr.alloc (.cells #[.string x.1, .int .i64 x.2.1, .int .i64 x.2.2] 52)).alloc (.cells #[.string y.1, .int .i64 y.2.1, .int .i64 y.2.2] 52)).drew.cell? ⟨wr.heap.size, 1, none⟩ = some (.int .i64 x.2.1) ∧
      ((wr.alloc (.cells #[.string x.1, .int .i64 x.2.1, .int .i64 x.2.2] 52)).alloc (.cells #[.string y.1, .int .i64 y.2.1, .int .i64 y.2.2] 52)).drew.cell? ⟨wr.heap.size, 2, none⟩ = some (.int .i64 x.2.2)) ∧
     (((wr.alloc (.cells #[.string x.1, .int .i64 x.2.1, .int .i64 x.2.2] 52)).alloc (.cells #[.string y.1, .int .i64 y.2.1, .int .i64 y.2.2] 52)).drew.cell? ⟨wr.heap.size + 1, 0, none⟩ = some (.string y.1) ∧
      ((wr.alloc (.cells #[.string x.1, .int .i64 x.2.1, .int .i64 x.2.2] 52)).alloc (.cells #[.string y.1, .int .i64 y.2.1, .int .i64 y.2.2] 52)).drew.cell? ⟨wr.heap.size + 1, 1, none⟩ = some (.int .i64 y.2.1) ∧
      ((wr.alloc (.cells #[.string x.1, .int .i64 x.2.1, .int .i64 x.2.2] 52)).alloc (.cells #[.string y.1, .int .i64 y.2.1, .int .i64 y.2.2] 52)).drew.cell? ⟨wr.heap.size + 1, 2, none⟩ = some (.int .i64 y.2.2)) ∧
     Hid (Below w2.heap.size w2 ((wr.alloc (.cells #[.string x.1, .int .i64 x.2.1, .int .i64 x.2.2] 52)).alloc (.cells #[.string y.1, .int .i64 y.2.1, .int .i64 y.2.2] 52)).drew)) := by
  have h1 := pt3_of ((((Blk.new wr 52 #[.string x.1, .int .i64 x.2.1, .int .i64 x.2.2]).alloc (.cells #[.string y.1, .int .i64 y.2.1, .int .i64 y.2.2] 52))).drew)
  have h2 := pt3_of (((Blk.new (wr.alloc (.cells #[.string x.1, .int .i64 x.2.1, .int .i64 x.2.2] 52)) 52 #[.string y.1, .int .i64 y.2.1, .int .i64 y.2.2])).drew)
  have e : (wr.alloc (.cells #[.string x.1, .int .i64 x.2.1, .int .i64 x.2.2] 52)).heap.size = wr.heap.size + 1 := by simp
  rw [e] at h2
  exact ⟨h1, h2, Lib.hid ((hb.alloc hs _).alloc (by rw [e]; omega) _).drew⟩
set_option maxRecDepth 100000 in
set_option maxHeartbeats 4000000 in
theorem queryMerges_go {w : World} (A0 : Option Addr) (c0 : Nat) (z0 : List Pt.Point) (rd0 : Reads w w.heap.size 3 A0 z0.length (z0.flatMap pointCells)) (nb0 : z0.length ≤ 2097152) (A1 : Option Addr) (c1 : Nat) (z1 : List Pt.Point) (rd1 : Reads w w.heap.size 3 A1 z1.length (z1.flatMap pointCells)) (nb1 : z1.length ≤ 2097152) :
    Calls Try.prog 7 #[.slice A0 z0.length c0, .slice A1 z1.length c1] w fun e w' => e = .returned (.bool true) ∧ Below w.heap.size w w' := by
  have Hr0 := Lib.hid rd0
  have Hr1 := Lib.hid rd1
  clear rd0 rd1
  go_enter Try.func7, Try.ntmps7
  go_wp2_with fail
  refine (awake15 _).mono ?_
  rintro e w1 ⟨rfl, hb1⟩
  have hs1 := hb1.size
  have Hb1 := Lib.hid hb1
  clear hb1
  have HM := Lib.hid (merge_any (A0, c0, z0) (A1, c1, z1) w.heap.size w1 (Hr0.out.below Hb1.out) (Hr1.out.below Hb1.out) hs1 (by dsimp only; omega))
  unfold layV at HM
  dsimp only at HM
  have HMs := Lib.hid (Qm.merge_sorted z0 z1)
  have hMl := Qm.merge_len z0 z1
  have HMe := Lib.hid (fun i k p (h : Qm.newest z1 i k p) hk => Qm.newest_end (a := z0) h hk)
  generalize Qm.mergeP z0 z1 = M at *
  go_wp2_with fail
  refine HM.out.mono ?_
  rintro e w2 ⟨v2, rfl, hown2, hb2⟩
  obtain ⟨A2, c2, rfl, hnc2, hr2⟩ := own_slice hown2
  have Hr2 := Lib.hid hr2
  have Hb2 : Hid (Below w.heap.size w w2) := Hb1.out.trans (hb2.mono hs1)
  have hs2 := Hb2.out.size
  clear hown2 hb2 hr2 HM Hb1
  go_wp2_with fail
  go_loopw [6, 7, 8] (fun i _ _ wr => ∃ (k : Nat), 1 ≤ k ∧ k ≤ M.length + 1 ∧ i = .int .i64 (k : Int) ∧ Hid (Below w2.heap.size w2 wr)) (fun i _ _ _ => M.length + 1 - (intOf i).toNat)
  case atStart => exact ⟨1, Nat.le_refl _, by omega, rfl, Lib.hid (Below.refl _ _)⟩
  case round =>
    obtain ⟨k, hk1, hk2, rfl, hbw⟩ := hrel
    have hsw := hbw.out.size
    by_cases hlt : k < M.length
    · have hltI : (k : Int) < (M.length : Int) := by omega
      obtain ⟨k1, rfl⟩ : ∃ k1, k = k1 + 1 := ⟨k - 1, by omega⟩
      obtain ⟨b, off, rfl, hbl, hc⟩ := Hr2.out.2 (by omega)
      have hp := pt_cells (wr := wr) (show k1 < M.length by omega) hc (fun p hp => hbw.out.cell (p := p) hp) hbl
      have hq := pt_cells (wr := wr) hlt hc (fun p hp => hbw.out.cell (p := p) hp) hbl
      have HC := Lib.hid (HMs.out k1 (k1 + 1) (by omega) hlt)
      clear hc
      generalize M[k1] = p at *
      generalize M[k1 + 1] = q at *
      obtain ⟨pn, pt, pv⟩ := p
      obtain ⟨qn, qt, qv⟩ := q
      dsimp only at hp hq
      obtain ⟨p0, p1, p2⟩ := hp
      obtain ⟨q0, q1, q2⟩ := hq
      have hw1 : IntKind.i64.wrap (((k1 + 1 : Nat) : Int) - 1) = (k1 : Int) := by rw [show ((k1 + 1 : Nat) : Int) - 1 = (k1 : Int) from by omega]; exact IntWalk.i64_in _ (by omega)
      have hw2 : IntKind.i64.wrap (k1 : Int) = (k1 : Int) := IntWalk.i64_in _ (by omega)
      have far1 : ∀ (o : Nat) (u : Value), wr.cell? ⟨b, o, none⟩ = some u → ∀ Z, (wr.alloc Z).cell? ⟨b, o, none⟩ = some u := fun o u h Z => by
        rw [World.cell?_alloc_lt _ _ _ (by show b < _; omega)]; exact h
      have far : ∀ (o : Nat) (u : Value), wr.cell? ⟨b, o, none⟩ = some u → ∀ Z Z', ((wr.alloc Z).alloc Z').cell? ⟨b, o, none⟩ = some u := fun o u h Z Z' => by
        rw [World.cell?_alloc_lt _ _ _ (by simp; omega), World.cell?_alloc_lt _ _ _ (by show b < _; omega)]; exact h
      have P0 := far1 _ _ p0
      have P1 := far1 _ _ p1
      have P2 := far1 _ _ p2
      have Q0 := far1 _ _ q0
      have Q1 := far1 _ _ q1
      have Q2 := far1 _ _ q2
      have p0' := far _ _ p0
      have p1' := far _ _ p1
      have p2' := far _ _ p2
      have q0' := far _ _ q0
      have q1' := far _ _ q1
      have q2' := far _ _ q2
      clear far1
      have hj3 : (0 : Int) ≤ (k1 : Int) + 1 := by omega
      clear far
      have hj0 : (0 : Int) ≤ (k1 : Int) := by omega
      have hj1 : (k1 : Int) < (M.length : Int) := by omega
      have hj2 : (k1 : Int) + 1 < (M.length : Int) := by omega
      have FA := two_boxes (x := (pn, pt, pv)) (y := (qn, qt, qv)) hbw.out hsw
      have FB := two_boxes (x := (qn, qt, qv)) (y := (pn, pt, pv)) hbw.out hsw
      dsimp only at FA FB
      go_wp2_with fail
      go_region
      all_goals
        generalize hW : World.drew _ = w3
        first
          | (rw [hW] at FA; obtain ⟨⟨X0, X1, X2⟩, ⟨Y0, Y1, Y2⟩, Hb3⟩ := FA; clear FB)
          | (rw [hW] at FB; obtain ⟨⟨Y0, Y1, Y2⟩, ⟨X0, X1, X2⟩, Hb3⟩ := FB; clear FA)
        clear p0 p1 p2 q0 q1 q2 P0 P1 P2 Q0 Q1 Q2 p0' p1' p2' q0' q1' q2' hbw hW
        rcases Qm.lt_cases HC.out with ⟨ha1, ha2⟩ | ⟨ha1, ha2⟩
        · clear HC
          go_wp2_with fail
          go_roundw
          case rel => exact ⟨k1 + 2, by omega, by omega, by go_num, Hb3⟩
          case measure => simp [intOf]; omega
        · clear HC
          dsimp only at ha1 ha2
          subst ha1
          go_wp2_with fail
          go_roundw
          case rel => exact ⟨k1 + 2, by omega, by omega, by go_num, Hb3⟩
          case measure => simp [intOf]; omega
    · have hltI : ¬ (k : Int) < (M.length : Int) := by omega
      have hsum : ¬ (z0.length : Int) + (z1.length : Int) < (M.length : Int) := by omega
      go_wp2_with fail
      generalize wr = Wa at *
      go_loopw [9, 10, 11, 12, 13] (fun x _ _ _ _ wr => ∃ (i : Nat), i ≤ z1.length ∧ x = .int .i64 (i : Int) ∧ Hid (Below w2.heap.size w2 wr)) (fun x _ _ _ _ _ => z1.length - (intOf x).toNat)
      case atStart => exact ⟨0, Nat.zero_le _, rfl, hbw⟩
      case round =>
        clear hbw hsw hltI hsum hlt hk1 hk2 HMs
        obtain ⟨i, hi, rfl, hbw⟩ := hrel
        have hsw := hbw.out.size
        by_cases hlt : i < z1.length
        · obtain ⟨b1, off1, rfl, hbl1, hc1⟩ := Hr1.out.2 (by omega)
          obtain ⟨q, hq⟩ : ∃ q, z1[i]? = some q := ⟨_, List.getElem?_eq_getElem hlt⟩
          have hqe : z1[i] = q := (List.getElem?_eq_some_iff.1 hq).2
          have hcq := pt_cells (wr := wr) hlt hc1 (fun p hp => (hbw.out.cell (p := p) (by omega)).trans (Hb2.out.cell (p := p) hp)) hbl1
          rw [hqe] at hcq
          have HN := Lib.hid (Qm.newest_start hq)
          clear hqe hq
          obtain ⟨qn, qt, qv⟩ := q
          dsimp only at hcq
          obtain ⟨c0', c1', c2'⟩ := hcq
          have hltI : (i : Int) < (z1.length : Int) := by omega
          have hB0 : Hid (Blk (wr.alloc (.cells #[.string qn, .int .i64 qt, .int .i64 qv] 52)) wr.heap.size 52 #[.string qn, .int .i64 qt, .int .i64 qv]) := Blk.new _ _ _
          have hbw0 : Hid (Below w2.heap.size w2 (wr.alloc (.cells #[.string qn, .int .i64 qt, .int .i64 qv] 52))) := hbw.out.alloc hsw _
          have Hc1 := Lib.hid hc1
          clear hc1
          generalize wr = Wo at *
          obtain ⟨bx, hbx⟩ : ∃ bx, bx = Wo.heap.size := ⟨_, rfl⟩
          have hbx2 : w2.heap.size ≤ bx := by omega
          have Hbx := Lib.hid hbx
          rw [← hbx] at hB0
          clear hbx
          go_wp2_with fail
          rw [← Hbx.out]
          go_loopw [11] (fun x wr => ∃ (k : Nat) (p : Pt.Point), k ≤ z1.length ∧ x = .int .i64 (k : Int) ∧ Hid (Qm.newest z1 i k p) ∧ Hid (Blk wr bx 52 #[.string p.1, .int .i64 p.2.1, .int .i64 p.2.2]) ∧ Hid (Below w2.heap.size w2 wr)) (fun x _ => z1.length - (intOf x).toNat)
          case atStart => exact ⟨i + 1, (qn, qt, qv), by omega, by go_num, HN, hB0, hbw0⟩
          case round =>
            clear HN hB0 hbw0 c0' c1' c2' hbw hsw
            obtain ⟨k, p, hk, rfl, HN, hB, hbw⟩ := hrel
            have hsw := hbw.out.size
            obtain ⟨pn, pt, pv⟩ := p
            dsimp only at hB
            obtain ⟨x0, x1, x2⟩ := pt3_of hB.out
            by_cases hlt3 : k < z1.length
            · obtain ⟨r, hr⟩ : ∃ r, z1[k]? = some r := ⟨_, List.getElem?_eq_getElem hlt3⟩
              have hre : z1[k] = r := (List.getElem?_eq_some_iff.1 hr).2
              have hcr := pt_cells (wr := wr) hlt3 Hc1.out (fun p hp => (hbw.out.cell (p := p) (by omega)).trans (Hb2.out.cell (p := p) hp)) hbl1
              rw [hre] at hcr
              have HNY := Lib.hid (Qm.newest_yes HN.out hr)
              have HNN := Lib.hid (Qm.newest_no HN.out hr)
              clear hre hr HN
              obtain ⟨rn, rt, rv⟩ := r
              dsimp only at hcr HNY HNN
              obtain ⟨r0, r1, r2⟩ := hcr
              have hkI : (k : Int) < (z1.length : Int) := by omega
              by_cases h1 : rn = pn
              · subst h1
                by_cases h2 : rt = pt
                · subst h2
                  have HQ := Lib.hid (HNY.out rfl rfl)
                  have hf0 := hB.out.frozen 0
                  have hf1 := hB.out.frozen 1
                  have hf2 := hB.out.frozen 2
                  clear HNY HNN
                  go_wp2_with fail
                  go_region
                  go_wp2_with fail
                  go_roundw
                  case rel => exact ⟨k + 1, (rn, rt, rv), by omega, by go_num, HQ, Lib.hid ((((hB.out.set_ 0 _).set_ 1 _).set_ 2 _).drew), Lib.hid ((((hbw.out.setCell (p := ⟨bx, 0, none⟩) hbx2 _).setCell (p := ⟨bx, 1, none⟩) hbx2 _).setCell (p := ⟨bx, 2, none⟩) hbx2 _).drew)⟩
                  case measure => simp [intOf]; omega
                · have HQ := Lib.hid (HNN.out (fun h => h2 h.2))
                  clear HNY HNN
                  go_wp2_with fail
                  go_region
                  go_wp2_with fail
                  go_roundw
                  case rel => exact ⟨k + 1, (rn, pt, pv), by omega, by go_num, HQ, hB, Lib.hid hbw.out.drew⟩
                  case measure => simp [intOf]; omega
              · have h1b : (rn.toList == pn.toList) = false := by rw [beq_eq_false_iff_ne]; exact fun e => h1 (by rw [Lib.toList_data, Lib.toList_data] at e; exact ByteArray.ext (Array.ext' e))
                have HQ := Lib.hid (HNN.out (fun h => h1 h.1))
                clear HNY HNN
                go_wp2_with fail
                go_region
                go_wp2_with fail
                go_roundw
                case rel => exact ⟨k + 1, (pn, pt, pv), by omega, by go_num, HQ, hB, Lib.hid hbw.out.drew⟩
                case measure => simp [intOf]; omega
            · have hkI : ¬ (k : Int) < (z1.length : Int) := by omega
              have HPM := Lib.hid (HMe.out i k (pn, pt, pv) HN.out (by omega))
              generalize wr = Wb at *
              clear HN x0 x1 x2
              go_wp2_with fail
              go_loopw [12, 13] (fun h x wr => ∃ (k : Nat), k ≤ M.length ∧ x = .int .i64 (k : Int) ∧ h = .bool (Qm.hasB (M.take k) (pn, pt, pv)) ∧ Hid (Blk wr bx 52 #[.string pn, .int .i64 pt, .int .i64 pv]) ∧ Hid (Below w2.heap.size w2 wr)) (fun _ x _ => M.length - (intOf x).toNat)
              case atStart => exact ⟨0, Nat.zero_le _, rfl, by simp [Qm.hasB], hB, hbw⟩
              case round =>
                clear hB hbw hsw
                obtain ⟨k4, hk4, rfl, rfl, hB, hbw⟩ := hrel
                have hsw := hbw.out.size
                obtain ⟨x0, x1, x2⟩ := pt3_of hB.out
                by_cases hlt4 : k4 < M.length
                · obtain ⟨b, off, rfl, hbl, hc⟩ := Hr2.out.2 (by omega)
                  obtain ⟨r, hr⟩ : ∃ r, M[k4]? = some r := ⟨_, List.getElem?_eq_getElem hlt4⟩
                  have hre : M[k4] = r := (List.getElem?_eq_some_iff.1 hr).2
                  have hcr := pt_cells (wr := wr) hlt4 hc (fun p hp => hbw.out.cell (p := p) hp) hbl
                  rw [hre] at hcr
                  have HS := Lib.hid (Qm.has_step (p := (pn, pt, pv)) hr)
                  clear hre hr hc
                  obtain ⟨rn, rt, rv⟩ := r
                  dsimp only at hcr
                  obtain ⟨r0, r1, r2⟩ := hcr
                  have hkI : (k4 : Int) < (M.length : Int) := by omega
                  generalize Qm.hasB (M.take k4) (pn, pt, pv) = hh at *
                  cases hh with
                  | true =>
                    go_wp2_with fail
                    go_region
                    go_wp2_with fail
                    go_roundw
                    case rel => exact ⟨k4 + 1, by omega, by go_num, by rw [HS.out]; rfl, hB, Lib.hid hbw.out.drew⟩
                    case measure => simp [intOf]; omega
                  | false =>
                    by_cases h1 : rn = pn
                    · subst h1
                      by_cases h2 : rt = pt
                      · subst h2
                        by_cases h3 : rv = pv
                        · subst h3
                          go_wp2_with fail
                          go_region
                          go_wp2_with fail
                          go_roundw
                          case rel => exact ⟨k4 + 1, by omega, by go_num, by rw [HS.out]; simp [Qm.same], hB, Lib.hid hbw.out.drew⟩
                          case measure => simp [intOf]; omega
                        · have h3' : ¬ pv = rv := fun e => h3 e.symm
                          go_wp2_with fail
                          go_region
                          go_wp2_with fail
                          go_roundw
                          case rel => exact ⟨k4 + 1, by omega, by go_num, by rw [HS.out]; simp [Qm.same, h3], hB, Lib.hid hbw.out.drew⟩
                          case measure => simp [intOf]; omega
                      · have h2' : ¬ pt = rt := fun e => h2 e.symm
                        go_wp2_with fail
                        go_region
                        go_wp2_with fail
                        go_roundw
                        case rel => exact ⟨k4 + 1, by omega, by go_num, by rw [HS.out]; simp [Qm.same, h2], hB, Lib.hid hbw.out.drew⟩
                        case measure => simp [intOf]; omega
                    · have h1t : ¬ rn.toList = pn.toList := fun e => h1 (by rw [Lib.toList_data, Lib.toList_data] at e; exact ByteArray.ext (Array.ext' e))
                      go_wp2_with fail
                      go_region
                      go_wp2_with fail
                      go_roundw
                      case rel => exact ⟨k4 + 1, by omega, by go_num, by rw [HS.out]; simp [Qm.same, h1], hB, Lib.hid hbw.out.drew⟩
                      case measure => simp [intOf]; omega
                · have HE := Lib.hid (Qm.has_end (k := k4) HPM.out (by omega))
                  rw [HE.out]
                  go_wp2_with fail
                  go_roundw
                  case rel => exact ⟨i + 1, by omega, by go_num, hbw⟩
                  case measure => simp [intOf]; omega
        · have hltI : ¬ (i : Int) < (z1.length : Int) := by omega
          go_wp2_with fail
          go_ret
          exact ⟨rfl, Hb2.out.trans (hbw.out.mono hs2)⟩
theorem sum_ge_len {α : Type} (m : α → Nat) (hm : ∀ x, 1 ≤ m x) (xs : List α) : xs.length ≤ (xs.map m).sum := by
  induction xs with
  | nil => simp
  | cons x xs ih => rw [List.map_cons, List.sum_cons, List.length_cons]; have := hm x; omega
theorem queryMerges_walk {w : World} (A0 : Option Addr) (c0 : Nat) (z0 : List Pt.Point) (A1 : Option Addr) (c1 : Nat) (z1 : List Pt.Point) (rd0 : Reads w w.heap.size 3 A0 z0.length (z0.flatMap pointCells)) (wf0 : ∀ f ∈ z0, (Lit.int .i64 f.2.1).wf = true ∧ (Lit.int .i64 f.2.2).wf = true ∧ f.1.size ≤ maxLen) (rd1 : Reads w w.heap.size 3 A1 z1.length (z1.flatMap pointCells)) (wf1 : ∀ f ∈ z1, (Lit.int .i64 f.2.1).wf = true ∧ (Lit.int .i64 f.2.2).wf = true ∧ f.1.size ≤ maxLen) (ub : (z0.map fun p : Pt.Point => p.1.size + 4).sum + (z1.map fun p : Pt.Point => p.1.size + 4).sum ≤ 1048576) :
    Calls Try.prog 7 #[.slice A0 z0.length c0, .slice A1 z1.length c1] w fun e w' => e = .returned (.bool true) ∧ Below w.heap.size w w' := by
  have h0 := sum_ge_len (fun p : Pt.Point => p.1.size + 4) (fun _ => by omega) z0
  have h1 := sum_ge_len (fun p : Pt.Point => p.1.size + 4) (fun _ => by omega) z1
  exact queryMerges_go A0 c0 z0 rd0 (by omega) A1 c1 z1 rd1 (by omega)
end Go.Proofs.Ythdbmgjlegpbaaa
