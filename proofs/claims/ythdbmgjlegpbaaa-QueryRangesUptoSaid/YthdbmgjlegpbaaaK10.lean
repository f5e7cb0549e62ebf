/- Joined texts: StIns, QmCat, QmPlain, StSymA, StSymB, StSymD. -/
import Derived.Test.YthdbmgjlegpbaaaK2
import Derived.Test.YthdbmgjlegpbaaaK9
import Derived.BigQuiet
/- The walk through slices.insertionSortCmpFunc at points. -/
namespace Go.Proofs.Ythdbmgjlegpbaaa
open Go.RowKit
set_option linter.unusedVariables false

abbrev cmpF : Value := .func (.func 57) #[] #[]
theorem pt_cellsQ {w : World} {base g cap : Nat} {l : List Pt.Point} {n : Nat} (h : w.ownsRow base 52 3 (.slice (some ⟨g, 0, none⟩) n cap) n (l.flatMap pointCells)) {k : Nat} {q : Pt.Point} (hk : l[k]? = some q) :
    w.cell? ⟨g, k * 3, none⟩ = some (.string q.1) ∧ w.cell? ⟨g, k * 3 + 1, none⟩ = some (.int .i64 q.2.1) ∧ w.cell? ⟨g, k * 3 + 2, none⟩ = some (.int .i64 q.2.2) := by
  obtain ⟨hl, rfl⟩ := List.getElem?_eq_some_iff.1 hk
  exact pt_own_cellsS h k hl
theorem pt_frozenS {w : World} {base g cap : Nat} {l : List Pt.Point} {n : Nat} (h : w.ownsRow base 52 3 (.slice (some ⟨g, 0, none⟩) n cap) n (l.flatMap pointCells)) (k : Nat) : w.frozen? ⟨g, k * 3, none⟩ = false ∧ w.frozen? ⟨g, k * 3 + 1, none⟩ = false ∧ w.frozen? ⟨g, k * 3 + 2, none⟩ = false :=
  ⟨own_frozen h _, own_frozen h _, own_frozen h _⟩
/-- the cells in every world behind new memory -/
theorem pt_aft {w : World} {base g cap : Nat} {l : List Pt.Point} {n : Nat} (h : w.ownsRow base 52 3 (.slice (some ⟨g, 0, none⟩) n cap) n (l.flatMap pointCells)) {k : Nat} {q : Pt.Point} (hk : l[k]? = some q) (x : Aft w.heap.size w) :
    x.world.cell? ⟨g, k * 3, none⟩ = some (.string q.1) ∧ x.world.cell? ⟨g, k * 3 + 1, none⟩ = some (.int .i64 q.2.1) ∧ x.world.cell? ⟨g, k * 3 + 2, none⟩ = some (.int .i64 q.2.2) :=
  pt_cellsQ (own_only h (Only.new (fun _ => False) x.below) (fun _ _ q => q)) hk
def InsOk (p u s : List Pt.Point) (l' : List Pt.Point) : Prop := ∃ u', l' = p ++ (u' ++ s) ∧ u'.length = u.length ∧ St.Asc u' ∧ St.Stab u u'
theorem ins_mid {p c1 c2 s : List Pt.Point} {y : Pt.Point} : (p ++ (c1 ++ (y :: (c2 ++ s))))[p.length + c1.length]? = some y := by
  rw [List.getElem?_append_right (by omega), Nat.add_sub_cancel_left, List.getElem?_append_right (by omega), Nat.sub_self]; rfl
theorem ins_low {p c c2 s : List Pt.Point} {y z : Pt.Point} : (p ++ ((c ++ [z]) ++ (y :: (c2 ++ s))))[p.length + c.length]? = some z := by
  rw [List.append_assoc, List.singleton_append]
  exact ins_mid (c2 := y :: c2)
theorem ins_sw {p c c2 s : List Pt.Point} {y z : Pt.Point} : St.sw2 (p ++ ((c ++ [z]) ++ (y :: (c2 ++ s)))) (p.length + c.length + 1) (p.length + c.length) = p ++ (c ++ (y :: ((z :: c2) ++ s))) := by
  have hl : (p ++ ((c ++ [z]) ++ (y :: (c2 ++ s)))).length = p.length + c.length + 2 + c2.length + s.length := by simp; omega
  rw [St.sw2_comm (by omega) (by omega)]
  have e : p ++ ((c ++ [z]) ++ (y :: (c2 ++ s))) = (p ++ c) ++ (z :: y :: (c2 ++ s)) := by simp
  have e2 : p ++ (c ++ (y :: ((z :: c2) ++ s))) = (p ++ c) ++ (y :: z :: (c2 ++ s)) := by simp
  rw [e, e2]
  have := St.sw2_mid (p ++ c) z y (c2 ++ s)
  rw [List.length_append] at this
  exact this
set_option maxRecDepth 100000 in
set_option maxHeartbeats 4000000 in
theorem insertionSort_any (base g N cap : Nat) (p u s : List Pt.Point) (a b : Nat) (w : World) (hown : w.ownsRow base 52 3 (.slice (some ⟨g, 0, none⟩) N cap) N ((p ++ (u ++ s)).flatMap pointCells)) (hl : (p ++ (u ++ s)).length = N) (ha : a = p.length) (hb : b = p.length + u.length) (hN : N ≤ 9223372036854775806) :
    Calls Try.prog 95 #[.slice (some ⟨g, 0, none⟩) N cap, .int .i64 (a : Int), .int .i64 (b : Int), cmpF] w (RowPost w base g N cap (InsOk p u s)) := by
  have hlN : p.length + u.length + s.length ≤ N ∧ N ≤ p.length + u.length + s.length := by rw [← hl]; simp only [List.length_append]; omega
  obtain ⟨hlN1, hlN2⟩ := hlN
  have ha1 := Nat.le_of_eq ha
  have ha2 := Nat.le_of_eq ha.symm
  have hb1 := Nat.le_of_eq hb
  have hb2 := Nat.le_of_eq hb.symm
  clear ha hb
  have H0 := Lib.hid hown
  have Hl := Lib.hid hl
  clear hown hl
  unfold cmpF
  by_cases hu : u.length = 0
  · obtain rfl : u = [] := List.eq_nil_of_length_eq_zero hu
    have hba : ¬ (a : Int) + 1 < (b : Int) := by simp at hb1; omega
    clear hu
    go_enter Try.func95, Try.ntmps95
    go_wp2_with fail
    go_loopw [8, 9] (fun i _ wr => i = .int .i64 ((a : Int) + 1) ∧ w = wr) (fun _ _ _ => 0)
    case atStart => exact ⟨rfl, rfl⟩
    case round =>
      obtain ⟨rfl, rfl⟩ := hrel
      go_wp2_with fail
      go_end0
      exact ⟨_, rfl, Hl.out, H0.out, Only.refl _ _, [], rfl, rfl, St.asc_nil, St.Stab.refl _⟩
  · have hu0 : 0 < u.length := by omega
    clear hu
    go_enter Try.func95, Try.ntmps95
    go_wp2_with fail
    go_loopw [8, 9] (fun i _ wr => ∃ (I : Nat) (c r : List Pt.Point), Hid (I = p.length + c.length) ∧ 0 < c.length ∧ Hid (c.length + r.length = u.length) ∧ i = .int .i64 (I : Int) ∧ Hid (wr.ownsRow base 52 3 (.slice (some ⟨g, 0, none⟩) N cap) N ((p ++ (c ++ (r ++ s))).flatMap pointCells)) ∧ Hid (Only (fun k => k = g) w wr) ∧ Hid (St.Asc c) ∧ Hid (St.Stab (u.take c.length) c) ∧ Hid (r = u.drop c.length)) (fun i _ _ => b - (intOf i).toNat)
    case atStart =>
      refine ⟨a + 1, u.take 1, u.drop 1, Lib.hid (by simp; omega), by simp; omega, Lib.hid (by simp; omega), by simp, Lib.hid ?_, Lib.hid (Only.refl _ _), ?_, ?_, ?_⟩
      · rw [← List.append_assoc (u.take 1), List.take_append_drop]; exact H0.out
      · cases u with
        | nil => simp at hu0
        | cons x u => exact Lib.hid (St.asc_one x)
      · refine Lib.hid ?_
        rw [List.length_take, Nat.min_eq_left (by omega)]
        exact St.Stab.refl _
      · refine Lib.hid ?_
        rw [List.length_take, Nat.min_eq_left (by omega)]
    case round =>
      obtain ⟨I, c, r, hI, hc0, hcr, rfl, hown, ho, hasc, hst, hr⟩ := hrel
      have hI1 := Nat.le_of_eq hI.out
      have hI2 := Nat.le_of_eq hI.out.symm
      have hcr1 := Nat.le_of_eq hcr.out
      have hcr2 := Nat.le_of_eq hcr.out.symm
      by_cases hlt : I < b
      · have hltI : (I : Int) < (b : Int) := by omega
        obtain ⟨y, r', rfl⟩ : ∃ y r', r = y :: r' := by
          cases r with
          | nil => simp at hcr2; omega
          | cons y r' => exact ⟨y, r', rfl⟩
        have Hasc := Lib.hid hasc.out
        have HstN : Hid (∀ c', St.Stab (c ++ [y]) c' → c'.length = c.length + 1 → St.Stab (u.take c'.length) c' ∧ r' = u.drop c'.length) := fun c' h hlen => by
          have h1 := hr.out
          have hy : u[c.length]? = some y := by
            have := congrArg (fun l : List Pt.Point => l[0]?) h1
            simp only [List.getElem?_cons_zero, List.getElem?_drop, Nat.add_zero] at this
            exact this.symm
          obtain ⟨hlt2, hy2⟩ := List.getElem?_eq_some_iff.1 hy
          rw [hlen]
          constructor
          · rw [List.take_succ_eq_append_getElem hlt2, hy2]
            exact (hst.out.append (St.Stab.refl [y])).trans h
          · have := congrArg List.tail h1
            simpa using this
        clear hst hr hasc
        generalize wr = Wo at *
        go_wp2_with fail
        go_loopw [9] (fun x wr => ∃ (J : Nat) (c1 c2 : List Pt.Point), Hid (J = p.length + c1.length) ∧ Hid (c = c1 ++ c2) ∧ Hid (∀ x ∈ c2, Pt.cmpP y x < 0) ∧ x = .int .i64 (J : Int) ∧ J ≤ I ∧ Hid (wr.ownsRow base 52 3 (.slice (some ⟨g, 0, none⟩) N cap) N ((p ++ (c1 ++ (y :: (c2 ++ (r' ++ s))))).flatMap pointCells)) ∧ Hid (Only (fun k => k = g) w wr)) (fun x _ => (intOf x).toNat)
        case atStart => exact ⟨I, c, [], hI, Lib.hid (by simp), Lib.hid (fun x hx => by cases hx), rfl, Nat.le_refl _, hown, ho⟩
        case round =>
          clear hown ho
          obtain ⟨J, c1, c2, hJ, hcc, hlt2, rfl, hJI, hown, ho⟩ := hrel
          have hsz := ho.out.size
          have hJ1 := Nat.le_of_eq hJ.out
          have hJ2 := Nat.le_of_eq hJ.out.symm
          rcases List.eq_nil_or_concat c1 with e | ⟨c3, z, e⟩
          · subst e
            obtain rfl : J = a := by simp at hJ1 hJ2; omega
            have hd : decide ((J : Int) < (J : Int)) = false := by simp
            have hfin := St.asc_ins (c1 := []) (c2 := c2) (y := y) (by rw [← hcc.out]; exact Hasc.out) hlt2.out (fun z c e => by simp at e)
            have hlen : ([] ++ y :: c2 : List Pt.Point).length = c.length + 1 := by rw [hcc.out]; simp
            have hfin2 := HstN.out ([] ++ y :: c2) (by rw [hcc.out]; exact hfin.2) hlen
            have Hf1 := Lib.hid hfin.1
            have Hf2 := Lib.hid hfin2
            have Hlen := Lib.hid hlen
            clear hcc hlt2 HstN Hasc hfin hfin2 hlen
            go_wp2_with fail
            refine wp_region_aft wr.heap.size wr (by kernel_rfl) (by kernel_rfl) (Below.refl _ _) ?_
            repeat (go_big_quiet_step (fail))
            refine wpQuiet_nil ?_
            rintro _ ⟨x, rfl⟩
            have Hox : Hid (Only (fun k => k = g) w x.world) := ho.out.trans (Only.new (fun _ => False) x.below) (fun _ _ q => q.elim)
            have Hownx := Lib.hid (own_only hown.out (Only.new (fun _ => False) x.below) (fun _ _ q => q))
            generalize x.world = w3 at *
            go_wp2_with fail
            go_roundw
            case rel => exact ⟨I + 1, [] ++ y :: c2, r', Lib.hid (by rw [Hlen.out]; omega), by simp, Lib.hid (by rw [Hlen.out]; simp at hcr1 hcr2; omega), by go_num, Lib.hid (by simpa using Hownx.out), Hox, Hf1, Lib.hid Hf2.out.1, Lib.hid Hf2.out.2⟩
            case measure => simp [intOf]; omega
          · rw [List.concat_eq_append] at e
            subst e
            obtain ⟨J1, hJJ⟩ : ∃ J1, J1 = p.length + c3.length := ⟨_, rfl⟩
            have hJe : J = J1 + 1 := by rw [hJJ, hJ.out]; simp; omega
            have gJ : (p ++ ((c3 ++ [z]) ++ (y :: (c2 ++ (r' ++ s)))))[J1 + 1]? = some y := by
              rw [← hJe, hJ.out]; exact ins_mid
            have gJ1 : (p ++ ((c3 ++ [z]) ++ (y :: (c2 ++ (r' ++ s)))))[J1]? = some z := by rw [hJJ]; exact ins_low
            have hsw : St.sw2 (p ++ ((c3 ++ [z]) ++ (y :: (c2 ++ (r' ++ s))))) (J1 + 1) J1 = p ++ (c3 ++ (y :: ((z :: c2) ++ (r' ++ s)))) := by rw [hJJ]; exact ins_sw
            have hJN : J1 + 1 < N := by
              have := (List.getElem?_eq_some_iff.1 gJ).1
              simp only [List.length_append, List.length_cons, List.length_nil] at this hJ1
              omega
            obtain rfl : J = J1 + 1 := hJe
            have hda : decide ((a : Int) < ((J1 + 1 : Nat) : Int)) = true := decide_eq_true (by simp at hJ2; omega)
            have hda' : decide ((a : Int) < (J1 : Int) + 1) = true := decide_eq_true (by simp at hJ2; omega)
            have hap := fun x : Aft wr.heap.size wr => pt_aft hown.out gJ x
            have haq := fun x : Aft wr.heap.size wr => pt_aft hown.out gJ1 x
            have H1 := fun W => Lib.hid (compare_any y z W)
            have HSw := Lib.hid hsw
            have HgJ := Lib.hid gJ
            have HgJ1 := Lib.hid gJ1
            have HJJ := Lib.hid hJJ
            clear gJ gJ1 hsw hJJ
            have hi0 : (0 : Int) ≤ (J1 : Int) := by omega
            have hi1 : (J1 : Int) + 1 < (N : Int) := by omega
            have hi2 : (J1 : Int) < (N : Int) := by omega
            have hw1 : IntKind.i64.wrap ((J1 : Int) + 1 - 1) = (J1 : Int) := by rw [Int.add_sub_cancel]; exact IntWalk.i64_in _ (by omega)
            have hw2 : (J1 : Int) + 1 - 1 = (J1 : Int) := by omega
            obtain ⟨yn, yt, yv⟩ := y
            obtain ⟨zn, zt, zv⟩ := z
            simp only at hap haq
            have x0 := fun x => (hap x).1
            have x1 := fun x => (hap x).2.1
            have x2 := fun x => (hap x).2.2
            have y0 := fun x => (haq x).1
            have y1 := fun x => (haq x).2.1
            have y2 := fun x => (haq x).2.2
            clear hap haq
            by_cases hm : Pt.cmpP (yn, yt, yv) (zn, zt, zv) < 0
            · have Hlt3 : Hid (∀ x ∈ (zn, zt, zv) :: c2, Pt.cmpP (yn, yt, yv) x < 0) := fun x hx => by
                rcases List.mem_cons.1 hx with rfl | hx
                · exact hm
                · exact hlt2.out x hx
              have Hcc3 : Hid (c = c3 ++ ((zn, zt, zv) :: c2)) := by show _ = _; rw [hcc.out]; simp
              clear hcc hlt2
              generalize Pt.cmpP (yn, yt, yv) (zn, zt, zv) = cv at *
              go_wp2_with fail
              refine wp_region_aft wr.heap.size wr (by kernel_rfl) (by kernel_rfl) (Below.refl _ _) ?_
              repeat (go_big_quiet_step (first | (go_at_call 57; with_reducible exact aft_new (Nat.le_refl _) (Hid.out (H1 _)))))
              refine wpQuiet_nil ?_
              rintro _ ⟨x, rfl⟩
              have Hox : Hid (Only (fun k => k = g) w x.world) := ho.out.trans (Only.new (fun _ => False) x.below) (fun _ _ q => q.elim)
              have Hownx := Lib.hid (own_only hown.out (Only.new (fun _ => False) x.below) (fun _ _ q => q))
              clear x0 x1 x2 y0 y1 y2 hown ho H1
              generalize x.world = w3 at *
              obtain ⟨x0, x1, x2⟩ := pt_cellsQ Hownx.out HgJ.out
              obtain ⟨y0, y1, y2⟩ := pt_cellsQ Hownx.out HgJ1.out
              obtain ⟨fx0, fx1, fx2⟩ := pt_frozenS Hownx.out (J1 + 1)
              obtain ⟨fy0, fy1, fy2⟩ := pt_frozenS Hownx.out J1
              have HW := Lib.hid (own_sw Hownx.out HgJ.out HgJ1.out)
              rw [HSw.out] at HW
              simp only at x0 x1 x2 y0 y1 y2
              go_wp2_with fail
              go_region
              have Ho2 := Lib.hid (Hox.out.trans HW.out.2 (fun _ _ h => h))
              have Hw1 := Lib.hid HW.out.1
              clear HW x0 x1 x2 y0 y1 y2 fx0 fx1 fx2 fy0 fy1 fy2 Hownx Hox HSw HgJ HgJ1
              go_wp2_with fail
              go_roundw
              case rel => exact ⟨J1, c3, (zn, zt, zv) :: c2, HJJ, Hcc3, Hlt3, by go_num, by omega, Hw1, Ho2⟩
              case measure => simp [intOf]
            · have hfin := St.asc_ins (c1 := c3 ++ [(zn, zt, zv)]) (c2 := c2) (y := (yn, yt, yv)) (by rw [← hcc.out]; exact Hasc.out) hlt2.out (fun z c e => by
                have := List.append_inj_right' e rfl
                injection this with this
                rw [← this]; exact hm)
              have hlen : ((c3 ++ [(zn, zt, zv)]) ++ (yn, yt, yv) :: c2 : List Pt.Point).length = c.length + 1 := by rw [hcc.out]; simp; omega
              have hfin2 := HstN.out ((c3 ++ [(zn, zt, zv)]) ++ (yn, yt, yv) :: c2) (by rw [hcc.out]; exact hfin.2) hlen
              have Hf1 := Lib.hid hfin.1
              have Hf2 := Lib.hid hfin2
              have Hlen := Lib.hid hlen
              clear hcc hlt2 HstN Hasc hfin hfin2 hlen HSw HgJ HgJ1
              generalize Pt.cmpP (yn, yt, yv) (zn, zt, zv) = cv at *
              go_wp2_with fail
              refine wp_region_aft wr.heap.size wr (by kernel_rfl) (by kernel_rfl) (Below.refl _ _) ?_
              repeat (go_big_quiet_step (first | (go_at_call 57; with_reducible exact aft_new (Nat.le_refl _) (Hid.out (H1 _)))))
              refine wpQuiet_nil ?_
              rintro _ ⟨x, rfl⟩
              have Hox : Hid (Only (fun k => k = g) w x.world) := ho.out.trans (Only.new (fun _ => False) x.below) (fun _ _ q => q.elim)
              have Hownx := Lib.hid (own_only hown.out (Only.new (fun _ => False) x.below) (fun _ _ q => q))
              clear x0 x1 x2 y0 y1 y2 hown ho H1
              generalize x.world = w3 at *
              go_wp2_with fail
              go_roundw
              case rel => exact ⟨I + 1, (c3 ++ [(zn, zt, zv)]) ++ (yn, yt, yv) :: c2, r', Lib.hid (by rw [Hlen.out]; omega), by simp; omega, Lib.hid (by rw [Hlen.out]; simp at hcr1 hcr2; omega), by go_num, Lib.hid (by have := Hownx.out; simpa using this), Hox, Hf1, Lib.hid Hf2.out.1, Lib.hid Hf2.out.2⟩
              case measure => simp [intOf]; omega
      · have hltI : ¬ (I : Int) < (b : Int) := by omega
        obtain rfl : r = [] := List.eq_nil_of_length_eq_zero (by omega)
        have hcl : c.length = u.length := by simpa using hcr.out
        have hst' := hst.out
        rw [hcl, List.take_length] at hst'
        have Hfin : Hid (InsOk p u s (p ++ (c ++ ([] ++ s)))) := ⟨c, by simp, hcl, hasc.out, hst'⟩
        clear hst hr hasc hst' hcl
        go_wp2_with fail
        go_end0
        exact ⟨p ++ (c ++ ([] ++ s)), rfl, by have := Hl.out; simp only [List.length_append, List.length_nil] at this hcr1 hcr2 ⊢; omega, hown.out, ho.out, Hfin.out⟩
end Go.Proofs.Ythdbmgjlegpbaaa
/- The walk through slices.Concat at points. -/
namespace Go.Proofs.Ythdbmgjlegpbaaa
open Go.RowKit
set_option linter.unusedVariables false

namespace Qm
def flatL (L : List Lay) : List Pt.Point := L.flatMap (·.2.2)
theorem flatL_take (L : List Lay) (k : Nat) (hk : k < L.length) : flatL (L.take (k + 1)) = flatL (L.take k) ++ L[k].2.2 := by
  unfold flatL
  rw [List.take_succ_eq_append_getElem hk, List.flatMap_append]; simp
theorem flatL_le (L : List Lay) (k : Nat) : (flatL (L.take k)).length ≤ (flatL L).length := by
  have h : flatL L = flatL (L.take k) ++ flatL (L.drop k) := by unfold flatL; rw [← List.flatMap_append, List.take_append_drop]
  rw [h, List.length_append]; omega
theorem cells_one (xs : List Pt.Point) : ∀ u ∈ xs.flatMap pointCells, u.oneCell' = true := by
  intro u hu
  obtain ⟨x, _, hx⟩ := List.mem_flatMap.1 hu
  unfold pointCells at hx
  simp only [List.mem_cons, List.not_mem_nil, or_false] at hx
  rcases hx with rfl | rfl | rfl <;> rfl
end Qm
def RowOf (w : World) (l : List Pt.Point) (e : Ending) (w' : World) : Prop := ∃ v, e = .returned v ∧ w'.ownsRow w.heap.size 52 3 v l.length (l.flatMap pointCells) ∧ Below w.heap.size w w'
set_option maxRecDepth 100000 in
set_option maxHeartbeats 2000000 in
theorem concat_any (A : Option Addr) (c B : Nat) (L : List Lay) (w : World) (hr : Reads w B 1 A L.length (L.map layV)) (hL : ∀ y ∈ L, Reads w B 3 y.1 y.2.2.length (y.2.2.flatMap pointCells)) (hB : B ≤ w.heap.size) (hn : (Qm.flatL L).length ≤ 4398046511104) (hl : L.length ≤ 9223372036854775807) :
    Calls Try.prog 55 #[.slice A L.length c] w (RowOf w (Qm.flatL L)) := by
  obtain ⟨i0, hi, hz0, hz1, hz2⟩ := info_parts info_point
  have HR := Lib.hid hr
  have HL := Lib.hid hL
  obtain ⟨tot, htot⟩ : ∃ tot, tot = (Qm.flatL L).length := ⟨_, rfl⟩
  have Htot := Lib.hid htot
  have htn : tot ≤ 4398046511104 := by omega
  have HTk : Hid (∀ k, (Qm.flatL (L.take k)).length ≤ tot) := fun k => by rw [Htot.out]; exact Qm.flatL_le L k
  clear hr hL htot hn
  go_enter Try.func55, Try.ntmps55
  go_wp2_with fail
  go_loopw [3, 5, 11] (fun s _ i wr => ∃ (k m : Nat), k ≤ L.length ∧ i = .int .i64 (k : Int) ∧ s = .int .i64 (m : Int) ∧ m ≤ tot ∧ Hid (m = (Qm.flatL (L.take k)).length) ∧ w = wr) (fun _ _ i _ => L.length - (intOf i).toNat)
  case atStart => exact ⟨0, 0, Nat.zero_le _, rfl, rfl, Nat.zero_le _, Lib.hid rfl, rfl⟩
  case round =>
    obtain ⟨k, m, hk, rfl, rfl, hm, Hm, rfl⟩ := hrel
    by_cases hlt : k < L.length
    · obtain ⟨b, off, rfl, hbl, hc⟩ := HR.out.2 (by omega)
      have hcm : w.cell? ⟨b, off + k, none⟩ = some (layV L[k]) := hc k _ (by simp [hlt])
      have HN := Qm.flatL_take L k hlt
      have HT := HTk.out (k + 1)
      rw [HN, List.length_append, ← Hm.out] at HT
      have HN' : Hid (m + L[k].2.2.length = (Qm.flatL (L.take (k + 1))).length) := by show _ = _; rw [HN, List.length_append, ← Hm.out]
      clear hc HN
      generalize L[k] = y at *
      obtain ⟨ya, yc, ps⟩ := y
      unfold layV at hcm
      dsimp only at hcm HT HN'
      have h0 : (0 : Int) ≤ (m : Int) + (ps.length : Int) := by omega
      go_wp2_with fail
      go_roundw
      case rel => exact ⟨k + 1, m + ps.length, by omega, by go_num, by go_num, HT, HN', trivial⟩
      case measure => simp [intOf]; omega
    · have hkl : k = L.length := by omega
      have HG := Lib.hid (growP_any m w (by omega))
      clear hkl Hm
      go_wp2_with fail
      refine HG.out.mono ?_
      rintro e w1 ⟨v1, rfl, hown1, hb1⟩
      have Hown1 := Lib.hid hown1
      have Hb1 := Lib.hid hb1
      clear hown1 hb1 HG
      go_wp2_with fail
      go_loopw [6, 8, 27] (fun v _ i wr => ∃ (k : Nat), k ≤ L.length ∧ i = .int .i64 (k : Int) ∧ Hid (wr.ownsRow w.heap.size 52 3 v (Qm.flatL (L.take k)).length ((Qm.flatL (L.take k)).flatMap pointCells)) ∧ Hid (Below w.heap.size w wr)) (fun _ _ i _ => L.length - (intOf i).toNat)
      case atStart => exact ⟨0, Nat.zero_le _, rfl, Hown1, Hb1⟩
      case round =>
        clear Hown1 Hb1 HTk
        obtain ⟨k2, hk2, rfl, hown, hbw⟩ := hrel
        have hsw := hbw.out.size
        by_cases hlt2 : k2 < L.length
        · obtain ⟨b, off, rfl, hbl, hc⟩ := HR.out.2 (by omega)
          have hcm : wr.cell? ⟨b, off + k2, none⟩ = some (layV L[k2]) := (hbw.out.cell (p := ⟨b, off + k2, none⟩) (show b < w.heap.size by omega)).trans (hc k2 _ (by simp [hlt2]))
          have HN := Qm.flatL_take L k2 hlt2
          have HT := Qm.flatL_le L (k2 + 1)
          have hry := ((HL.out _ (List.getElem_mem hlt2)).more hB).below hbw.out
          have HN' := Lib.hid HN
          rw [HN, List.length_append, ← Htot.out] at HT
          clear hc HN
          generalize L[k2] = y at *
          obtain ⟨ya, yc, ps⟩ := y
          unfold layV at hcm
          dsimp only at hcm HT HN' hry
          obtain ⟨pre, hpre⟩ : ∃ pre, pre = Qm.flatL (L.take k2) := ⟨_, rfl⟩
          rw [← hpre] at hown HT HN'
          have Hry := Lib.hid hry
          clear hry hpre
          go_wp2_with (at_builtin; refine wpList_append_all _ rfl _ _ 38 rfl w.heap.size 52 i0 _ 3 32 Try.underlying38 hi hz0 hz1 hz2 rfl (by decide) _ pre.length (pre.flatMap pointCells) (by rfl) hown.out w.heap.size ya ps.length yc (ps.flatMap pointCells) (by rfl) Hry.out (Qm.cells_one ps) (by unfold maxLen; omega) (by omega) w hbw.out hsw ?_; intro v3 w3 hown3 hb3 _)
          have Hown3 : Hid (w3.ownsRow w.heap.size 52 3 v3 (Qm.flatL (L.take (k2 + 1))).length ((Qm.flatL (L.take (k2 + 1))).flatMap pointCells)) := by
            show World.ownsRow _ _ _ _ _ _ _
            rw [HN'.out, List.length_append, List.flatMap_append]; exact hown3
          have Hb3 := Lib.hid hb3
          clear hown3 hb3
          go_wp2_with fail
          go_roundw
          case rel => exact ⟨k2 + 1, by omega, by go_num, Hown3, Hb3⟩
          case measure => simp [intOf]; omega
        · have htk : L.take k2 = L := List.take_of_length_le (by omega)
          rw [htk] at hown
          clear htk
          go_wp2_with fail
          go_ret
          exact ⟨_, rfl, hown.out, hbw.out⟩
end Go.Proofs.Ythdbmgjlegpbaaa
/- query.Merge, plain: the last of each series and time out of a stably sorted list. Of no program. -/
namespace Go.Proofs.Ythdbmgjlegpbaaa
set_option linter.unusedVariables false
namespace Qm
open St Ig
/-- each but those with an equal one behind -/
def dd : List Pt.Point → List Pt.Point
  | [] => []
  | [p] => [p]
  | p :: q :: r => if Pt.cmpP p q = 0 then dd (q :: r) else p :: dd (q :: r)
theorem dd_skip {p q : Pt.Point} {r : List Pt.Point} (h : Pt.cmpP p q = 0) : dd (p :: q :: r) = dd (q :: r) := by rw [dd, if_pos h]
theorem dd_keep {p : Pt.Point} {r : List Pt.Point} (h : ∀ q s, r = q :: s → ¬ Pt.cmpP p q = 0) : dd (p :: r) = p :: dd r := by
  cases r with
  | nil => rfl
  | cons q s => rw [dd, if_neg (h q s rfl)]
theorem dd_sub (l : List Pt.Point) : ∀ x, x ∈ dd l → x ∈ l := by
  induction l with
  | nil => intro x h; exact h
  | cons p r ih =>
    intro x h
    cases r with
    | nil => exact h
    | cons q s =>
      unfold dd at h
      split at h
      · exact List.mem_cons_of_mem _ (ih x h)
      · rcases List.mem_cons.1 h with rfl | h
        · exact List.mem_cons_self ..
        · exact List.mem_cons_of_mem _ (ih x h)
theorem dd_len (l : List Pt.Point) : (dd l).length ≤ l.length := by
  induction l with
  | nil => exact Nat.le_refl _
  | cons p r ih =>
    cases r with
    | nil => exact Nat.le_refl _
    | cons q s =>
      unfold dd
      split
      · exact Nat.le_trans ih (Nat.le_succ _)
      · rw [List.length_cons, List.length_cons]; exact Nat.succ_le_succ ih
theorem lt_of_asc {p q : Pt.Point} (h : ¬ Pt.cmpP q p < 0) (hn : ¬ Pt.cmpP p q = 0) : Pt.cmpP p q < 0 := by
  have := cmp_neg p q
  omega
theorem dd_sorted {l : List Pt.Point} (h : Asc l) : Sorted (dd l) := by
  rw [sorted_pair]
  induction l with
  | nil => exact List.Pairwise.nil
  | cons p r ih =>
    obtain ⟨h1, h2⟩ := List.pairwise_cons.1 h
    cases r with
    | nil => exact List.pairwise_singleton _ _
    | cons q s =>
      unfold dd
      split
      · exact ih h2
      · rename_i hn
        refine List.pairwise_cons.2 ⟨fun x hx => ?_, ih h2⟩
        have hpq := lt_of_asc (h1 q (List.mem_cons_self ..)) hn
        have hx' := dd_sub _ x hx
        rcases List.mem_cons.1 hx' with rfl | hx'
        · exact hpq
        · exact lt_of_lt_le hpq ((List.pairwise_cons.1 h2).1 x hx')
theorem fl_cons (x p : Pt.Point) (r : List Pt.Point) : fl x (p :: r) = if Pt.cmpP p x = 0 then p :: fl x r else fl x r := by
  unfold fl
  by_cases h : Pt.cmpP p x = 0
  · rw [if_pos h, List.filter_cons_of_pos (by simp [h])]
  · rw [if_neg h, List.filter_cons_of_neg (by simp [h])]
theorem last_cons {p : Pt.Point} {l : List Pt.Point} (h : l ≠ []) : (p :: l).getLast? = l.getLast? := by
  cases l with
  | nil => exact absurd rfl h
  | cons q r => simp [List.getLast?_cons_cons]
theorem dd_mem {l : List Pt.Point} (h : Asc l) (x : Pt.Point) : x ∈ dd l ↔ (fl x l).getLast? = some x := by
  induction l with
  | nil => simp [dd, fl]
  | cons p r ih =>
    obtain ⟨h1, h2⟩ := List.pairwise_cons.1 h
    have ih' := ih h2
    cases r with
    | nil =>
      rw [fl_cons]
      by_cases hp : Pt.cmpP p x = 0
      · rw [if_pos hp]
        show x ∈ [p] ↔ _
        simp [fl, eq_comm]
      · rw [if_neg hp]
        show x ∈ [p] ↔ _
        rw [List.mem_singleton]
        constructor
        · rintro rfl; exact absurd (cmp_self x) hp
        · intro h; simp [fl] at h
    | cons q s =>
      rw [fl_cons]
      by_cases hn : Pt.cmpP p q = 0
      · rw [dd_skip hn, ih']
        by_cases hp : Pt.cmpP p x = 0
        · rw [if_pos hp, last_cons]
          rw [fl_cons, if_pos (by rw [← cmp_left hn]; exact hp)]
          exact List.cons_ne_nil _ _
        · rw [if_neg hp]
      · have hpq := lt_of_asc (h1 q (List.mem_cons_self ..)) hn
        have hlt : ∀ y ∈ q :: s, Pt.cmpP p y < 0 := fun y hy => by
          rcases List.mem_cons.1 hy with rfl | hy
          · exact hpq
          · exact lt_of_lt_le hpq ((List.pairwise_cons.1 h2).1 y hy)
        rw [dd_keep (fun q' s' e => by injection e with e1 e2; rw [← e1]; exact hn), List.mem_cons, ih']
        by_cases hp : Pt.cmpP p x = 0
        · have hnil : fl x (q :: s) = [] := by
            rw [List.eq_nil_iff_forall_not_mem]
            intro y hy
            obtain ⟨hy1, hy2⟩ := mem_fl.1 hy
            have := hlt y hy1
            rw [cmp_left hp] at this
            have := cmp_neg x y
            omega
          rw [if_pos hp, hnil]
          simp [eq_comm]
        · rw [if_neg hp]
          constructor
          · rintro (rfl | h)
            · exact absurd (cmp_self x) hp
            · exact h
          · exact .inr
theorem set_mem (qs : List Pt.Point) (x : Pt.Point) : x ∈ setAll [] qs ↔ (fl x qs).getLast? = some x := by
  have key : ∀ k, k ≤ qs.length → (x ∈ setAll [] (qs.take k) ↔ (fl x (qs.take k)).getLast? = some x) := fun k => by
    induction k with
    | zero => intro _; simp [setAll, fl]
    | succ k ih =>
      intro hk
      have ih' := ih (by omega)
      rw [setAll_snoc [] qs k (by omega), mem_setP_iff (setAll_sorted sorted_nil _), List.take_succ_eq_append_getElem (by omega), fl_append, ih']
      generalize qs[k]'(by omega) = p
      by_cases hp : Pt.cmpP p x = 0
      · have e : fl x [p] = [p] := by rw [fl_cons, if_pos hp]; rfl
        rw [e, List.getLast?_append]
        simp only [List.getLast?_singleton, Option.some_or, Option.some.injEq]
        constructor
        · rintro (rfl | ⟨_, h⟩)
          · rfl
          · have := cmp_neg x p; omega
        · rintro rfl; exact .inl rfl
      · have e : fl x [p] = [] := by rw [fl_cons, if_neg hp]; rfl
        rw [e, List.append_nil]
        constructor
        · rintro (rfl | ⟨h, _⟩)
          · exact absurd (cmp_self x) hp
          · exact h
        · intro h
          refine .inr ⟨h, fun h0 => hp ?_⟩
          have := cmp_neg x p
          omega
  have := key qs.length (Nat.le_refl _)
  rwa [List.take_length] at this
theorem dd_set {qs l : List Pt.Point} (ha : Asc l) (hs : Stab qs l) : dd l = setAll [] qs :=
  sorted_ext (dd_sorted ha) (setAll_sorted sorted_nil _) fun x => by rw [dd_mem ha, set_mem, hs x]
/-- what query.Merge answers -/
def mergeP (a b : List Pt.Point) : List Pt.Point := setAll [] (a ++ b)
end Qm
end Go.Proofs.Ythdbmgjlegpbaaa
/- The walk through slices.symMergeCmpFunc at points: the first row is one point. -/
namespace Go.Proofs.Ythdbmgjlegpbaaa
open Go.RowKit
set_option linter.unusedVariables false

/-- a merge within a row -/
def SymOk (p A B s : List Pt.Point) (l' : List Pt.Point) : Prop := ∃ C, l' = p ++ (C ++ s) ∧ St.Mg A B C
theorem at_a {p A B s : List Pt.Point} {k : Nat} (h : k < A.length) : (p ++ (A ++ (B ++ s)))[p.length + k]? = A[k]? := by
  rw [List.getElem?_append_right (by omega), Nat.add_sub_cancel_left, List.getElem?_append_left h]
theorem at_b {p A B s : List Pt.Point} {k : Nat} (h : k < B.length) : (p ++ (A ++ (B ++ s)))[p.length + A.length + k]? = B[k]? := by
  rw [List.getElem?_append_right (by omega), List.getElem?_append_right (by omega), show p.length + A.length + k - p.length - A.length = k from by omega, List.getElem?_append_left h]
theorem up_sw {p B s : List Pt.Point} {x : Pt.Point} {k : Nat} (h : k < B.length) : St.sw2 (p ++ (B.take k ++ (x :: (B.drop k ++ s)))) (p.length + k) (p.length + k + 1) = p ++ (B.take (k + 1) ++ (x :: (B.drop (k + 1) ++ s))) := by
  have hl : (B.take k).length = k := by rw [List.length_take]; omega
  have e : p ++ (B.take k ++ (x :: (B.drop k ++ s))) = (p ++ B.take k) ++ (x :: B[k] :: (B.drop (k + 1) ++ s)) := by
    rw [show B.drop k = B[k] :: B.drop (k + 1) from List.drop_eq_getElem_cons h]; simp only [List.append_assoc, List.cons_append]
  have e2 : p ++ (B.take (k + 1) ++ (x :: (B.drop (k + 1) ++ s))) = (p ++ B.take k) ++ (B[k] :: x :: (B.drop (k + 1) ++ s)) := by
    rw [show B.take (k + 1) = B.take k ++ [B[k]] from List.take_succ_eq_append_getElem h]; simp only [List.append_assoc, List.cons_append, List.nil_append]
  rw [e, e2]
  have := St.sw2_mid (p ++ B.take k) x B[k] (B.drop (k + 1) ++ s)
  rw [List.length_append, hl] at this
  exact this
theorem up_at {p B s : List Pt.Point} {x : Pt.Point} {k : Nat} (h : k < B.length) : (p ++ (B.take k ++ (x :: (B.drop k ++ s))))[p.length + k]? = some x ∧ (p ++ (B.take k ++ (x :: (B.drop k ++ s))))[p.length + k + 1]? = some B[k] := by
  have hl : (B.take k).length = k := by rw [List.length_take]; omega
  constructor
  · rw [List.getElem?_append_right (by omega), Nat.add_sub_cancel_left, List.getElem?_append_right (by omega), hl, Nat.sub_self]; rfl
  · rw [List.getElem?_append_right (by omega), show p.length + k + 1 - p.length = k + 1 from by omega, List.getElem?_append_right (by omega), hl, show k + 1 - k = 1 from by omega, List.getElem?_cons_succ, List.drop_eq_getElem_cons h]; rfl
set_option maxRecDepth 100000 in
set_option maxHeartbeats 4000000 in
theorem symMerge_oneA (base g N cap : Nat) (p B s : List Pt.Point) (x : Pt.Point) (a m b : Nat) (w : World) (hown : w.ownsRow base 52 3 (.slice (some ⟨g, 0, none⟩) N cap) N ((p ++ ([x] ++ (B ++ s))).flatMap pointCells)) (hl : (p ++ ([x] ++ (B ++ s))).length = N) (ha : a = p.length) (hm : m = p.length + 1) (hb : b = p.length + 1 + B.length) (hN : N ≤ 4611686018427387904) :
    Calls Try.prog 96 #[.slice (some ⟨g, 0, none⟩) N cap, .int .i64 (a : Int), .int .i64 (m : Int), .int .i64 (b : Int), cmpF] w (RowPost w base g N cap (SymOk p [x] B s)) := by
  have hlN : b ≤ N := by rw [← hl, hb]; simp only [List.length_append, List.length_cons, List.length_nil]; omega
  have hma : (m : Int) - (a : Int) = 1 := by omega
  have ha1 := Nat.le_of_eq ha
  have ha2 := Nat.le_of_eq ha.symm
  have hm1 := Nat.le_of_eq hm
  have hm2 := Nat.le_of_eq hm.symm
  have hb1 := Nat.le_of_eq hb
  have hb2 := Nat.le_of_eq hb.symm
  have gx : (p ++ ([x] ++ (B ++ s)))[a]? = some x := by
    have := @at_a p [x] B s 0 (by simp)
    rw [Nat.add_zero, ← ha] at this
    exact this
  have HgB : Hid (∀ k, m ≤ k → k < b → (p ++ ([x] ++ (B ++ s)))[k]? = B[k - m]?) := fun k h1 h2 => by
    have := @at_b p [x] B s (k - m) (by omega)
    rw [show p.length + [x].length + (k - m) = k from by show p.length + 1 + (k - m) = k; omega] at this
    exact this
  have Ha := Lib.hid ha
  have Hgx := Lib.hid gx
  have H0 := Lib.hid hown
  have Hl := Lib.hid hl
  clear hown hl ha hm hb gx
  unfold cmpF
  obtain ⟨xn, xt, xv⟩ := x
  go_enter Try.func96, Try.ntmps96
  go_wp2_with fail
  go_loopw [10, 11, 12] (fun u v _ wr => ∃ I J : Nat, m ≤ I ∧ I ≤ J ∧ J ≤ b ∧ u = .int .i64 (I : Int) ∧ v = .int .i64 (J : Int) ∧ Hid (∀ h : m < I, ∃ q, B[I - 1 - m]? = some q ∧ Pt.cmpP q (xn, xt, xv) < 0) ∧ Hid (∀ h : J < b, ∃ q, B[J - m]? = some q ∧ 0 ≤ Pt.cmpP q (xn, xt, xv)) ∧ Hid (wr.ownsRow base 52 3 (.slice (some ⟨g, 0, none⟩) N cap) N ((p ++ ([(xn, xt, xv)] ++ (B ++ s))).flatMap pointCells)) ∧ Hid (Only (fun k => k = g) w wr)) (fun u v _ _ => (intOf v).toNat - (intOf u).toNat)
  case atStart => exact ⟨m, b, Nat.le_refl _, by omega, Nat.le_refl _, rfl, rfl, Lib.hid (fun h => absurd h (by omega)), Lib.hid (fun h => absurd h (by omega)), H0, Lib.hid (Only.refl _ _)⟩
  case round =>
    obtain ⟨I, J, hI, hIJ, hJ, rfl, rfl, hlo, hhi, hown, ho⟩ := hrel
    by_cases hlt : I < J
    · have hltI : (I : Int) < (J : Int) := by omega
      obtain ⟨h, hh⟩ : ∃ h, (I + J) / 2 = h := ⟨_, rfl⟩
      have hhI : ((I : Int) + (J : Int)) / 2 = (h : Int) := by omega
      have hh1 : I ≤ h ∧ h < J := by omega
      have hhn0 : (0 : Int) ≤ (h : Int) := by omega
      have hhn1 : (h : Int) < (N : Int) := by omega
      have han0 : (0 : Int) ≤ (a : Int) := by omega
      have han1 : (a : Int) < (N : Int) := by omega
      have hqB : h - m < B.length := by omega
      have gq : (p ++ ([(xn, xt, xv)] ++ (B ++ s)))[h]? = some B[h - m] := by rw [HgB.out h (by omega) (by omega), List.getElem?_eq_getElem hqB]
      have hBq : B[h - m]? = some B[h - m] := List.getElem?_eq_getElem hqB
      have hap := fun x : Aft wr.heap.size wr => pt_aft hown.out gq x
      have haq := fun x : Aft wr.heap.size wr => pt_aft hown.out Hgx.out x
      have H1 := fun W => Lib.hid (compare_any B[h - m] (xn, xt, xv) W)
      have HBq := Lib.hid hBq
      clear gq hBq hh
      generalize B[h - m] = q at *
      obtain ⟨qn, qt, qv⟩ := q
      simp only at hap haq
      have x0 := fun x => (hap x).1
      have x1 := fun x => (hap x).2.1
      have x2 := fun x => (hap x).2.2
      have y0 := fun x => (haq x).1
      have y1 := fun x => (haq x).2.1
      have y2 := fun x => (haq x).2.2
      clear hap haq
      by_cases hc : Pt.cmpP (qn, qt, qv) (xn, xt, xv) < 0
      · have hlo2 : Hid (∀ hh : m < h + 1, ∃ q, B[h + 1 - 1 - m]? = some q ∧ Pt.cmpP q (xn, xt, xv) < 0) := fun _ => ⟨(qn, qt, qv), HBq.out, hc⟩
        clear hlo
        generalize Pt.cmpP (qn, qt, qv) (xn, xt, xv) = cv at *
        go_wp2_with fail
        refine wp_region_aft wr.heap.size wr (by kernel_rfl) (by kernel_rfl) (Below.refl _ _) ?_
        repeat (go_big_quiet_step (first | (go_at_call 57; with_reducible exact aft_new (Nat.le_refl _) (Hid.out (H1 _)))))
        refine wpQuiet_nil ?_
        rintro _ ⟨x, rfl⟩
        have Hox : Hid (Only (fun k => k = g) w x.world) := ho.out.trans (Only.new (fun _ => False) x.below) (fun _ _ q => q.elim)
        have Hownx := Lib.hid (own_only hown.out (Only.new (fun _ => False) x.below) (fun _ _ q => q))
        clear x0 x1 x2 y0 y1 y2 hown ho H1
        generalize x.world = w3 at *
        go_wp2_with fail
        go_roundw
        case rel => exact ⟨h + 1, J, by omega, by omega, hJ, by go_num, rfl, hlo2, hhi, Hownx, Hox⟩
        case measure => simp [intOf]; omega
      · have hhi2 : Hid (∀ hh : h < b, ∃ q, B[h - m]? = some q ∧ 0 ≤ Pt.cmpP q (xn, xt, xv)) := fun _ => ⟨(qn, qt, qv), HBq.out, by omega⟩
        clear hhi
        generalize Pt.cmpP (qn, qt, qv) (xn, xt, xv) = cv at *
        go_wp2_with fail
        refine wp_region_aft wr.heap.size wr (by kernel_rfl) (by kernel_rfl) (Below.refl _ _) ?_
        repeat (go_big_quiet_step (first | (go_at_call 57; with_reducible exact aft_new (Nat.le_refl _) (Hid.out (H1 _)))))
        refine wpQuiet_nil ?_
        rintro _ ⟨x, rfl⟩
        have Hox : Hid (Only (fun k => k = g) w x.world) := ho.out.trans (Only.new (fun _ => False) x.below) (fun _ _ q => q.elim)
        have Hownx := Lib.hid (own_only hown.out (Only.new (fun _ => False) x.below) (fun _ _ q => q))
        clear x0 x1 x2 y0 y1 y2 hown ho H1
        generalize x.world = w3 at *
        go_wp2_with fail
        go_roundw
        case rel => exact ⟨I, h, hI, by omega, by omega, rfl, rfl, hlo, hhi2, Hownx, Hox⟩
        case measure => simp [intOf]; omega
    · obtain rfl : I = J := by omega
      have hMg : Hid (St.Mg [(xn, xt, xv)] B (B.take (I - m) ++ (xn, xt, xv) :: B.drop (I - m))) := by
        refine St.mg_one_left (by omega) (fun h => ?_) (fun h => ?_)
        · obtain ⟨q, hq, hc⟩ := hlo.out (by omega)
          obtain ⟨hq1, hq2⟩ := List.getElem?_eq_some_iff.1 hq
          rw [← hq2] at hc
          have e : I - m - 1 = I - 1 - m := by omega
          simp only [e]
          exact hc
        · obtain ⟨q, hq, hc⟩ := hhi.out (by omega)
          obtain ⟨hq1, hq2⟩ := List.getElem?_eq_some_iff.1 hq
          rw [← hq2] at hc
          omega
      have hIm : I - m ≤ B.length := by omega
      obtain ⟨i, hi⟩ : ∃ i, I - m = i := ⟨_, rfl⟩
      rw [hi] at hMg hIm
      have hIi : I = a + 1 + i := by omega
      have hI1 := Nat.le_of_eq hIi
      have hI2 := Nat.le_of_eq hIi.symm
      have hpl : (p ++ (B.take 0 ++ ((xn, xt, xv) :: (B.drop 0 ++ s)))) = p ++ ([(xn, xt, xv)] ++ (B ++ s)) := by simp
      have Hpl := Lib.hid hpl
      clear hlo hhi hi hIi hpl HgB Hgx
      generalize wr = Wo at *
      go_wp2_with fail
      go_loopw [13] (fun u wr => ∃ Kn k : Nat, Hid (Kn = a + k) ∧ k ≤ i ∧ u = .int .i64 (Kn : Int) ∧ Hid (wr.ownsRow base 52 3 (.slice (some ⟨g, 0, none⟩) N cap) N ((p ++ (B.take k ++ ((xn, xt, xv) :: (B.drop k ++ s)))).flatMap pointCells)) ∧ Hid (Only (fun k => k = g) w wr)) (fun u _ => I - (intOf u).toNat)
      case atStart => exact ⟨a, 0, Lib.hid (by omega), Nat.zero_le _, rfl, Lib.hid (by rw [Hpl.out]; exact hown.out), ho⟩
      case round =>
        clear hown ho
        obtain ⟨Kn, k, hKn, hki, rfl, hown, ho⟩ := hrel
        have hK1 := Nat.le_of_eq hKn.out
        have hK2 := Nat.le_of_eq hKn.out.symm
        by_cases hlt2 : k < i
        · have hki2 : (Kn : Int) < (I : Int) - 1 := by omega
          have hkB : k < B.length := by omega
          obtain ⟨g1, g2⟩ := @up_at p B s (xn, xt, xv) k hkB
          have gs := @up_sw p B s (xn, xt, xv) k hkB
          have eK : Kn = p.length + k := by rw [hKn.out, Ha.out]
          rw [← eK] at g1 g2 gs
          have hW := own_sw hown.out g1 g2
          rw [gs] at hW
          have HW := Lib.hid hW
          obtain ⟨x0, x1, x2⟩ := pt_cellsQ hown.out g1
          obtain ⟨y0, y1, y2⟩ := pt_cellsQ hown.out g2
          obtain ⟨fx0, fx1, fx2⟩ := pt_frozenS hown.out Kn
          obtain ⟨fy0, fy1, fy2⟩ := pt_frozenS hown.out (Kn + 1)
          have hn0 : (0 : Int) ≤ (Kn : Int) := by omega
          have hn1 : (Kn : Int) + 1 < (N : Int) := by omega
          have hn2 : (Kn : Int) < (N : Int) := by omega
          have hn3 : IntKind.i64.wrap ((Kn : Int) + 1) = (Kn : Int) + 1 := IntWalk.i64_in _ (by omega)
          clear g1 g2 gs eK hW
          generalize B[k] = q at *
          obtain ⟨qn, qt, qv⟩ := q
          simp only at y0 y1 y2 x0 x1 x2
          go_wp2_with fail
          go_region
          have Ho2 := Lib.hid (ho.out.trans HW.out.2 (fun _ _ h => h))
          have Hw1 := Lib.hid HW.out.1
          clear HW x0 x1 x2 y0 y1 y2 fx0 fx1 fx2 fy0 fy1 fy2 hown ho
          go_wp2_with fail
          go_roundw
          case rel => exact ⟨Kn + 1, k + 1, Lib.hid (by rw [hKn.out]; omega), by omega, by go_num, Hw1, Ho2⟩
          case measure => simp [intOf]; omega
        · obtain rfl : k = i := by omega
          have hki2 : ¬ (Kn : Int) < (I : Int) - 1 := by omega
          have hlen : (p ++ (B.take k ++ ((xn, xt, xv) :: (B.drop k ++ s)))).length = N := by
            have := Hl.out
            simp only [List.length_append, List.length_cons, List.length_nil, List.length_take, List.length_drop] at this ⊢
            omega
          have Hlen := Lib.hid hlen
          clear hlen
          go_wp2_with fail
          go_end0
          exact ⟨_, rfl, Hlen.out, hown.out, ho.out, B.take k ++ (xn, xt, xv) :: B.drop k, by simp, hMg.out⟩
end Go.Proofs.Ythdbmgjlegpbaaa
/- The walk through slices.symMergeCmpFunc at points: the second row is one point. -/
namespace Go.Proofs.Ythdbmgjlegpbaaa
open Go.RowKit
set_option linter.unusedVariables false

theorem down_at {p A s : List Pt.Point} {y : Pt.Point} {k : Nat} (h : k < A.length) : (p ++ (A.take (k + 1) ++ (y :: (A.drop (k + 1) ++ s))))[p.length + k + 1]? = some y ∧ (p ++ (A.take (k + 1) ++ (y :: (A.drop (k + 1) ++ s))))[p.length + k]? = some A[k] := by
  have hl : (A.take (k + 1)).length = k + 1 := by rw [List.length_take]; omega
  constructor
  · rw [List.getElem?_append_right (by omega), show p.length + k + 1 - p.length = k + 1 from by omega, List.getElem?_append_right (by omega), hl, Nat.sub_self]; rfl
  · rw [List.getElem?_append_right (by omega), Nat.add_sub_cancel_left, List.getElem?_append_left (by omega), List.getElem?_take, if_pos (by omega), List.getElem?_eq_getElem h]
theorem down_sw {p A s : List Pt.Point} {y : Pt.Point} {k : Nat} (h : k < A.length) : St.sw2 (p ++ (A.take (k + 1) ++ (y :: (A.drop (k + 1) ++ s)))) (p.length + k + 1) (p.length + k) = p ++ (A.take k ++ (y :: (A.drop k ++ s))) := by
  have hl : (A.take k).length = k := by rw [List.length_take]; omega
  have e : p ++ (A.take (k + 1) ++ (y :: (A.drop (k + 1) ++ s))) = (p ++ A.take k) ++ (A[k] :: y :: (A.drop (k + 1) ++ s)) := by
    rw [show A.take (k + 1) = A.take k ++ [A[k]] from List.take_succ_eq_append_getElem h]; simp only [List.append_assoc, List.cons_append, List.nil_append]
  have e2 : p ++ (A.take k ++ (y :: (A.drop k ++ s))) = (p ++ A.take k) ++ (y :: A[k] :: (A.drop (k + 1) ++ s)) := by
    rw [show A.drop k = A[k] :: A.drop (k + 1) from List.drop_eq_getElem_cons h]; simp only [List.append_assoc, List.cons_append]
  rw [St.sw2_comm (by simp; omega) (by simp; omega), e, e2]
  have := St.sw2_mid (p ++ A.take k) A[k] y (A.drop (k + 1) ++ s)
  rw [List.length_append, hl] at this
  exact this
set_option maxRecDepth 100000 in
set_option maxHeartbeats 4000000 in
theorem symMerge_oneB (base g N cap : Nat) (p A s : List Pt.Point) (y : Pt.Point) (a m b : Nat) (w : World) (hown : w.ownsRow base 52 3 (.slice (some ⟨g, 0, none⟩) N cap) N ((p ++ (A ++ ([y] ++ s))).flatMap pointCells)) (hl : (p ++ (A ++ ([y] ++ s))).length = N) (ha : a = p.length) (hA : 2 ≤ A.length) (hm : m = p.length + A.length) (hb : b = p.length + A.length + 1) (hN : N ≤ 4611686018427387904) :
    Calls Try.prog 96 #[.slice (some ⟨g, 0, none⟩) N cap, .int .i64 (a : Int), .int .i64 (m : Int), .int .i64 (b : Int), cmpF] w (RowPost w base g N cap (SymOk p A [y] s)) := by
  have hlN : b ≤ N := by rw [← hl, hb]; simp only [List.length_append, List.length_cons, List.length_nil]; omega
  have hma : ((m : Int) - (a : Int) == 1) = false := beq_eq_false_iff_ne.2 (by omega)
  have hbm : (b : Int) - (m : Int) = 1 := by omega
  have ha1 := Nat.le_of_eq ha
  have ha2 := Nat.le_of_eq ha.symm
  have hm1 := Nat.le_of_eq hm
  have hm2 := Nat.le_of_eq hm.symm
  have hb1 := Nat.le_of_eq hb
  have hb2 := Nat.le_of_eq hb.symm
  have gx : (p ++ (A ++ ([y] ++ s)))[m]? = some y := by
    have := @at_b p A [y] s 0 (by simp)
    rw [Nat.add_zero, ← hm] at this
    exact this
  have HgB : Hid (∀ k, a ≤ k → k < m → (p ++ (A ++ ([y] ++ s)))[k]? = A[k - a]?) := fun k h1 h2 => by
    have := @at_a p A [y] s (k - a) (by omega)
    rw [show p.length + (k - a) = k from by omega] at this
    exact this
  have Ha := Lib.hid ha
  have Hgx := Lib.hid gx
  have H0 := Lib.hid hown
  have Hl := Lib.hid hl
  clear hown hl ha hm hb gx
  unfold cmpF
  obtain ⟨xn, xt, xv⟩ := y
  go_enter Try.func96, Try.ntmps96
  go_wp2_with fail
  go_loopw [14, 15, 16] (fun u v _ wr => ∃ I J : Nat, a ≤ I ∧ I ≤ J ∧ J ≤ m ∧ u = .int .i64 (I : Int) ∧ v = .int .i64 (J : Int) ∧ Hid (∀ h : a < I, ∃ q, A[I - 1 - a]? = some q ∧ 0 ≤ Pt.cmpP (xn, xt, xv) q) ∧ Hid (∀ h : J < m, ∃ q, A[J - a]? = some q ∧ Pt.cmpP (xn, xt, xv) q < 0) ∧ Hid (wr.ownsRow base 52 3 (.slice (some ⟨g, 0, none⟩) N cap) N ((p ++ (A ++ ([(xn, xt, xv)] ++ s))).flatMap pointCells)) ∧ Hid (Only (fun k => k = g) w wr)) (fun u v _ _ => (intOf v).toNat - (intOf u).toNat)
  case atStart => exact ⟨a, m, Nat.le_refl _, by omega, Nat.le_refl _, rfl, rfl, Lib.hid (fun h => absurd h (by omega)), Lib.hid (fun h => absurd h (by omega)), H0, Lib.hid (Only.refl _ _)⟩
  case round =>
    obtain ⟨I, J, hI, hIJ, hJ, rfl, rfl, hlo, hhi, hown, ho⟩ := hrel
    by_cases hlt : I < J
    · have hltI : (I : Int) < (J : Int) := by omega
      obtain ⟨h, hh⟩ : ∃ h, (I + J) / 2 = h := ⟨_, rfl⟩
      have hhI : ((I : Int) + (J : Int)) / 2 = (h : Int) := by omega
      have hh1 : I ≤ h ∧ h < J := by omega
      have hhn0 : (0 : Int) ≤ (h : Int) := by omega
      have hhn1 : (h : Int) < (N : Int) := by omega
      have han0 : (0 : Int) ≤ (m : Int) := by omega
      have han1 : (m : Int) < (N : Int) := by omega
      have hqB : h - a < A.length := by omega
      have gq : (p ++ (A ++ ([(xn, xt, xv)] ++ s)))[h]? = some A[h - a] := by rw [HgB.out h (by omega) (by omega), List.getElem?_eq_getElem hqB]
      have hBq : A[h - a]? = some A[h - a] := List.getElem?_eq_getElem hqB
      have hap := fun x : Aft wr.heap.size wr => pt_aft hown.out gq x
      have haq := fun x : Aft wr.heap.size wr => pt_aft hown.out Hgx.out x
      have H1 := fun W => Lib.hid (compare_any (xn, xt, xv) A[h - a] W)
      have HBq := Lib.hid hBq
      clear gq hBq hh
      generalize A[h - a] = q at *
      obtain ⟨qn, qt, qv⟩ := q
      simp only at hap haq
      have x0 := fun x => (hap x).1
      have x1 := fun x => (hap x).2.1
      have x2 := fun x => (hap x).2.2
      have y0 := fun x => (haq x).1
      have y1 := fun x => (haq x).2.1
      have y2 := fun x => (haq x).2.2
      clear hap haq
      by_cases hc : Pt.cmpP (xn, xt, xv) (qn, qt, qv) < 0
      · have hhi2 : Hid (∀ hh : h < m, ∃ q, A[h - a]? = some q ∧ Pt.cmpP (xn, xt, xv) q < 0) := fun _ => ⟨(qn, qt, qv), HBq.out, hc⟩
        clear hhi
        have hdc : decide (Pt.cmpP (xn, xt, xv) (qn, qt, qv) < 0) = true := decide_eq_true hc
        generalize Pt.cmpP (xn, xt, xv) (qn, qt, qv) = cv at *
        go_wp2_with fail
        refine wp_region_aft wr.heap.size wr (by kernel_rfl) (by kernel_rfl) (Below.refl _ _) ?_
        repeat (go_big_quiet_step (first | (go_at_call 57; with_reducible exact aft_new (Nat.le_refl _) (Hid.out (H1 _)))))
        refine wpQuiet_nil ?_
        rintro _ ⟨x, rfl⟩
        have Hox : Hid (Only (fun k => k = g) w x.world) := ho.out.trans (Only.new (fun _ => False) x.below) (fun _ _ q => q.elim)
        have Hownx := Lib.hid (own_only hown.out (Only.new (fun _ => False) x.below) (fun _ _ q => q))
        clear x0 x1 x2 y0 y1 y2 hown ho H1
        generalize x.world = w3 at *
        go_wp2_with fail
        go_roundw
        case rel => exact ⟨I, h, hI, by omega, by omega, rfl, rfl, hlo, hhi2, Hownx, Hox⟩
        case measure => simp [intOf]; omega
      · have hlo2 : Hid (∀ hh : a < h + 1, ∃ q, A[h + 1 - 1 - a]? = some q ∧ 0 ≤ Pt.cmpP (xn, xt, xv) q) := fun _ => ⟨(qn, qt, qv), HBq.out, by omega⟩
        clear hlo
        have hdc : decide (Pt.cmpP (xn, xt, xv) (qn, qt, qv) < 0) = false := decide_eq_false hc
        generalize Pt.cmpP (xn, xt, xv) (qn, qt, qv) = cv at *
        go_wp2_with fail
        refine wp_region_aft wr.heap.size wr (by kernel_rfl) (by kernel_rfl) (Below.refl _ _) ?_
        repeat (go_big_quiet_step (first | (go_at_call 57; with_reducible exact aft_new (Nat.le_refl _) (Hid.out (H1 _)))))
        refine wpQuiet_nil ?_
        rintro _ ⟨x, rfl⟩
        have Hox : Hid (Only (fun k => k = g) w x.world) := ho.out.trans (Only.new (fun _ => False) x.below) (fun _ _ q => q.elim)
        have Hownx := Lib.hid (own_only hown.out (Only.new (fun _ => False) x.below) (fun _ _ q => q))
        clear x0 x1 x2 y0 y1 y2 hown ho H1
        generalize x.world = w3 at *
        go_wp2_with fail
        go_roundw
        case rel => exact ⟨h + 1, J, by omega, by omega, hJ, by go_num, rfl, hlo2, hhi, Hownx, Hox⟩
        case measure => simp [intOf]; omega
    · obtain rfl : I = J := by omega
      have hMg : Hid (St.Mg A [(xn, xt, xv)] (A.take (I - a) ++ (xn, xt, xv) :: A.drop (I - a))) := by
        refine St.mg_one_right (by omega) (fun h => ?_) (fun h => ?_)
        · obtain ⟨q, hq, hc⟩ := hlo.out (by omega)
          obtain ⟨hq1, hq2⟩ := List.getElem?_eq_some_iff.1 hq
          rw [← hq2] at hc
          have e : I - a - 1 = I - 1 - a := by omega
          simp only [e]
          omega
        · obtain ⟨q, hq, hc⟩ := hhi.out (by omega)
          obtain ⟨hq1, hq2⟩ := List.getElem?_eq_some_iff.1 hq
          rw [← hq2] at hc
          exact hc
      obtain ⟨i, hi⟩ : ∃ i, I - a = i := ⟨_, rfl⟩
      rw [hi] at hMg
      have hIi : I = a + i := by omega
      have hI1 := Nat.le_of_eq hIi
      have hI2 := Nat.le_of_eq hIi.symm
      have hpl : (p ++ (A.take A.length ++ ((xn, xt, xv) :: (A.drop A.length ++ s)))) = p ++ (A ++ ([(xn, xt, xv)] ++ s)) := by simp
      have Hpl := Lib.hid hpl
      clear hlo hhi hi hIi hpl HgB Hgx
      generalize wr = Wo at *
      go_wp2_with fail
      go_loopw [17] (fun u wr => ∃ Kn k : Nat, Hid (Kn = a + k) ∧ i ≤ k ∧ k ≤ A.length ∧ u = .int .i64 (Kn : Int) ∧ Hid (wr.ownsRow base 52 3 (.slice (some ⟨g, 0, none⟩) N cap) N ((p ++ (A.take k ++ ((xn, xt, xv) :: (A.drop k ++ s)))).flatMap pointCells)) ∧ Hid (Only (fun k => k = g) w wr)) (fun u _ => (intOf u).toNat)
      case atStart => exact ⟨m, A.length, Lib.hid (by omega), by omega, Nat.le_refl _, rfl, Lib.hid (by rw [Hpl.out]; exact hown.out), ho⟩
      case round =>
        clear hown ho
        obtain ⟨Kn, k, hKn, hki, hkA, rfl, hown, ho⟩ := hrel
        have hK1 := Nat.le_of_eq hKn.out
        have hK2 := Nat.le_of_eq hKn.out.symm
        by_cases hlt2 : i < k
        · obtain ⟨k1, rfl⟩ : ∃ k1, k = k1 + 1 := ⟨k - 1, by omega⟩
          obtain ⟨K1, rfl⟩ : ∃ K1, Kn = K1 + 1 := ⟨Kn - 1, by omega⟩
          have hki2 : (I : Int) < ((K1 + 1 : Nat) : Int) := by omega
          have hki3 : (I : Int) < (K1 : Int) + 1 := by omega
          have hkB : k1 < A.length := by omega
          obtain ⟨g1, g2⟩ := @down_at p A s (xn, xt, xv) k1 hkB
          have gs := @down_sw p A s (xn, xt, xv) k1 hkB
          have eK : K1 = p.length + k1 := by have := hKn.out; have := Ha.out; omega
          rw [← eK] at g1 g2 gs
          have hW := own_sw hown.out g1 g2
          rw [gs] at hW
          have HW := Lib.hid hW
          obtain ⟨x0, x1, x2⟩ := pt_cellsQ hown.out g1
          obtain ⟨y0, y1, y2⟩ := pt_cellsQ hown.out g2
          obtain ⟨fx0, fx1, fx2⟩ := pt_frozenS hown.out (K1 + 1)
          obtain ⟨fy0, fy1, fy2⟩ := pt_frozenS hown.out K1
          have hn0 : (0 : Int) ≤ (K1 : Int) := by omega
          have hn1 : (K1 : Int) + 1 < (N : Int) := by omega
          have hn2 : (K1 : Int) < (N : Int) := by omega
          have hw1 : IntKind.i64.wrap ((K1 : Int) + 1 - 1) = (K1 : Int) := by rw [Int.add_sub_cancel]; exact IntWalk.i64_in _ (by omega)
          have hw2 : (K1 : Int) + 1 - 1 = (K1 : Int) := by omega
          have HKn : Hid (K1 = a + k1) := by have := hKn.out; show K1 = a + k1; omega
          clear g1 g2 gs eK hW hKn
          generalize A[k1] = q at *
          obtain ⟨qn, qt, qv⟩ := q
          simp only at y0 y1 y2 x0 x1 x2
          go_wp2_with fail
          go_region
          have Ho2 := Lib.hid (ho.out.trans HW.out.2 (fun _ _ h => h))
          have Hw1 := Lib.hid HW.out.1
          clear HW x0 x1 x2 y0 y1 y2 fx0 fx1 fx2 fy0 fy1 fy2 hown ho
          go_wp2_with fail
          go_roundw
          case rel => exact ⟨K1, k1, HKn, by omega, by omega, by go_num, Hw1, Ho2⟩
          case measure => simp [intOf]
        · obtain rfl : k = i := by omega
          have hki2 : ¬ (I : Int) < (Kn : Int) := by omega
          have hlen : (p ++ (A.take k ++ ((xn, xt, xv) :: (A.drop k ++ s)))).length = N := by
            have := Hl.out
            simp only [List.length_append, List.length_cons, List.length_nil, List.length_take, List.length_drop] at this ⊢
            omega
          have Hlen := Lib.hid hlen
          clear hlen
          go_wp2_with fail
          go_end0
          exact ⟨_, rfl, Hlen.out, hown.out, ho.out, A.take k ++ (xn, xt, xv) :: A.drop k, by simp, hMg.out⟩
end Go.Proofs.Ythdbmgjlegpbaaa
/- The walk through slices.symMergeCmpFunc at points, whole: by the rows' length. -/
namespace Go.Proofs.Ythdbmgjlegpbaaa
open Go.RowKit
set_option linter.unusedVariables false

def SymAll (base g N cap K : Nat) : Prop := ∀ (p A B s : List Pt.Point) (a m b : Nat) (w : World), A.length + B.length ≤ K → 0 < A.length → 0 < B.length → w.ownsRow base 52 3 (.slice (some ⟨g, 0, none⟩) N cap) N ((p ++ (A ++ (B ++ s))).flatMap pointCells) → (p ++ (A ++ (B ++ s))).length = N → a = p.length → m = p.length + A.length → b = p.length + A.length + B.length →
  Calls Try.prog 96 #[.slice (some ⟨g, 0, none⟩) N cap, .int .i64 (a : Int), .int .i64 (m : Int), .int .i64 (b : Int), cmpF] w (RowPost w base g N cap (SymOk p A B s))
/-- both places of a comparison -/
theorem cut_facts {p A B s : List Pt.Point} {a m b : Nat} (ha : a = p.length) (hm : m = p.length + A.length) (hb : b = p.length + A.length + B.length) : (∀ k, a ≤ k → k < m → ∃ q, (p ++ (A ++ (B ++ s)))[k]? = some q ∧ A[k - a]? = some q) ∧ (∀ k, m ≤ k → k < b → ∃ q, (p ++ (A ++ (B ++ s)))[k]? = some q ∧ B[k - m]? = some q) := by
  constructor
  · intro k h1 h2
    have hk : k - a < A.length := by omega
    refine ⟨A[k - a], ?_, List.getElem?_eq_getElem hk⟩
    have := @at_a p A B s (k - a) hk
    rw [show p.length + (k - a) = k from by omega, List.getElem?_eq_getElem hk] at this
    exact this
  · intro k h1 h2
    have hk : k - m < B.length := by omega
    refine ⟨B[k - m], ?_, List.getElem?_eq_getElem hk⟩
    have := @at_b p A B s (k - m) hk
    rw [show p.length + A.length + (k - m) = k from by omega, List.getElem?_eq_getElem hk] at this
    exact this
end Go.Proofs.Ythdbmgjlegpbaaa
