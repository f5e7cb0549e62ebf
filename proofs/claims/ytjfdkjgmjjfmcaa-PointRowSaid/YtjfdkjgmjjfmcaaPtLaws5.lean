/- The walks through PointForms and PointRow. -/
import Derived.Test.YtjfdkjgmjjfmcaaPtLess
import Derived.Test.YtjfdkjgmjjfmcaaPtLaws3
import Derived.Test.YtjfdkjgmjjfmcaaAft
namespace Go.Proofs.Ytjfdkjgmjjfmcaa
open Go.RowKit
set_option linter.unusedVariables false

theorem less_same {a b : Pt.Point} (h : a.1 = b.1) (ht : a.2.1 = b.2.1) : Pt.lessB a b = false := by
  rw [less_ref, if_neg (by simp [h]), ht]; simp
theorem less_flip {a b : Pt.Point} (h : ¬ (a.1 = b.1 ∧ a.2.1 = b.2.1)) : Pt.lessB b a = !Pt.lessB a b := by
  rw [less_ref, less_ref]
  by_cases e : a.1 = b.1
  · rw [if_neg (by simp [e]), if_neg (by simp [e])]
    have : a.2.1 ≠ b.2.1 := fun k => h ⟨e, k⟩
    rw [Bool.eq_iff_iff]; simp; omega
  · rw [if_pos (fun k => e k.symm), if_pos e, cb_neg]
    have h0 : Lib.compareBytes a.1.data.toList b.1.data.toList ≠ 0 := fun k => e (list_inj (cb_zero k))
    rw [Bool.eq_iff_iff]; simp; omega
theorem less_trans {a b c : Pt.Point} (h : Pt.lessB a b = true) (k : Pt.lessB b c = true) : Pt.lessB a c = true := by
  rw [less_ref] at h k ⊢
  by_cases e : a.1 = b.1
  · rw [if_neg (by simp [e])] at h
    by_cases f : b.1 = c.1
    · rw [if_neg (by simp [f])] at k
      rw [if_neg (by simp [e, f])]
      simp at h k ⊢; omega
    · rw [if_pos f] at k
      rw [if_pos (by rw [e]; exact f), e]; exact k
  · rw [if_pos e] at h
    by_cases f : b.1 = c.1
    · rw [← f, if_pos e]; exact h
    · rw [if_pos f] at k
      have h1 : Lib.compareBytes a.1.data.toList b.1.data.toList = -1 := by
        have := cb_cases a.1.data.toList b.1.data.toList; simp at h; omega
      have k1 : Lib.compareBytes b.1.data.toList c.1.data.toList = -1 := by
        have := cb_cases b.1.data.toList c.1.data.toList; simp at k; omega
      have hac := cb_trans h1 k1
      have hne : a.1 ≠ c.1 := fun k => by rw [k, cb_self] at hac; simp at hac
      rw [if_pos hne, hac]; rfl

set_option maxRecDepth 100000 in
set_option maxHeartbeats 1600000 in
theorem pointRow_walk {w : World} (a0 a1 a2 : Pt.Point) (w0 : (Lit.int .i64 a0.2.1).wf = true ∧ (Lit.int .i64 a0.2.2).wf = true ∧ a0.1.size ≤ maxLen) (w1 : (Lit.int .i64 a1.2.1).wf = true ∧ (Lit.int .i64 a1.2.2).wf = true ∧ a1.1.size ≤ maxLen) (w2 : (Lit.int .i64 a2.2.1).wf = true ∧ (Lit.int .i64 a2.2.2).wf = true ∧ a2.1.size ≤ maxLen) :
    Calls Try.prog 23 #[.agg #[.string a0.1, .int .i64 a0.2.1, .int .i64 a0.2.2], .agg #[.string a1.1, .int .i64 a1.2.1, .int .i64 a1.2.2], .agg #[.string a2.1, .int .i64 a2.2.1, .int .i64 a2.2.2]] w fun e w' => e = .returned (.bool true) ∧ Below w.heap.size w w' := by
  clear w0 w1 w2
  have H01 := fun W => Lib.hid (less_any a0 a1 W)
  have H10 := fun W => Lib.hid (less_any a1 a0 W)
  have H12 := fun W => Lib.hid (less_any a1 a2 W)
  have H02 := fun W => Lib.hid (less_any a0 a2 W)
  have key : ∃ (same : Bool) (ab ba bc ac : Bool), (a0.1.toList == a1.1.toList && a0.2.1 == a1.2.1) = same ∧ Pt.lessB a0 a1 = ab ∧ Pt.lessB a1 a0 = ba ∧ Pt.lessB a1 a2 = bc ∧ Pt.lessB a0 a2 = ac ∧ ((same = true ∧ ab = false ∧ ba = false) ∨ (same = false ∧ ab = true ∧ ba = false ∧ (bc = true → ac = true)) ∨ (same = false ∧ ab = false ∧ ba = true)) := by
    refine ⟨_, _, _, _, _, rfl, rfl, rfl, rfl, rfl, ?_⟩
    by_cases h : a0.1 = a1.1 ∧ a0.2.1 = a1.2.1
    · left
      exact ⟨by rw [h.1, h.2]; simp, less_same h.1 h.2, less_same h.1.symm h.2.symm⟩
    · right
      have hs : (a0.1.toList == a1.1.toList && a0.2.1 == a1.2.1) = false := by
        rw [Bool.eq_false_iff]
        intro e
        rw [Bool.and_eq_true, beq_iff_eq, beq_iff_eq, Lib.toList_data, Lib.toList_data] at e
        exact h ⟨list_inj e.1, e.2⟩
      have hf := less_flip h
      cases hab : Pt.lessB a0 a1
      · right; exact ⟨hs, rfl, by rw [hf, hab]; rfl⟩
      · left; exact ⟨hs, rfl, by rw [hf, hab]; rfl, fun k => less_trans hab k⟩
  obtain ⟨same, ab, ba, bc, ac, hsame, e1, e2, e3, e4, hlog⟩ := key
  rw [e1] at H01
  rw [e2] at H10
  rw [e3] at H12
  rw [e4] at H02
  obtain ⟨s0, t0, v0⟩ := a0
  obtain ⟨s1, t1, v1⟩ := a1
  obtain ⟨s2, t2, v2⟩ := a2
  simp only at H01 H10 H12 H02 hsame
  clear e1 e2 e3 e4
  have hcs : ((s0.toList == s1.toList) = false ∧ same = false) ∨ ((s0.toList == s1.toList) = true ∧ (t0 == t1) = same) := by
    cases h : (s0.toList == s1.toList)
    · left; rw [h] at hsame; exact ⟨rfl, by rw [← hsame]; rfl⟩
    · right; rw [h] at hsame; exact ⟨rfl, by rw [← hsame]; rfl⟩
  clear hsame
  go_enter Try.func23, Try.ntmps23
  go_wp2_with fail
  have hb0 : Below w.heap.size w (((w.alloc (.cells #[.string s0, .int .i64 t0, .int .i64 v0] 85)).alloc (.cells #[.string s1, .int .i64 t1, .int .i64 v1] 85)).alloc (.cells #[.string s2, .int .i64 t2, .int .i64 v2] 85)) := (((Below.refl _ _).alloc (Nat.le_refl _) _).alloc (by simp) _).alloc (by simp; omega) _
  have hP0 := Blk.alloc (Blk.alloc (Blk.new w 85 #[.string s0, .int .i64 t0, .int .i64 v0]) (.cells #[.string s1, .int .i64 t1, .int .i64 v1] 85)) (.cells #[.string s2, .int .i64 t2, .int .i64 v2] 85)
  have hP1 := Blk.alloc (Blk.new (w.alloc (.cells #[.string s0, .int .i64 t0, .int .i64 v0] 85)) 85 #[.string s1, .int .i64 t1, .int .i64 v1]) (.cells #[.string s2, .int .i64 t2, .int .i64 v2] 85)
  have hP2 := Blk.new ((w.alloc (.cells #[.string s0, .int .i64 t0, .int .i64 v0] 85)).alloc (.cells #[.string s1, .int .i64 t1, .int .i64 v1] 85)) 85 #[.string s2, .int .i64 t2, .int .i64 v2]
  simp only [World.size_alloc] at hP0 hP1 hP2
  refine (awake3 _).mono ?_
  rintro e w3 ⟨rfl, hb3⟩
  have HP0 := Lib.hid (Blk.below hP0 hb3 hP0.lt)
  have HP1 := Lib.hid (Blk.below hP1 hb3 hP1.lt)
  have HP2 := Lib.hid (Blk.below hP2 hb3 hP2.lt)
  have Hb3 : Hid (Below w.heap.size w w3) := hb0.trans (hb3.mono hb0.size)
  have hs3 := Hb3.out.size
  clear hb0 hb3 hP0 hP1 hP2
  generalize hg : w.heap.size = g at *
  have Hg := Lib.hid hg
  clear hg
  have hx := fun x : Aft w3.heap.size w3 => pt3_of (Blk.below HP0.out x.below HP0.out.lt)
  have hy := fun x : Aft w3.heap.size w3 => pt3_of (Blk.below HP1.out x.below HP1.out.lt)
  have hx0 := fun x => (hx x).1
  have hx1 := fun x => (hx x).2.1
  have hx2 := fun x => (hx x).2.2
  have hy0 := fun x => (hy x).1
  have hy1 := fun x => (hy x).2.1
  have hy2 := fun x => (hy x).2.2
  clear hx hy
  go_wp2_with fail
  refine wp_region_aft w3.heap.size w3 (by kernel_rfl) (by kernel_rfl) (Below.refl _ _) ?_
  repeat (go_big_quiet_step (first | (go_at_call 68; with_reducible exact aft_new (Nat.le_refl _) (Hid.out (H01 _))) | (go_at_call 68; with_reducible exact aft_new (Nat.le_refl _) (Hid.out (H10 _)))))
  refine wpQuiet_nil ?_
  rintro _ ⟨x, rfl⟩
  have Hx := Lib.hid x.below
  clear hx0 hx1 hx2 hy0 hy1 hy2
  generalize x.world = w4 at *
  have HQ0 := Lib.hid (Blk.below HP0.out Hx.out HP0.out.lt)
  have HQ1 := Lib.hid (Blk.below HP1.out Hx.out HP1.out.lt)
  have HQ2 := Lib.hid (Blk.below HP2.out Hx.out HP2.out.lt)
  have Hb4 : Hid (Below g w w4) := Hb3.out.trans (Hx.out.mono hs3)
  obtain ⟨hq0, hq1, hq2⟩ := pt3_of HQ0.out
  obtain ⟨hr0, hr1, hr2⟩ := pt3_of HQ1.out
  obtain ⟨hs0, hs1, hs2⟩ := pt3_of HQ2.out
  have hs4 := Hx.out.size
  clear HP0 HP1 HP2 Hb3 Hx H01 H10
  rcases hlog with ⟨rfl, rfl, rfl⟩ | ⟨rfl, rfl, rfl, htr⟩ | ⟨rfl, rfl, rfl⟩
  · rcases hcs with ⟨h1, h2⟩ | ⟨h1, h2⟩
    · cases h2
    · go_wp2_with fail
      go_ret
      exact ⟨rfl, by rw [Hg.out]; exact Hb4.out⟩
  · have Htr := Lib.hid htr
    clear htr
    rcases hcs with ⟨h1, h2⟩ | ⟨h1, h2⟩
    all_goals
      go_wp2_with fail
      refine (H12 _).out.mono ?_
      rintro e w5 ⟨rfl, hb5⟩
      obtain ⟨hq0, hq1, hq2⟩ := pt3_of (Blk.below HQ0.out hb5 HQ0.out.lt)
      obtain ⟨hs0, hs1, hs2⟩ := pt3_of (Blk.below HQ2.out hb5 HQ2.out.lt)
      have Hb5 : Hid (Below g w w5) := Hb4.out.trans (hb5.mono (by omega))
      have hs5 := hb5.size
      clear hb5 hr0 hr1 hr2
      cases bc
      · go_wp2_with fail
        go_ret
        exact ⟨rfl, by rw [Hg.out]; exact Hb5.out⟩
      · obtain rfl : ac = true := Htr.out rfl
        go_wp2_with fail
        refine (H02 _).out.mono ?_
        rintro e w6 ⟨rfl, hb6⟩
        have Hb6 : Hid (Below g w w6) := Hb5.out.trans (hb6.mono (by omega))
        clear hb6
        go_wp2_with fail
        go_ret
        exact ⟨rfl, by rw [Hg.out]; exact Hb6.out⟩
  · rcases hcs with ⟨h1, h2⟩ | ⟨h1, h2⟩
    all_goals
      go_wp2_with fail
      go_ret
      exact ⟨rfl, by rw [Hg.out]; exact Hb4.out⟩

set_option maxRecDepth 100000 in
set_option maxHeartbeats 3200000 in
theorem pointForms_walk {w : World} (a0 a1 : Pt.Point) (A2 : Option Addr) (c2 : Nat) (z2 : List Pt.Point) (w0 : (Lit.int .i64 a0.2.1).wf = true ∧ (Lit.int .i64 a0.2.2).wf = true ∧ a0.1.size ≤ maxLen) (w1 : (Lit.int .i64 a1.2.1).wf = true ∧ (Lit.int .i64 a1.2.2).wf = true ∧ a1.1.size ≤ maxLen)
    (rd2 : Reads w w.heap.size 3 A2 z2.length (z2.flatMap pointCells)) (wf2 : ∀ p ∈ z2, (Lit.int .i64 p.2.1).wf = true ∧ (Lit.int .i64 p.2.2).wf = true ∧ p.1.size ≤ maxLen) (nb2 : z2.length * 32 ≤ 140737488351232) :
    Calls Try.prog 22 #[.agg #[.string a0.1, .int .i64 a0.2.1, .int .i64 a0.2.2], .agg #[.string a1.1, .int .i64 a1.2.1, .int .i64 a1.2.2], .slice A2 z2.length c2] w fun e w' => e = .returned (.bool true) ∧ Below w.heap.size w w' := by
  have hwf := pt_wf_of wf2
  have hz0 : a0.1.size ≤ 9223372036854775807 := by have := w0.2.2; unfold maxLen at this; exact this
  have hz1 : a1.1.size ≤ 9223372036854775807 := by have := w1.2.2; unfold maxLen at this; exact this
  have HM := fun W => Lib.hid (may_any a0 W ⟨wf_int w0.1, wf_int w0.2.1⟩)
  have HRM := fun W => Lib.hid (rmay_any a0 W ⟨wf_int w0.1, wf_int w0.2.1⟩)
  have HL := fun W => Lib.hid (less_any a0 a1 W)
  have HRL := fun W => Lib.hid (rless_any a0 a1 W hz0 hz1)
  have Hrd := Lib.hid rd2
  have Hwf := Lib.hid hwf
  clear wf2 hwf rd2 w0 w1 hz0 hz1
  generalize Pt.mayB a0 = bm at *
  generalize Pt.lessB a0 a1 = bl at *
  obtain ⟨s0, t0, v0⟩ := a0
  obtain ⟨s1, t1, v1⟩ := a1
  simp only at HM HRM HL HRL
  go_enter Try.func22, Try.ntmps22
  go_wp2_with fail
  have hb0 : Below w.heap.size w ((w.alloc (.cells #[.string s0, .int .i64 t0, .int .i64 v0] 85)).alloc (.cells #[.string s1, .int .i64 t1, .int .i64 v1] 85)) := ((Below.refl _ _).alloc (Nat.le_refl _) _).alloc (by simp) _
  have hP0 := Blk.alloc (Blk.new w 85 #[.string s0, .int .i64 t0, .int .i64 v0]) (.cells #[.string s1, .int .i64 t1, .int .i64 v1] 85)
  have hP1 := Blk.new (w.alloc (.cells #[.string s0, .int .i64 t0, .int .i64 v0] 85)) 85 #[.string s1, .int .i64 t1, .int .i64 v1]
  simp only [World.size_alloc] at hP1
  have HLd := Lib.hid (lendPoints_any A2 c2 z2 _ w.heap.size (Hrd.out.below hb0) hb0.size nb2)
  refine HLd.out.mono ?_
  rintro e w1 ⟨g, cap, rfl, hg, hcap, hmax, hown1, hb1⟩
  have hrX := Reads.of_own hown1
  have hrH := hrX.head (xs := z2.flatMap pointCells) (ys := roomPoints) (flat_length pointCells 3 (fun _ => rfl) z2)
  have hb01 : Below w.heap.size w w1 := hb0.trans (hb1.mono hb0.size)
  have hr2 : Reads w1 w1.heap.size 3 A2 z2.length (z2.flatMap pointCells) := (Hrd.out.below hb01).more hb01.size
  have HP0 := Lib.hid (Blk.below hP0 hb1 hP0.lt)
  have HP1 := Lib.hid (Blk.below hP1 hb1 hP1.lt)
  have Hb01 := Lib.hid hb01
  have HB := fun x : Aft w1.heap.size w1 => Lib.hid (batch_any (some ⟨g, 0, none⟩) cap z2 x.world w1.heap.size (x.reads hrH) x.below.size (by omega) Hwf.out)
  have HRB := fun x : Aft w1.heap.size w1 => Lib.hid (rbatch_any A2 c2 z2 x.world w1.heap.size (x.reads hr2) x.below.size (by omega) Hwf.out)
  have HK := fun x : Aft w1.heap.size w1 => Lib.hid (keptPoints_true A2 g c2 cap z2 x.world w1.heap.size w1.heap.size (x.reads hrX) (x.reads hr2) hcap (by omega))
  have hx := fun x : Aft w1.heap.size w1 => pt3_of (Blk.below HP0.out x.below HP0.out.lt)
  have hy := fun x : Aft w1.heap.size w1 => pt3_of (Blk.below HP1.out x.below HP1.out.lt)
  have hx0 := fun x => (hx x).1
  have hx1 := fun x => (hx x).2.1
  have hx2 := fun x => (hx x).2.2
  have hy0 := fun x => (hy x).1
  have hy1 := fun x => (hy x).2.1
  have hy2 := fun x => (hy x).2.2
  clear hx hy hown1 hrX hrH hb01 hr2 hb0 hb1 HLd Hrd Hwf hg hmax hP0 hP1 HP0 HP1 nb2 hcap
  generalize Pt.batchB z2 = bb at *
  have hbm : (bm == bm) = true := by simp
  have hbl : (bl == bl) = true := by simp
  have hbb : (bb == bb) = true := by simp
  generalize hgg : w.heap.size = g0 at *
  have Hgg := Lib.hid hgg
  clear hgg
  go_wp2_with fail
  refine wp_region_aft w1.heap.size w1 (by kernel_rfl) (by kernel_rfl) (Below.refl _ _) ?_
  repeat (go_big_quiet_step (first
    | (go_at_call 65; with_reducible exact aft_new (Nat.le_refl _) (Hid.out (HM _)))
    | (go_at_call 67; with_reducible exact aft_new (Nat.le_refl _) (Hid.out (HRM _)))
    | (go_at_call 68; with_reducible exact aft_new (Nat.le_refl _) (Hid.out (HL _)))
    | (go_at_call 69; with_reducible exact aft_new (Nat.le_refl _) (Hid.out (HRL _)))
    | (go_at_call 66; with_reducible exact aft_new (Nat.le_refl _) (Hid.out (HB _)))
    | (go_at_call 57; with_reducible exact aft_new (Nat.le_refl _) (Hid.out (HRB _)))
    | (go_at_call 61; with_reducible exact aft_drew (Hid.out (HK _)))
    | (go_at_call 64; with_reducible exact aft_new (Nat.le_refl _) (awake3 _))))
  refine wpQuiet_nil ?_
  rintro _ ⟨x, rfl⟩
  have Hx := Lib.hid x.below
  clear hx0 hx1 hx2 hy0 hy1 hy2 HB HRB HK HM HRM HL HRL
  generalize x.world = w4 at *
  go_wp2_with fail
  go_ret
  exact ⟨rfl, by rw [Hgg.out]; exact Hb01.out.trans (Hx.out.mono (by have := Hb01.out.size; rw [Hgg.out] at this; exact this))⟩
end Go.Proofs.Ytjfdkjgmjjfmcaa
