/- Which point is less: plain, and the walks through Compare, Less, the reference's Below, Less. -/
import Derived.Test.YthdbmgjlegpbaaaWireMore
import Derived.Test.YthdbmgjlegpbaaaPtCells
import Derived.Test.YthdbmgjlegpbaaaFrame
import Derived.Test.YthdbmgjlegpbaaaShelf
import Derived.Lib.Bytealg
import Derived.Lib.Small
import Derived.Deep.RegionHeld3
import Derived.Deep.DrawnRows
namespace Go.Proofs.Ythdbmgjlegpbaaa
open Go.RowKit
set_option linter.unusedVariables false

theorem cb_cases (a b : List UInt8) : Lib.compareBytes a b = -1 ∨ Lib.compareBytes a b = 0 ∨ Lib.compareBytes a b = 1 := by
  induction a generalizing b with
  | nil => cases b <;> simp [Lib.compareBytes]
  | cons x a ih =>
    cases b with
    | nil => simp [Lib.compareBytes]
    | cons y b =>
      unfold Lib.compareBytes
      split
      · simp
      · split
        · simp
        · exact ih b
theorem cb_self (a : List UInt8) : Lib.compareBytes a a = 0 := by
  induction a with
  | nil => rfl
  | cons x a ih => unfold Lib.compareBytes; rw [if_neg (UInt8.lt_irrefl x), if_neg (UInt8.lt_irrefl x)]; exact ih
theorem cb_zero {a b : List UInt8} (h : Lib.compareBytes a b = 0) : a = b := by
  induction a generalizing b with
  | nil => cases b <;> simp [Lib.compareBytes] at h ⊢
  | cons x a ih =>
    cases b with
    | nil => simp [Lib.compareBytes] at h
    | cons y b =>
      unfold Lib.compareBytes at h
      by_cases h1 : x < y
      · rw [if_pos h1] at h; simp at h
      · rw [if_neg h1] at h
        by_cases h2 : y < x
        · rw [if_pos h2] at h; simp at h
        · rw [if_neg h2] at h
          have : x = y := by rw [UInt8.lt_iff_toNat_lt] at h1 h2; exact UInt8.toNat_inj.1 (by omega)
          rw [this, ih h]
theorem cb_neg (a b : List UInt8) : Lib.compareBytes b a = -Lib.compareBytes a b := by
  induction a generalizing b with
  | nil => cases b <;> simp [Lib.compareBytes]
  | cons x a ih =>
    cases b with
    | nil => simp [Lib.compareBytes]
    | cons y b =>
      unfold Lib.compareBytes
      by_cases h1 : x < y
      · have h2 : ¬ y < x := by rw [UInt8.lt_iff_toNat_lt] at h1 ⊢; omega
        rw [if_neg h2, if_pos h1, if_pos h1]; rfl
      · by_cases h2 : y < x
        · rw [if_pos h2, if_neg h1, if_pos h2]
        · rw [if_neg h2, if_neg h1, if_neg h1, if_neg h2]; exact ih b
theorem cb_trans {a b c : List UInt8} (h : Lib.compareBytes a b = -1) (k : Lib.compareBytes b c = -1) : Lib.compareBytes a c = -1 := by
  induction a generalizing b c with
  | nil =>
    cases c with
    | nil => cases b <;> simp [Lib.compareBytes] at h k
    | cons z c => rfl
  | cons x a ih =>
    cases b with
    | nil => simp [Lib.compareBytes] at h
    | cons y b =>
      cases c with
      | nil => simp [Lib.compareBytes] at k
      | cons z c =>
        unfold Lib.compareBytes at h k ⊢
        simp only [UInt8.lt_iff_toNat_lt] at h k ⊢
        by_cases h1 : x.toNat < y.toNat
        · by_cases k1 : y.toNat < z.toNat
          · rw [if_pos (by omega)]
          · rw [if_neg k1] at k
            by_cases k2 : z.toNat < y.toNat
            · rw [if_pos k2] at k; simp at k
            · rw [if_pos (by omega)]
        · rw [if_neg h1] at h
          by_cases h2 : y.toNat < x.toNat
          · rw [if_pos h2] at h; simp at h
          · rw [if_neg h2] at h
            by_cases k1 : y.toNat < z.toNat
            · rw [if_pos (by omega)]
            · rw [if_neg k1] at k
              by_cases k2 : z.toNat < y.toNat
              · rw [if_pos k2] at k; simp at k
              · rw [if_neg k2] at k
                rw [if_neg (by omega), if_neg (by omega)]
                exact ih h k
def orV (x y : Int) : Int := if x ≠ 0 then x else y
def Pt.cmpP (a b : Pt.Point) : Int := orV (Lib.compareBytes a.1.data.toList b.1.data.toList) (Lib.compareInt a.2.1 b.2.1)
def Pt.lessB (a b : Pt.Point) : Bool := decide (Pt.cmpP a b < 0)
theorem list_inj {a b : ByteArray} (h : a.data.toList = b.data.toList) : a = b := Wr.ext_list h
theorem less_ref (a b : Pt.Point) : Pt.lessB a b = if a.1 ≠ b.1 then decide (Lib.compareBytes a.1.data.toList b.1.data.toList < 0) else decide (a.2.1 < b.2.1) := by
  unfold Pt.lessB Pt.cmpP orV
  by_cases h : a.1 = b.1
  · rw [h, cb_self]
    simp only [ne_eq, not_true_eq_false, if_false]
    unfold Lib.compareInt
    by_cases h1 : a.2.1 < b.2.1
    · rw [if_pos h1]; simp [h1]
    · rw [if_neg h1]; split <;> simp [h1]
  · have h0 : Lib.compareBytes a.1.data.toList b.1.data.toList ≠ 0 := fun e => h (list_inj (cb_zero e))
    rw [if_pos h0, if_pos h]

/-! the walks -/
set_option maxRecDepth 100000 in
theorem or_any (x y : Int) (g : Nat) (w : World) (h0 : w.cell? ⟨g, 0, none⟩ = some (.int .i64 x)) (h1 : w.cell? ⟨g, 1, none⟩ = some (.int .i64 y)) :
    Calls Try.prog 81 #[.slice (some ⟨g, 0, none⟩) 2 2] w fun e w' => e = .returned (.int .i64 (orV x y)) ∧ w = w' := by
  by_cases hx : x = 0
  · by_cases hy : y = 0
    · have HF : Hid (orV x y = 0) := by show _ = _; unfold orV; rw [if_neg (by simp [hx]), hy]
      have hxz : (x != 0) = false := by simp [hx]
      have hyz : (y != 0) = false := by simp [hy]
      clear hx hy
      go_enter Try.func81, Try.ntmps81
      go_wp2
      go_loop [5, 8] (fun _ i => ∃ k : Nat, k ≤ 2 ∧ i = .int .i64 (k : Int)) (fun _ i => 2 - (intOf i).toNat)
      case atStart => exact ⟨0, by omega, rfl⟩
      case round =>
        obtain ⟨k, hk, rfl⟩ := hrel
        obtain rfl | rfl | rfl : k = 0 ∨ k = 1 ∨ k = 2 := by omega
        · go_wp2
          go_round
          case rel => exact ⟨1, by omega, by go_num⟩
          case measure => simp [intOf]
        · go_wp2
          go_round
          case rel => exact ⟨2, by omega, by go_num⟩
          case measure => simp [intOf]
        · go_wp2
          go_ret
          exact ⟨ret_int HF.out.symm, rfl⟩
    · have HF : Hid (orV x y = y) := by show _ = _; unfold orV; rw [if_neg (by simp [hx])]
      have hxz : (x != 0) = false := by simp [hx]
      have hyz : (y != 0) = true := by simp [hy]
      clear hx hy
      go_enter Try.func81, Try.ntmps81
      go_wp2
      go_loop [5, 8] (fun _ i => ∃ k : Nat, k ≤ 1 ∧ i = .int .i64 (k : Int)) (fun _ i => 2 - (intOf i).toNat)
      case atStart => exact ⟨0, by omega, rfl⟩
      case round =>
        obtain ⟨k, hk, rfl⟩ := hrel
        obtain rfl | rfl : k = 0 ∨ k = 1 := by omega
        · go_wp2
          go_round
          case rel => exact ⟨1, by omega, by go_num⟩
          case measure => simp [intOf]
        · go_wp2
          go_ret
          exact ⟨ret_int HF.out.symm, rfl⟩
  · have HF : Hid (orV x y = x) := by show _ = _; unfold orV; rw [if_pos hx]
    have hxz : (x != 0) = true := by simp [hx]
    clear hx
    go_enter Try.func81, Try.ntmps81
    go_wp2
    go_loop [5, 8] (fun _ i => i = .int .i64 0) (fun _ _ => 0)
    case atStart => rfl
    case round =>
      subst hrel
      go_wp2
      go_ret
      exact ⟨ret_int HF.out.symm, rfl⟩

attribute [local go_sem ↓] Go.wp_at_zero Go.wp_at_succ
set_option maxRecDepth 100000 in
set_option maxHeartbeats 1000000 in
theorem compare_any (a b : Pt.Point) (w : World) :
    Calls Try.prog 57 #[.agg #[.string a.1, .int .i64 a.2.1, .int .i64 a.2.2], .agg #[.string b.1, .int .i64 b.2.1, .int .i64 b.2.2]] w fun e w' => e = .returned (.int .i64 (Pt.cmpP a b)) ∧ Below w.heap.size w w' := by
  obtain ⟨s, t, v⟩ := a
  obtain ⟨s', t', v'⟩ := b
  have H1 := fun W => Lib.hid (Try.strings_Compare s s' W)
  have H2 := fun W => Lib.hid (Try.cmp_Compare_int t t' W)
  have HD : Hid (Pt.cmpP (s, t, v) (s', t', v') = orV (Lib.compareBytes s.data.toList s'.data.toList) (Lib.compareInt t t')) := rfl
  generalize Pt.cmpP (s, t, v) (s', t', v') = res at *
  generalize Lib.compareBytes s.data.toList s'.data.toList = x at *
  generalize Lib.compareInt t t' = y at *
  go_enter Try.func57, Try.ntmps57
  go_wp2_with fail
  have hP := Blk.alloc (Blk.new w 52 #[.string s, .int .i64 t, .int .i64 v]) (.cells #[.string s', .int .i64 t', .int .i64 v'] 52)
  have hP' := Blk.new (w.alloc (.cells #[.string s, .int .i64 t, .int .i64 v] 52)) 52 #[.string s', .int .i64 t', .int .i64 v']
  have hb : Below w.heap.size w ((w.alloc (.cells #[.string s, .int .i64 t, .int .i64 v] 52)).alloc (.cells #[.string s', .int .i64 t', .int .i64 v'] 52)) := ((Below.refl _ _).alloc (Nat.le_refl _) _).alloc (by simp) _
  rw [World.size_alloc] at hP'
  have hz : ((w.alloc (.cells #[.string s, .int .i64 t, .int .i64 v] 52)).alloc (.cells #[.string s', .int .i64 t', .int .i64 v'] 52)).heap.size = w.heap.size + 2 := by simp
  have HP := Lib.hid hP
  have HP' := Lib.hid hP'
  have Hb := Lib.hid hb
  have Hz := Lib.hid hz
  clear hP hP' hb hz
  generalize (w.alloc (.cells #[.string s, .int .i64 t, .int .i64 v] 52)).alloc (.cells #[.string s', .int .i64 t', .int .i64 v'] 52) = w1 at *
  generalize hg : w.heap.size = g at *
  have Hg := Lib.hid hg
  clear hg
  have hgz : g < w1.heap.size := by have := Hz.out; omega
  have hgz' : g + 1 < w1.heap.size := by have := Hz.out; omega
  go_region_held3 (fun w' => w'.cell? ⟨g, 0, none⟩ = some (.string s) ∧ w'.cell? ⟨g, 1, none⟩ = some (.int .i64 t) ∧ w'.cell? ⟨g + 1, 0, none⟩ = some (.string s') ∧ w'.cell? ⟨g + 1, 1, none⟩ = some (.int .i64 t'))
    (first | exact ⟨HP.out.cell 0, HP.out.cell 1, HP'.out.cell 0, HP'.out.cell 1⟩ | exact ⟨(HP.out.alloc _).cell 0, (HP.out.alloc _).cell 1, (HP'.out.alloc _).cell 0, (HP'.out.alloc _).cell 1⟩)
    (first
      | (go_at_call 82; (with_reducible refine (H1 _).out.mono ?_); rintro e w' ⟨rfl, rfl⟩)
      | (go_at_call 83; (with_reducible refine (H2 _).out.mono ?_); rintro e w' ⟨rfl, rfl⟩)
      | (go_at_call 81; refine (or_any x y w1.heap.size _ (by simp) (by simp)).mono ?_; rintro e w' ⟨rfl, rfl⟩))
  go_wp2_with fail
  go_ret
  exact ⟨ret_int HD.out.symm, by rw [Hg.out]; exact (Hb.out.drew).alloc (by have := Hz.out; show g ≤ w1.heap.size; omega) _⟩

set_option maxRecDepth 100000 in
theorem less_any (a b : Pt.Point) (w : World) :
    Calls Try.prog 105 #[.agg #[.string a.1, .int .i64 a.2.1, .int .i64 a.2.2], .agg #[.string b.1, .int .i64 b.2.1, .int .i64 b.2.2]] w fun e w' => e = .returned (.bool (Pt.lessB a b)) ∧ Below w.heap.size w w' := by
  have H1 := fun W => Lib.hid (compare_any a b W)
  have HD : Hid (Pt.lessB a b = decide (Pt.cmpP a b < 0)) := rfl
  generalize Pt.lessB a b = res at *
  generalize Pt.cmpP a b = x at *
  go_enter Try.func105, Try.ntmps105
  go_wp2_with fail
  refine (H1 _).out.mono ?_
  rintro e w1 ⟨rfl, hb1⟩
  go_wp2_with fail
  go_ret
  exact ⟨ret_bool HD.out.symm, (((Below.refl w.heap.size w).alloc (Nat.le_refl _) _).alloc (by simp) _).trans (hb1.mono (by simp; omega))⟩

theorem below_step {a b : ByteArray} {k : Nat} (ha : k < a.size) (hb : k < b.size) (h : Lib.compareBytes a.data.toList b.data.toList = Lib.compareBytes (a.data.toList.drop k) (b.data.toList.drop k)) (he : a[k].toNat = b[k].toNat) : Lib.compareBytes a.data.toList b.data.toList = Lib.compareBytes (a.data.toList.drop (k + 1)) (b.data.toList.drop (k + 1)) := by
  have e1 : a.data.toList.drop k = a[k] :: a.data.toList.drop (k + 1) := by rw [List.drop_eq_getElem_cons (by simpa using ha)]; rfl
  have e2 : b.data.toList.drop k = b[k] :: b.data.toList.drop (k + 1) := by rw [List.drop_eq_getElem_cons (by simpa using hb)]; rfl
  rw [h, e1, e2, UInt8.toNat_inj.1 he]
  show (if b[k] < b[k] then _ else _) = _
  rw [if_neg (UInt8.lt_irrefl _), if_neg (UInt8.lt_irrefl _)]
theorem below_stop {a b : ByteArray} {k : Nat} (ha : k < a.size) (hb : k < b.size) (h : Lib.compareBytes a.data.toList b.data.toList = Lib.compareBytes (a.data.toList.drop k) (b.data.toList.drop k)) (he : ¬ a[k].toNat = b[k].toNat) : decide (Lib.compareBytes a.data.toList b.data.toList < 0) = decide (a[k].toNat < b[k].toNat) := by
  have e1 : a.data.toList.drop k = a[k] :: a.data.toList.drop (k + 1) := by rw [List.drop_eq_getElem_cons (by simpa using ha)]; rfl
  have e2 : b.data.toList.drop k = b[k] :: b.data.toList.drop (k + 1) := by rw [List.drop_eq_getElem_cons (by simpa using hb)]; rfl
  rw [h, e1, e2]
  show decide ((if a[k] < b[k] then (-1 : Int) else if b[k] < a[k] then 1 else _) < 0) = _
  simp only [UInt8.lt_iff_toNat_lt]
  by_cases h1 : a[k].toNat < b[k].toNat
  · rw [if_pos h1]; simp [h1]
  · rw [if_neg h1, if_pos (by omega)]; simp [h1]
theorem below_end {a b : ByteArray} {k : Nat} (h : Lib.compareBytes a.data.toList b.data.toList = Lib.compareBytes (a.data.toList.drop k) (b.data.toList.drop k)) (ha : k ≤ a.size) (hb : k ≤ b.size) (he : ¬ k < a.size ∨ ¬ k < b.size) : decide (Lib.compareBytes a.data.toList b.data.toList < 0) = decide (a.size < b.size) := by
  rw [h]
  have l1 : (a.data.toList.drop k).length = a.size - k := by simp
  have l2 : (b.data.toList.drop k).length = b.size - k := by simp
  generalize a.data.toList.drop k = x at *
  generalize b.data.toList.drop k = y at *
  cases x with
  | nil =>
    cases y with
    | nil => simp at l1 l2; simp [Lib.compareBytes]; omega
    | cons c y => simp at l1 l2; simp [Lib.compareBytes]; omega
  | cons c x =>
    cases y with
    | nil => simp at l1 l2; simp [Lib.compareBytes]; omega
    | cons d y => simp at l1 l2; omega
set_option maxRecDepth 100000 in
set_option maxHeartbeats 800000 in
theorem rbelow_any (a b : ByteArray) (w : World) (ha : a.size ≤ 9223372036854775807) (hb : b.size ≤ 9223372036854775807) :
    Calls Try.prog 99 #[.string a, .string b] w fun e w' => e = .returned (.bool (decide (Lib.compareBytes a.data.toList b.data.toList < 0))) ∧ ∃ n, w' = w.drewN n := by
  obtain ⟨cb, hcb⟩ : ∃ cb, Lib.compareBytes a.data.toList b.data.toList = cb := ⟨_, rfl⟩
  obtain ⟨res, hres⟩ : ∃ res, decide (Lib.compareBytes a.data.toList b.data.toList < 0) = res := ⟨_, rfl⟩
  rw [hres]
  have Hres := Lib.hid hres
  clear hres hcb
  go_enter Try.func99, Try.ntmps99
  go_wp2
  go_loopw [5] (fun i wr => ∃ k n : Nat, k ≤ a.size ∧ k ≤ b.size ∧ i = .int .i64 (k : Int) ∧ wr = w.drewN n ∧ Hid (Lib.compareBytes a.data.toList b.data.toList = Lib.compareBytes (a.data.toList.drop k) (b.data.toList.drop k))) (fun i _ => a.size - (intOf i).toNat)
  case atStart => exact ⟨0, 0, Nat.zero_le _, Nat.zero_le _, rfl, rfl, Lib.hid (by simp)⟩
  case round =>
    obtain ⟨k, n, hka, hkb, rfl, rfl, hc⟩ := hrel
    by_cases h1 : k < a.size
    · by_cases h2 : k < b.size
      · have hi0 : (0 : Int) ≤ (k : Int) := by omega
        have hi1 : (k : Int) < (a.size : Int) := by omega
        have hi2 : (k : Int) < (b.size : Int) := by omega
        by_cases he : a[k].toNat = b[k].toNat
        · have hC := Lib.hid (below_step h1 h2 hc.out he)
          have hne : ((a[k].toNat : Int) != (b[k].toNat : Int)) = false := by simp [he]
          clear hc he Hres
          go_wp2
          go_quiet (fail)
          go_wp2
          go_roundw
          case rel => exact ⟨k + 1, n + nq, by omega, by omega, by go_num, rfl, hC⟩
          case measure => simp [intOf]; omega
        · have hC := Lib.hid (below_stop h1 h2 hc.out he)
          have hne : ((a[k].toNat : Int) != (b[k].toNat : Int)) = true := by simp; omega
          clear hc he
          go_wp2
          go_quiet (fail)
          go_wp2
          go_quiet (fail)
          go_wp2
          go_ret
          exact ⟨ret_bool (by rw [← Hres.out, hC.out] <;> first | rfl | (rw [decide_eq_decide]; omega)), _, by rw [World.drewN_drewN, World.drewN_drewN]⟩
      · have hC := Lib.hid (below_end hc.out hka hkb (.inr h2))
        clear hc
        go_wp2
        go_ret
        exact ⟨ret_bool (by rw [← Hres.out, hC.out] <;> first | rfl | (rw [decide_eq_decide]; omega)), _, rfl⟩
    · have hC := Lib.hid (below_end hc.out hka hkb (.inl h1))
      clear hc
      go_wp2
      go_ret
      exact ⟨ret_bool (by rw [← Hres.out, hC.out] <;> first | rfl | (rw [decide_eq_decide]; omega)), _, rfl⟩

set_option maxRecDepth 100000 in
set_option maxHeartbeats 400000 in
theorem rless_any (a b : Pt.Point) (w : World) (ha : a.1.size ≤ 9223372036854775807) (hb : b.1.size ≤ 9223372036854775807) :
    Calls Try.prog 85 #[.agg #[.string a.1, .int .i64 a.2.1, .int .i64 a.2.2], .agg #[.string b.1, .int .i64 b.2.1, .int .i64 b.2.2]] w fun e w' => e = .returned (.bool (Pt.lessB a b)) ∧ Below w.heap.size w w' := by
  obtain ⟨s, t, v⟩ := a
  obtain ⟨s', t', v'⟩ := b
  have H1 := fun W => Lib.hid (rbelow_any s s' W ha hb)
  have HD := less_ref (s, t, v) (s', t', v')
  simp only at HD ha hb
  generalize Pt.lessB (s, t, v) (s', t', v') = res at *
  have hbl := ((Below.refl w.heap.size w).alloc (Nat.le_refl _) (.cells #[.string s, .int .i64 t, .int .i64 v] 52)).alloc (by simp) (.cells #[.string s', .int .i64 t', .int .i64 v'] 52)
  by_cases hs : s = s'
  · subst hs
    have HF : Hid (res = decide (t < t')) := by rw [if_neg (by simp)] at HD; exact HD
    clear HD
    go_enter Try.func85, Try.ntmps85
    go_wp2_with fail
    go_ret
    exact ⟨ret_bool HF.out.symm, hbl⟩
  · have HF : Hid (res = decide (Lib.compareBytes s.data.toList s'.data.toList < 0)) := by rw [if_pos hs] at HD; exact HD
    clear HD
    generalize decide (Lib.compareBytes s.data.toList s'.data.toList < 0) = r1 at *
    have hne : (s.toList == s'.toList) = false := by
      rw [beq_eq_false_iff_ne, Lib.toList_data, Lib.toList_data]
      exact fun e => hs (list_inj e)
    go_enter Try.func85, Try.ntmps85
    go_wp2_with fail
    refine (H1 _).out.mono ?_
    rintro e w1 ⟨rfl, n1, rfl⟩
    go_wp2_with fail
    go_ret
    exact ⟨ret_bool HF.out.symm, below_drewN hbl _⟩
end Go.Proofs.Ythdbmgjlegpbaaa
