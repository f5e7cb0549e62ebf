/- The walks through PointSmall and PointNames. -/
import Derived.Test.YtjfdkjgmjjfmcaaPtLaws
namespace Go.Proofs.Ytjfdkjgmjjfmcaa
open Go.RowKit
set_option linter.unusedVariables false

theorem may_s (t v : Int) : Pt.mayB (⟨#[115]⟩, t, v) = (Pt.smallB t && Pt.smallB v) := by
  have : Pt.nameB ⟨#[115]⟩ = true := by decide +kernel
  show (Pt.nameB ⟨#[115]⟩ && Pt.smallB t && Pt.smallB v) = _
  rw [this]; simp
set_option maxRecDepth 100000 in
set_option maxHeartbeats 800000 in
theorem pointSmall_walk (a0 a1 : Int) (w0 : (Lit.int .i64 a0).wf = true) (w1 : (Lit.int .i64 a1).wf = true) (w : World) :
    Calls Try.prog 19 #[.int .i64 a0, .int .i64 a1] w fun e w' => e = .returned (.bool true) ∧ Below w.heap.size w w' := by
  have h0 := wf_int w0
  have h1 := wf_int w1
  clear w0 w1
  have HM := fun W => Lib.hid (may_any (⟨#[115]⟩, a0, a1) W ⟨h0, h1⟩)
  have hm := may_s a0 a1
  have ht : (a0 < -2147483648) ∨ (2147483647 < a0) ∨ (-2147483648 ≤ a0 ∧ a0 ≤ 2147483647) := by omega
  have hv : (a1 < -2147483648) ∨ (2147483647 < a1) ∨ (-2147483648 ≤ a1 ∧ a1 ≤ 2147483647) := by omega
  have key : (Pt.mayB (⟨#[115]⟩, a0, a1) = true ∧ (-2147483648 ≤ a0 ∧ a0 ≤ 2147483647) ∧ (-2147483648 ≤ a1 ∧ a1 ≤ 2147483647)) ∨ (Pt.mayB (⟨#[115]⟩, a0, a1) = false ∧ ¬ ((-2147483648 ≤ a0 ∧ a0 ≤ 2147483647) ∧ (-2147483648 ≤ a1 ∧ a1 ≤ 2147483647))) := by
    rw [hm]
    by_cases h : (-2147483648 ≤ a0 ∧ a0 ≤ 2147483647) ∧ (-2147483648 ≤ a1 ∧ a1 ≤ 2147483647)
    · left; exact ⟨by rw [(Pt.smallB_iff a0).2 h.1, (Pt.smallB_iff a1).2 h.2]; rfl, h.1, h.2⟩
    · right; refine ⟨?_, h⟩
      by_cases h2 : (-2147483648 ≤ a0 ∧ a0 ≤ 2147483647)
      · rw [(Pt.smallB_false a1).2 (fun k => h ⟨h2, k⟩)]; simp
      · rw [(Pt.smallB_false a0).2 h2]; simp
  clear hm
  rcases key with ⟨hm, ht', hv'⟩ | ⟨hm, hno⟩
  · obtain ⟨t1, t2⟩ := ht'
    obtain ⟨v1, v2⟩ := hv'
    rw [hm] at HM
    clear hm ht hv
    go_enter Try.func19, Try.ntmps19
    go_wp2_with fail
    refine (awake3 _).mono ?_
    rintro e w1 ⟨rfl, hb1⟩
    go_wp2_with fail
    refine (HM _).out.mono ?_
    rintro e w2 ⟨rfl, hb2⟩
    go_wp2_with fail
    go_ret
    exact ⟨rfl, hb1.trans (hb2.mono hb1.size)⟩
  · rw [hm] at HM
    clear hm
    rcases ht with ht | ht | ⟨t1, t2⟩ <;> rcases hv with hv | hv | ⟨v1, v2⟩
    all_goals first
      | (exfalso; omega)
      | ((try have d1 : decide (a1 ≤ 2147483647) = false := decide_eq_false (by omega))
         (try have d2 : decide (a1 ≤ 2147483647) = true := decide_eq_true (by omega))
         clear hno
         go_enter Try.func19, Try.ntmps19
         go_wp2_with fail
         refine (awake3 _).mono ?_
         rintro e w1 ⟨rfl, hb1⟩
         go_wp2_with fail
         refine (HM _).out.mono ?_
         rintro e w2 ⟨rfl, hb2⟩
         go_wp2_with fail
         go_ret
         exact ⟨rfl, hb1.trans (hb2.mono hb1.size)⟩)

theorem batch_one (p : Pt.Point) (W : World) (g : Nat) (hg : W.heap.size = g) (hp : Pt.wf p) :
    Calls Try.prog 66 #[.slice (some ⟨g, 0, none⟩) 1 1] (W.alloc (.cells #[.string p.1, .int .i64 p.2.1, .int .i64 p.2.2] 85)) fun e w' => e = .returned (.bool (Pt.batchB [p])) ∧ Below (g + 1) (W.alloc (.cells #[.string p.1, .int .i64 p.2.1, .int .i64 p.2.2] 85)) w' := by
  subst hg
  have := batch_any (some ⟨W.heap.size, 0, none⟩) 1 [p] (W.alloc (.cells #[.string p.1, .int .i64 p.2.1, .int .i64 p.2.2] 85)) (W.heap.size + 1) (reads_one W p) (by simp) (by simp) (by simpa using hp)
  simp only [World.size_alloc] at this
  exact this
theorem may_n (s : ByteArray) : Pt.mayB (s, 0, 0) = Pt.nameB s := by
  have : Pt.smallB 0 = true := by decide
  show (Pt.nameB s && Pt.smallB 0 && Pt.smallB 0) = _
  rw [this]; simp
theorem batch_n (s : ByteArray) : Pt.batchB [(s, 0, 0)] = Pt.nameB s := by
  show (decide (1 ≤ 8) && ([(s, (0 : Int), (0 : Int))] : List Pt.Point).all Pt.mayB) = _
  simp [may_n]
def Pt.headB (s : ByteArray) : Bool := decide (1 ≤ s.size) && decide (s.size ≤ 12)
theorem names_stop {s : ByteArray} {k : Nat} (hk : k < s.size) {f : Bool} (h : f = (Pt.headB s && (s.data.toList.take k).all Pt.nameC)) (h2 : Pt.nameC s[k] = false) : false = (Pt.headB s && (s.data.toList.take (k + 1)).all Pt.nameC) := by
  rw [take_snoc s k hk, List.all_append]; simp [h2]
theorem names_go {s : ByteArray} {k : Nat} (hk : k < s.size) {f : Bool} (h : f = (Pt.headB s && (s.data.toList.take k).all Pt.nameC)) (h2 : Pt.nameC s[k] = true) : f = (Pt.headB s && (s.data.toList.take (k + 1)).all Pt.nameC) := by
  rw [take_snoc s k hk, List.all_append, h]; simp [h2]
theorem names_false {s : ByteArray} {k : Nat} (hk : k < s.size) (h : false = (Pt.headB s && (s.data.toList.take k).all Pt.nameC)) : false = (Pt.headB s && (s.data.toList.take (k + 1)).all Pt.nameC) := by
  rw [take_snoc s k hk, List.all_append, ← Bool.and_assoc, ← h]; rfl
theorem names_done {s : ByteArray} {k : Nat} (hk : ¬ k < s.size) {f : Bool} (h : f = (Pt.headB s && (s.data.toList.take k).all Pt.nameC)) : Pt.nameB s = f := by
  rw [h, List.take_of_length_le (by simp; omega)]; rfl
set_option maxRecDepth 100000 in
set_option maxHeartbeats 1600000 in
theorem pointNames_walk (a0 : ByteArray) (b0 : a0.size ≤ 140737488351232) (w : World) :
    Calls Try.prog 18 #[.string a0] w fun e w' => e = .returned (.bool true) ∧ Below w.heap.size w w' := by
  have H4 := fun W => Lib.hid (may_any (a0, 0, 0) W ⟨by simp, by simp⟩)
  have H5 := fun W g hg => Lib.hid (batch_one (a0, 0, 0) W g hg ⟨by simp, by simp⟩)
  rw [may_n] at H4
  rw [batch_n] at H5
  simp only at H5
  have key : ∀ (f : Bool), Hid (f = Pt.headB a0) → Hid (f = (Pt.headB a0 && (a0.data.toList.take 0).all Pt.nameC)) := fun f h => by show _ = _; rw [h.out]; simp
  have Key := Lib.hid key
  clear key
  have hcase : (a0.size < 1) ∨ (12 < a0.size) ∨ (1 ≤ a0.size ∧ a0.size ≤ 12) := by omega
  obtain ⟨f0, hf0⟩ : ∃ f0 : Bool, f0 = Pt.headB a0 := ⟨_, rfl⟩
  have hff : (f0 = false ∧ a0.size < 1) ∨ (f0 = false ∧ 12 < a0.size) ∨ (f0 = true ∧ 1 ≤ a0.size ∧ a0.size ≤ 12) := by
    unfold Pt.headB at hf0
    rcases hcase with h | h | ⟨h, h'⟩
    · left; exact ⟨by rw [hf0]; simp; omega, h⟩
    · right; left; exact ⟨by rw [hf0]; simp; omega, h⟩
    · right; right; exact ⟨by rw [hf0]; simp; omega, h, h'⟩
  have Hf0 := Key.out f0 (Lib.hid hf0)
  clear hcase hf0 Key
  rcases hff with ⟨rfl, h⟩ | ⟨rfl, h⟩ | ⟨rfl, h, h'⟩
  all_goals
    (try have d1 : decide ((a0.size : Int) ≤ 12) = false := decide_eq_false (by omega))
    (try have d2 : decide ((a0.size : Int) ≤ 12) = true := decide_eq_true (by omega))
    go_enter Try.func18, Try.ntmps18
    go_wp2_with fail
    refine (awake3 _).mono ?_
    rintro e w1 ⟨rfl, hb1⟩
    have Hb1 := Lib.hid hb1
    have hs1 := hb1.size
    clear hb1
    go_wp2_with fail
    go_loop [3, 4, 5] (fun v i _ => ∃ (k : Nat) (f : Bool), k ≤ a0.size ∧ i = .int .i64 (k : Int) ∧ v = .bool f ∧ Hid (f = (Pt.headB a0 && (a0.data.toList.take k).all Pt.nameC))) (fun _ i _ => a0.size - (intOf i).toNat)
    case atStart => exact ⟨0, _, Nat.zero_le _, rfl, rfl, Hf0⟩
    case round =>
      obtain ⟨k, f, hk, rfl, rfl, ha⟩ := hrel
      by_cases hlt : k < a0.size
      · have hc8 : a0[k].toNat < 256 := a0[k].toNat_lt
        first
          | (exfalso; omega)
          | (cases f
             · have hF := Lib.hid (names_false hlt ha.out)
               clear ha
               go_wp2_with fail
               go_round
               case rel => exact ⟨k + 1, false, by omega, by go_num, rfl, hF⟩
               case measure => simp [intOf]; omega
             · have HY := Lib.hid fun h => names_go hlt ha.out h
               have HN := Lib.hid fun h => names_stop hlt ha.out h
               clear ha
               by_cases h95 : a0[k].toNat = 95
               · have hz : ((a0[k].toNat : Int) == 95) = true := beq_iff_eq.2 (by omega)
                 have hY := Lib.hid (HY.out (nameC_yes3 hz))
                 clear h95 HY HN
                 go_wp2_with fail
                 go_round
                 case rel => exact ⟨k + 1, true, by omega, by go_num, rfl, hY⟩
                 case measure => simp [intOf]; omega
               · have hz : ((a0[k].toNat : Int) == 95) = false := beq_eq_false_iff_ne.2 (by omega)
                 by_cases hl : 97 ≤ a0[k].toNat ∧ a0[k].toNat ≤ 122
                 · obtain ⟨hl1, hl2⟩ := hl
                   have hY := Lib.hid (HY.out (nameC_yes1 (by omega) (by omega)))
                   have d3 : decide ((a0[k].toNat : Int) ≤ 122) = true := decide_eq_true (by omega)
                   clear h95 HY HN
                   go_wp2_with fail
                   go_round
                   case rel => exact ⟨k + 1, true, by omega, by go_num, rfl, hY⟩
                   case measure => simp [intOf]; omega
                 · by_cases hd : 48 ≤ a0[k].toNat ∧ a0[k].toNat ≤ 57
                   · obtain ⟨hd1, hd2⟩ := hd
                     have hl' : a0[k].toNat < 97 := by omega
                     have d3 : decide ((a0[k].toNat : Int) ≤ 57) = true := decide_eq_true (by omega)
                     have hY := Lib.hid (HY.out (nameC_yes2 (by omega) (by omega)))
                     clear h95 HY HN hl
                     go_wp2_with fail
                     go_round
                     case rel => exact ⟨k + 1, true, by omega, by go_num, rfl, hY⟩
                     case measure => simp [intOf]; omega
                   · have hN := Lib.hid (HN.out (nameC_no (by omega) (by omega) hz))
                     have hl' : a0[k].toNat < 97 ∨ 122 < a0[k].toNat := by omega
                     have hd' : a0[k].toNat < 48 ∨ 57 < a0[k].toNat := by omega
                     clear h95 HY HN hl hd
                     rcases hl' with hl' | hl' <;> rcases hd' with hd' | hd'
                     all_goals first
                       | (exfalso; omega)
                       | ((try have d3 : decide ((a0[k].toNat : Int) ≤ 57) = false := decide_eq_false (by omega))
                          (try have d4 : decide ((a0[k].toNat : Int) ≤ 122) = false := decide_eq_false (by omega))
                          go_wp2_with fail
                          go_round
                          case rel => exact ⟨k + 1, false, by omega, by go_num, rfl, hN⟩
                          case measure => simp [intOf]; omega))
      · have hst := names_done hlt ha.out
        rw [hst] at H4 H5
        clear ha hst Hf0
        cases f
        all_goals
          go_wp2_with fail
          refine (H4 _).out.mono ?_
          rintro e w2 ⟨rfl, hb2⟩
          have Hb2 := Lib.hid hb2
          have hs2 := hb2.size
          clear hb2
          go_wp2_with fail
          refine (H5 w2 _ rfl).out.mono ?_
          rintro e w3 ⟨rfl, hb3⟩
          have Hb3 := Lib.hid hb3
          clear hb3
          go_wp2_with fail
          go_ret
          exact ⟨rfl, Hb1.out.trans ((Hb2.out.mono hs1).trans ((((Below.refl _ _).alloc (Nat.le_refl _) _).trans (Hb3.out.mono (by omega))).mono (Nat.le_trans hs1 hs2)))⟩
end Go.Proofs.Ytjfdkjgmjjfmcaa
