/- The walks through May of point and of its reference. -/
import Derived.Test.YthdbmgjlegpbaaaPtWalks
namespace Go.Proofs.Ythdbmgjlegpbaaa
open Go.RowKit
set_option linter.unusedVariables false

set_option maxRecDepth 100000 in
theorem rsmall_any (x : Int) (w : World) : Calls Try.prog 54 #[.int .i64 x] w fun e w' => e = .returned (.bool (Pt.smallB x)) ∧ w = w' := by
  by_cases h1 : -2147483648 ≤ x
  · by_cases h2 : x ≤ 2147483647
    · have H : Hid (Pt.smallB x = true) := (Pt.smallB_iff x).2 ⟨h1, h2⟩
      go_enter Try.func54, Try.ntmps54
      go_wp2
      go_ret
      exact ⟨ret_bool H.out.symm, rfl⟩
    · have H : Hid (Pt.smallB x = false) := (Pt.smallB_false x).2 (by omega)
      go_enter Try.func54, Try.ntmps54
      go_wp2
      go_ret
      exact ⟨ret_bool H.out.symm, rfl⟩
  · have H : Hid (Pt.smallB x = false) := (Pt.smallB_false x).2 (by omega)
    go_enter Try.func54, Try.ntmps54
    go_wp2
    go_ret
    exact ⟨ret_bool H.out.symm, rfl⟩

set_option maxRecDepth 100000 in
set_option maxHeartbeats 800000 in
theorem rname_any (s : ByteArray) (w : World) : Calls Try.prog 100 #[.string s] w fun e w' => e = .returned (.bool (Pt.nameB s)) ∧ w = w' := by
  by_cases h0 : s.size < 1
  · have hf := Lib.hid (name_none (s := s) (by omega))
    generalize Pt.nameB s = b at *
    go_enter Try.func100, Try.ntmps100
    go_wp2
    go_ret
    exact ⟨ret_bool hf.out.symm, rfl⟩
  · by_cases h12 : s.size ≤ 12
    · go_enter Try.func100, Try.ntmps100
      go_wp2
      go_loop [3] (fun i => ∃ k : Nat, k ≤ s.size ∧ i = .int .i64 (k : Int) ∧ Hid ((s.data.toList.take k).all Pt.nameC = true)) (fun i => s.size - (intOf i).toNat)
      case atStart => exact ⟨0, Nat.zero_le _, rfl, Lib.hid (by simp)⟩
      case round =>
        obtain ⟨k, hk, rfl, ha⟩ := hrel
        by_cases hlt : k < s.size
        · have hc8 : s[k].toNat < 256 := s[k].toNat_lt
          have HY := Lib.hid fun h => name_step hlt ha.out h
          have HN := Lib.hid (name_stop hlt)
          clear ha
          by_cases h95 : s[k].toNat = 95
          · have hz : ((s[k].toNat : Int) != 95) = false := by rw [h95]; rfl
            have hY := Lib.hid (HY.out (nameC_yes3 (beq_iff_eq.2 (by omega))))
            clear h95 HY HN
            go_wp2
            go_round
            case rel => exact ⟨k + 1, by omega, by go_num, hY⟩
            case measure => simp [intOf]; omega
          · have hz : ((s[k].toNat : Int) != 95) = true := by simp; omega
            have hz' : ((s[k].toNat : Int) == 95) = false := by simp; omega
            by_cases hl : 97 ≤ s[k].toNat ∧ s[k].toNat ≤ 122
            · obtain ⟨hl1, hl2⟩ := hl
              have hY := Lib.hid (HY.out (nameC_yes1 (by omega) (by omega)))
              clear h95 HY HN hz'
              go_wp2
              go_round
              case rel => exact ⟨k + 1, by omega, by go_num, hY⟩
              case measure => simp [intOf]; omega
            · by_cases hd : 48 ≤ s[k].toNat ∧ s[k].toNat ≤ 57
              · obtain ⟨hd1, hd2⟩ := hd
                have hl' : s[k].toNat < 97 := by omega
                have hY := Lib.hid (HY.out (nameC_yes2 (by omega) (by omega)))
                clear h95 HY HN hz' hl
                go_wp2
                go_round
                case rel => exact ⟨k + 1, by omega, by go_num, hY⟩
                case measure => simp [intOf]; omega
              · have hN := Lib.hid (HN.out (nameC_no (by omega) (by omega) hz'))
                clear h95 HY HN hz'
                have hl' : s[k].toNat < 97 ∨ 122 < s[k].toNat := by omega
                have hd' : s[k].toNat < 48 ∨ 57 < s[k].toNat := by omega
                clear hl hd
                rcases hl' with hl' | hl' <;> rcases hd' with hd' | hd'
                all_goals first
                  | (exfalso; omega)
                  | (go_wp2
                     go_ret
                     exact ⟨ret_bool hN.out.symm, rfl⟩)
        · have hst := Lib.hid (name_done (by omega) h12 hlt ha.out)
          clear ha
          go_wp2
          go_ret
          exact ⟨ret_bool hst.out.symm, rfl⟩
    · have hf := Lib.hid (name_much h12)
      generalize Pt.nameB s = b at *
      go_enter Try.func100, Try.ntmps100
      go_wp2
      go_ret
      exact ⟨ret_bool hf.out.symm, rfl⟩

/-- a point's numbers are ints -/
def Pt.wf (p : Pt.Point) : Prop := (-9223372036854775808 ≤ p.2.1 ∧ p.2.1 ≤ 9223372036854775807) ∧ (-9223372036854775808 ≤ p.2.2 ∧ p.2.2 ≤ 9223372036854775807)
def ptV (p : Pt.Point) : Value := .agg #[.string p.1, .int .i64 p.2.1, .int .i64 p.2.2]

set_option maxRecDepth 100000 in
theorem may_any (p : Pt.Point) (w : World) (hp : Pt.wf p) : Calls Try.prog 104 #[.agg #[.string p.1, .int .i64 p.2.1, .int .i64 p.2.2]] w fun e w' => e = .returned (.bool (Pt.mayB p)) ∧ Below w.heap.size w w' := by
  obtain ⟨s, t, v⟩ := p
  have H1 := fun W => Lib.hid (name_any s W)
  have H2 := fun W => Lib.hid (small_any t W hp.1)
  have H3 := fun W => Lib.hid (small_any v W hp.2)
  have hm : Pt.mayB (s, t, v) = (Pt.nameB s && Pt.smallB t && Pt.smallB v) := rfl
  clear hp
  generalize Pt.mayB (s, t, v) = b at *
  generalize Pt.nameB s = b1 at *
  generalize Pt.smallB t = b2 at *
  generalize Pt.smallB v = b3 at *
  have Hm := Lib.hid hm
  clear hm
  have hb := (Below.refl w.heap.size w).alloc (Nat.le_refl _) (.cells #[.string s, .int .i64 t, .int .i64 v] 52)
  cases b1
  · go_enter Try.func104, Try.ntmps104
    go_wp2_with fail
    refine (H1 _).out.mono ?_
    rintro e w' ⟨rfl, rfl⟩
    go_wp2_with fail
    go_ret
    exact ⟨ret_bool (by rw [Hm.out]; rfl), hb⟩
  · cases b2
    · go_enter Try.func104, Try.ntmps104
      go_wp2_with fail
      refine (H1 _).out.mono ?_
      rintro e w' ⟨rfl, rfl⟩
      go_wp2_with fail
      refine (H2 _).out.mono ?_
      rintro e w' ⟨rfl, rfl⟩
      go_wp2_with fail
      go_ret
      exact ⟨ret_bool (by rw [Hm.out]; rfl), hb⟩
    · go_enter Try.func104, Try.ntmps104
      go_wp2_with fail
      refine (H1 _).out.mono ?_
      rintro e w' ⟨rfl, rfl⟩
      go_wp2_with fail
      refine (H2 _).out.mono ?_
      rintro e w' ⟨rfl, rfl⟩
      go_wp2_with fail
      refine (H3 _).out.mono ?_
      rintro e w' ⟨rfl, rfl⟩
      go_wp2_with fail
      go_ret
      exact ⟨ret_bool (by rw [Hm.out]; rfl), hb⟩

set_option maxRecDepth 100000 in
theorem rmay_any (p : Pt.Point) (w : World) (hp : Pt.wf p) : Calls Try.prog 86 #[.agg #[.string p.1, .int .i64 p.2.1, .int .i64 p.2.2]] w fun e w' => e = .returned (.bool (Pt.mayB p)) ∧ Below w.heap.size w w' := by
  obtain ⟨s, t, v⟩ := p
  have H1 := fun W => Lib.hid (rname_any s W)
  have H2 := fun W => Lib.hid (rsmall_any t W)
  have H3 := fun W => Lib.hid (rsmall_any v W)
  have hm : Pt.mayB (s, t, v) = (Pt.nameB s && Pt.smallB t && Pt.smallB v) := rfl
  clear hp
  generalize Pt.mayB (s, t, v) = b at *
  generalize Pt.nameB s = b1 at *
  generalize Pt.smallB t = b2 at *
  generalize Pt.smallB v = b3 at *
  have Hm := Lib.hid hm
  clear hm
  have hb := (Below.refl w.heap.size w).alloc (Nat.le_refl _) (.cells #[.string s, .int .i64 t, .int .i64 v] 52)
  cases b1
  · go_enter Try.func86, Try.ntmps86
    go_wp2_with fail
    refine (H1 _).out.mono ?_
    rintro e w' ⟨rfl, rfl⟩
    go_wp2_with fail
    go_ret
    exact ⟨ret_bool (by rw [Hm.out]; rfl), hb⟩
  · cases b2
    · go_enter Try.func86, Try.ntmps86
      go_wp2_with fail
      refine (H1 _).out.mono ?_
      rintro e w' ⟨rfl, rfl⟩
      go_wp2_with fail
      refine (H2 _).out.mono ?_
      rintro e w' ⟨rfl, rfl⟩
      go_wp2_with fail
      go_ret
      exact ⟨ret_bool (by rw [Hm.out]; rfl), hb⟩
    · go_enter Try.func86, Try.ntmps86
      go_wp2_with fail
      refine (H1 _).out.mono ?_
      rintro e w' ⟨rfl, rfl⟩
      go_wp2_with fail
      refine (H2 _).out.mono ?_
      rintro e w' ⟨rfl, rfl⟩
      go_wp2_with fail
      refine (H3 _).out.mono ?_
      rintro e w' ⟨rfl, rfl⟩
      go_wp2_with fail
      go_ret
      exact ⟨ret_bool (by rw [Hm.out]; rfl), hb⟩
end Go.Proofs.Ythdbmgjlegpbaaa
