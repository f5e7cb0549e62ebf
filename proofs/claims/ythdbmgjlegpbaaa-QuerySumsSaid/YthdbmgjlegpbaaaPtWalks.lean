/- The walks through point.Name, Small, May, Batch and the references' Name, Small, May, Batch. -/
import Derived.Test.YthdbmgjlegpbaaaRows
import Derived.Test.YthdbmgjlegpbaaaPtPlain
import Derived.Test.YthdbmgjlegpbaaaSamePts
namespace Go.Proofs.Ythdbmgjlegpbaaa
open Go.RowKit
set_option linter.unusedVariables false

theorem nameC_yes1 {c : UInt8} (h : (97 : Int) ≤ (c.toNat : Int)) (h' : (c.toNat : Int) ≤ 122) : Pt.nameC c = true := by unfold Pt.nameC; simp; omega
theorem nameC_yes2 {c : UInt8} (h : (48 : Int) ≤ (c.toNat : Int)) (h' : (c.toNat : Int) ≤ 57) : Pt.nameC c = true := by unfold Pt.nameC; simp; omega
theorem nameC_yes3 {c : UInt8} (h : ((c.toNat : Int) == 95) = true) : Pt.nameC c = true := by rw [beq_iff_eq] at h; unfold Pt.nameC; simp; omega
theorem nameC_no {c : UInt8} (h : ¬ ((97 : Int) ≤ (c.toNat : Int) ∧ (c.toNat : Int) ≤ 122)) (h' : ¬ ((48 : Int) ≤ (c.toNat : Int) ∧ (c.toNat : Int) ≤ 57)) (h'' : ((c.toNat : Int) == 95) = false) : Pt.nameC c = false := by
  rw [beq_eq_false_iff_ne] at h''; unfold Pt.nameC; simp; omega
theorem name_none {s : ByteArray} (h : s.size = 0) : Pt.nameB s = false := by unfold Pt.nameB; simp [h]
theorem name_much {s : ByteArray} (h : ¬ s.size ≤ 12) : Pt.nameB s = false := by unfold Pt.nameB; simp [h]
theorem name_stop {s : ByteArray} {k : Nat} (hk : k < s.size) (h : Pt.nameC s[k] = false) : Pt.nameB s = false := by
  unfold Pt.nameB
  have : s.data.toList.all Pt.nameC = false := by
    rw [List.all_eq_false]
    exact ⟨s[k], by simp; exact Array.getElem_mem _, by rw [h]; simp⟩
  rw [this]; simp
theorem name_step {s : ByteArray} {k : Nat} (hk : k < s.size) (ha : (s.data.toList.take k).all Pt.nameC = true) (h : Pt.nameC s[k] = true) : (s.data.toList.take (k + 1)).all Pt.nameC = true := by
  rw [take_snoc s k hk, List.all_append, ha]; simp [h]
theorem name_done {s : ByteArray} {k : Nat} (h1 : 1 ≤ s.size) (h2 : s.size ≤ 12) (hk : ¬ k < s.size) (ha : (s.data.toList.take k).all Pt.nameC = true) : Pt.nameB s = true := by
  rw [List.take_of_length_le (by simp; omega)] at ha
  unfold Pt.nameB; simp [ha, h1, h2]

set_option maxRecDepth 100000 in
set_option maxHeartbeats 800000 in
theorem name_any (s : ByteArray) (w : World) : Calls Try.prog 107 #[.string s] w fun e w' => e = .returned (.bool (Pt.nameB s)) ∧ w = w' := by
  by_cases h0 : s.size = 0
  · have hf := Lib.hid (name_none h0)
    have he := empty_of h0
    subst he
    clear h0
    generalize Pt.nameB ⟨#[]⟩ = b at *
    go_enter Try.func107, Try.ntmps107
    go_wp2
    go_step3
    go_wp2
    rw [Exit.noGoto_ret]
    go_ret
    exact ⟨ret_bool hf.out.symm, rfl⟩
  · have hne := nonempty_of h0
    by_cases h12 : s.size ≤ 12
    · go_enter Try.func107, Try.ntmps107
      go_wp2
      go_step3
      go_wp2
      go_step3
      go_wp2
      go_loop [14] (fun i => ∃ k : Nat, k ≤ s.size ∧ i = .int .i64 (k : Int) ∧ Hid ((s.data.toList.take k).all Pt.nameC = true)) (fun i => s.size - (intOf i).toNat)
      case atStart => exact ⟨0, Nat.zero_le _, rfl, Lib.hid (by simp)⟩
      case round =>
        obtain ⟨k, hk, rfl, ha⟩ := hrel
        by_cases hlt : k < s.size
        · have hc8 : s[k].toNat < 256 := s[k].toNat_lt
          have hk1 := fun h => name_step hlt ha.out h
          have hk2 := name_stop hlt
          have HY := Lib.hid hk1
          have HN := Lib.hid hk2
          clear hk1 hk2 ha
          go_wp2
          all_goals first
            | (go_round
               case rel => exact ⟨k + 1, by omega, by go_num, Lib.hid (HY.out (by first | exact nameC_yes1 ‹_› ‹_› | exact nameC_yes2 ‹_› ‹_› | exact nameC_yes3 ‹_›))⟩
               case measure => simp [intOf]; omega)
            | ((try rw [Exit.noGoto_ret])
               go_ret
               exact ⟨ret_bool (HN.out (nameC_no (by omega) (by omega) ‹_›)).symm, rfl⟩)
        · have hst := Lib.hid (name_done (by omega) h12 hlt ha.out)
          clear ha
          go_wp2
          (try rw [Exit.noGoto_ret])
          go_ret
          exact ⟨ret_bool hst.out.symm, rfl⟩
    · have hf := Lib.hid (name_much h12)
      generalize Pt.nameB s = b at *
      go_enter Try.func107, Try.ntmps107
      go_wp2
      go_step3
      go_wp2
      rw [Exit.noGoto_ret]
      go_ret
      exact ⟨ret_bool hf.out.symm, rfl⟩

theorem small_eq (x : Int) (hx : -9223372036854775808 ≤ x ∧ x ≤ 9223372036854775807) : (x == wrap64 (wrap32 x)) = Pt.smallB x := by
  rw [Bool.eq_iff_iff, beq_iff_eq, Pt.smallB_iff]
  have h32 : wrap32 x = (x + 2147483648) % 4294967296 - 2147483648 := by unfold wrap32; rfl
  rw [h32, IntWalk.wrap64_in _ ⟨by omega, by omega⟩]
  omega
set_option maxRecDepth 100000 in
theorem small_any (x : Int) (w : World) (hx : -9223372036854775808 ≤ x ∧ x ≤ 9223372036854775807) : Calls Try.prog 39 #[.int .i64 x] w fun e w' => e = .returned (.bool (Pt.smallB x)) ∧ w = w' := by
  have H := Lib.hid (small_eq x hx)
  clear hx
  generalize Pt.smallB x = b at *
  go_enter Try.func39, Try.ntmps39
  go_wp2
  go_ret
  exact ⟨ret_bool H.out, rfl⟩
end Go.Proofs.Ythdbmgjlegpbaaa
