/- The walk through column.GetInts. -/
import Derived.Test.YthdbmgjlegpbaaaClInts
namespace Go.Proofs.Ythdbmgjlegpbaaa
open Go.RowKit
set_option linter.unusedVariables false

set_option maxRecDepth 100000 in
set_option maxHeartbeats 1600000 in
theorem getInts_any (s : ByteArray) (a many : Int) (w : World) (hs : s.size ≤ 4611686018427387904) (ha : -9223372036854775808 ≤ a ∧ a ≤ 9223372036854775807) :
    Calls Try.prog 16 #[.string s, .int .i64 a, .int .i64 many] w (IntsPost w (Cl.getInts s a many)) := by
  obtain ⟨i0, hi, hz0, hz1, hz2⟩ := info_parts info_int
  by_cases hno : many < 0 ∨ 65536 < many ∨ a < 0 ∨ (s.size : Int) < a
  · have HR := Lib.hid (getInts_no hno)
    generalize Cl.getInts s a many = res at *
    by_cases h1 : many < 0
    · clear hno
      go_enter Try.func16, Try.ntmps16
      go_wp2_with fail
      go_ret3
      exact ⟨_, by rw [HR.out]; rfl, by rw [HR.out]; exact own_nil _ _ _ _, Below.refl _ _⟩
    · by_cases h2 : 65536 < many
      · clear hno
        go_enter Try.func16, Try.ntmps16
        go_wp2_with fail
        go_ret3
        exact ⟨_, by rw [HR.out]; rfl, by rw [HR.out]; exact own_nil _ _ _ _, Below.refl _ _⟩
      · by_cases h3 : a < 0
        · clear hno
          go_enter Try.func16, Try.ntmps16
          go_wp2_with fail
          go_ret3
          exact ⟨_, by rw [HR.out]; rfl, by rw [HR.out]; exact own_nil _ _ _ _, Below.refl _ _⟩
        · have h4 : (s.size : Int) < a := by omega
          clear hno
          go_enter Try.func16, Try.ntmps16
          go_wp2_with fail
          go_ret3
          exact ⟨_, by rw [HR.out]; rfl, by rw [HR.out]; exact own_nil _ _ _ _, Below.refl _ _⟩
  · obtain ⟨n, rfl⟩ : ∃ n : Nat, many = n := ⟨many.toNat, by omega⟩
    have HN := Lib.hid (fun h => @getInts_none s a n h)
    have HO := Lib.hid (fun r h => @getInts_some s a n r (by omega) (by omega) h)
    have hm0 : ¬ (n : Int) < 0 := by omega
    have hm1 : ¬ 65536 < (n : Int) := by omega
    have ha0 : ¬ a < 0 := by omega
    have ha1 : ¬ (s.size : Int) < a := by omega
    clear hno
    generalize Cl.getInts s a (n : Int) = res at *
    go_enter Try.func16, Try.ntmps16
    go_wp2_with fail
    have hR0 := RdAt.new w s a
    have hb0 : Below w.heap.size w (w.alloc (.cells #[.string s, .int .i64 a, .bool false] 83)) := (Below.refl _ _).alloc (Nat.le_refl _) _
    have hz : (w.alloc (.cells #[.string s, .int .i64 a, .bool false] 83)).heap.size = w.heap.size + 1 := by simp
    have HR0 := Lib.hid hR0
    have Hb0 := Lib.hid hb0
    have Hz := Lib.hid hz
    clear hR0 hb0 hz
    generalize w.alloc (.cells #[.string s, .int .i64 a, .bool false] 83) = w1 at *
    generalize hgg : w.heap.size = g at *
    have Hgg := Lib.hid hgg
    clear hgg
    go_loopw [10, 11, 33] (fun vo vl i wr => ∃ (k : Nat) (out : List Int) (last a' : Int), k ≤ n ∧ i = .int .i64 (k : Int) ∧ vl = .int .i64 last ∧ (-2147483648 ≤ last ∧ last ≤ 2147483647) ∧ out.length ≤ k ∧ (-9223372036854775808 ≤ a' ∧ a' ≤ 9223372036854775807) ∧ Hid (Cl.goInts s.data.toList n 0 a = (Cl.goInts s.data.toList (n - k) last a').map fun r => (out ++ r.1, r.2)) ∧ Hid (RdAt wr g s (a', false)) ∧ Hid (wr.ownsRow (g + 1) 3 1 vo out.length (out.map (Value.int .i64))) ∧ Hid (Below g w wr)) (fun _ _ i _ => n - (intOf i).toNat)
    case atStart => exact ⟨0, [], 0, a, Nat.zero_le _, rfl, rfl, by omega, by simp, ha, Lib.hid (by simp), HR0, Lib.hid (own_nil _ _ _ _), Hb0⟩
    case round =>
      obtain ⟨k, out, last, a', hk, rfl, rfl, hlast, hol, ha', hrel, hR, hown, hbw⟩ := hrel
      have hgl := hR.out.lt
      by_cases hlt : k < n
      · have H1 := Lib.hid (readerNum_any s a' false (-8589934592) 8589934592 wr g hR.out (by omega) ha')
        have hbd := getN_bd' s a' hs
        have HSt := Lib.hid (fun h => HN.out (go_stop hlt hrel.out h))
        have HGo := Lib.hid (fun d to h h2 => go_step (d := d) (to := to) hlt hrel.out h h2)
        have hdef : Pt.rdNum s (-8589934592) 8589934592 (a', false) = if (Wr.getN s.data.toList a').2.2 ≠ 0 ∨ (Wr.getN s.data.toList a').1 < -8589934592 ∨ 8589934592 < (Wr.getN s.data.toList a').1 ∨ false = true then (0, (a', true)) else ((Wr.getN s.data.toList a').1, ((Wr.getN s.data.toList a').2.1, false)) := rfl
        clear hrel HN HO
        generalize Pt.rdNum s (-8589934592) 8589934592 (a', false) = Y at *
        generalize Wr.getN s.data.toList a' = X at *
        obtain ⟨d, to, e0⟩ := X
        simp only at hbd HSt hdef
        obtain ⟨hb1, hb2⟩ := hbd
        by_cases hbad : e0 ≠ 0 ∨ d < -8589934592 ∨ 8589934592 < d ∨ false = true
        · rw [if_pos hbad] at hdef
          subst hdef
          have HRf := Lib.hid (HSt.out (by
            rcases hbad with h | h | h | h
            · exact .inl h
            · exact .inr ((Pt.smallB_false _).2 (by omega))
            · exact .inr ((Pt.smallB_false _).2 (by omega))
            · cases h))
          clear HSt HGo hbad
          go_wp2_with fail
          refine H1.out.mono ?_
          rintro e w2 ⟨rfl, hR2, ho2⟩
          have hc2 := hR2.cell2
          simp only at hc2
          have Hb2 : Hid (Below g w w2) := hbw.out.trans (ho2.below (fun j hj e => by omega) (by omega))
          clear hR2 ho2
          go_wp2_with fail
          go_ret3
          exact ⟨_, by rw [HRf.out]; rfl, by rw [HRf.out]; exact own_nil _ _ _ _, by rw [Hgg.out]; exact Hb2.out⟩
        · rw [if_neg hbad] at hdef
          subst hdef
          obtain rfl : e0 = 0 := by
            by_cases h : e0 = 0
            · exact h
            · exact absurd (.inl h) hbad
          have hd1 : -8589934592 ≤ d ∧ d ≤ 8589934592 := by omega
          have HS := fun W => Lib.hid (small_any (last + d) W (by omega))
          clear hbad
          cases hs : Pt.smallB (last + d)
          · have HRf := Lib.hid (HSt.out (.inr hs))
            rw [hs] at HS
            clear hs HSt HGo
            go_wp2_with fail
            refine H1.out.mono ?_
            rintro e w2 ⟨rfl, hR2, ho2⟩
            have hc2 := hR2.cell2
            simp only at hc2
            have Hb2 : Hid (Below g w w2) := hbw.out.trans (ho2.below (fun j hj e => by omega) (by omega))
            clear hR2 ho2
            go_wp2_with fail
            refine (HS _).out.mono ?_
            rintro e w' ⟨rfl, rfl⟩
            go_wp2_with fail
            go_ret3
            exact ⟨_, by rw [HRf.out]; rfl, by rw [HRf.out]; exact own_nil _ _ _ _, by rw [Hgg.out]; exact Hb2.out⟩
          · have hsm := (Pt.smallB_iff _).1 hs
            have HRf := Lib.hid (HGo.out d to rfl hs)
            rw [hs] at HS
            clear hs HSt HGo
            go_wp2_with fail
            refine H1.out.mono ?_
            rintro e w2 ⟨rfl, hR2, ho2⟩
            have hc2 := hR2.cell2
            simp only at hc2
            have Hb2 : Hid (Below g w w2) := hbw.out.trans (ho2.below (fun j hj e => by omega) (by omega))
            have HR2 := Lib.hid hR2
            have Ho2 := Lib.hid (own_only hown.out ho2 (fun g' hg' e => own_ne_lt hown.out (Nat.lt_succ_self g) (by rw [hg', e])))
            have hs2 := HR2.out.lt
            clear hR2 ho2
            go_wp2_with fail
            refine (HS _).out.mono ?_
            rintro e w' ⟨rfl, rfl⟩
            go_wp2_with (at_builtin; refine wpList_push_only _ rfl _ _ 22 rfl (g + 1) 3 i0 _ 1 8 Try.underlying22 hi hz0 hz1 hz2 rfl (by decide) _ out.length _ (by rfl) Ho2.out [.int .i64 (last + d)] (by rfl) rfl (by simp [Value.oneCell']) (by unfold maxLen; omega) (by omega) (by omega) ?_; intro v8 w8 hown8 ho8 _)
            have Hown8 : Hid (w8.ownsRow (g + 1) 3 1 v8 (out ++ [last + d]).length ((out ++ [last + d]).map (Value.int .i64))) := by
              show World.ownsRow _ _ _ _ _ _ _
              rw [List.length_append, List.map_append]; exact hown8
            have HR8 : Hid (RdAt w8 g s (to, false)) := HR2.out.only ho8 (own_ne_lt Ho2.out (Nat.lt_succ_self g))
            have Hb8 : Hid (Below g w w8) := Hb2.out.trans (ho8.below (fun j hj e => own_ne_lt Ho2.out (by omega) e) (by omega))
            have hol2 : (out ++ [last + d]).length ≤ k + 1 := by simp; omega
            clear hown8 ho8
            go_wp2_with fail
            go_roundw
            case rel => exact ⟨k + 1, out ++ [last + d], last + d, to, by omega, by go_num, rfl, hsm, hol2, hb1, HRf, HR8, Hown8, Hb8⟩
            case measure => simp [intOf]; omega
      · have HRf := Lib.hid (HO.out _ (go_done (by omega) hrel.out))
        clear hrel HN HO
        obtain ⟨A, c, rfl, hnc, _⟩ := own_slice hown.out
        have hc1 := hR.out.cell1
        simp only at hc1
        go_wp2_with fail
        go_quiet (fail)
        go_wp2_with fail
        go_ret3
        exact ⟨_, by rw [HRf.out]; rfl, by rw [HRf.out, Hgg.out]; exact own_drewN (own_down hown.out (Nat.le_succ g)) _, by rw [Hgg.out]; exact below_drewN hbw.out _⟩
end Go.Proofs.Ythdbmgjlegpbaaa
