/- The walks through PutText and GetText of wire and of its reference. -/
import Derived.Test.YthdbmgjlegpbaaaWireGet
namespace Go.Proofs.Ythdbmgjlegpbaaa
open Go.RowKit
set_option linter.unusedVariables false

def gtV (r : ByteArray × Int × Int) : Value := .tuple #[.string r.1, .int .i64 r.2.1, .int .i64 r.2.2]

set_option maxRecDepth 100000 in
set_option maxHeartbeats 400000 in
theorem getText_any (s : ByteArray) (at_ most : Int) (w : World) (hs : s.size ≤ 4611686018427387904) (ha : -9223372036854775808 ≤ at_ ∧ at_ ≤ 9223372036854775807) (hm : -9223372036854775808 ≤ most ∧ most ≤ 9223372036854775807) :
    Calls Try.prog 74 #[.string s, .int .i64 at_, .int .i64 most] w fun e w' => e = .returned (gtV (Wr.getT s at_ most)) ∧ w = w' := by
  have hc := Wr.getN_cases s.data.toList at_
  have hcall := getNum_any s at_ w (by omega) ha
  have hlen : s.data.toList.length = s.size := by simp
  rcases hc with ⟨e0, he, hcode⟩ | ⟨x, a, k, rfl, he, hn, hk, hle, _⟩
  · have Hfin : Hid (Wr.getT s at_ most = (⟨#[]⟩, 0, e0)) := by
      show Wr.getT _ _ _ = _; unfold Wr.getT; rw [he]; rcases hcode with rfl | rfl <;> rfl
    rw [he] at hcall
    have hne : (e0 != 0) = true := by rcases hcode with rfl | rfl <;> rfl
    clear hcode he hlen
    have Hcall := Lib.hid hcall
    clear hcall
    go_enter Try.func74, Try.ntmps74
    go_wp2_with fail
    refine Hcall.out.mono ?_
    rintro e w' ⟨rfl, rfl⟩
    unfold gnV
    go_wp2_with fail
    go_ret3
    exact ⟨by rw [Hfin.out]; rfl, rfl⟩
  · rw [he] at hcall
    have Hcall := Lib.hid hcall
    have hxb := (Wr.isNum_iff x).1 hn
    have Hdef : Hid (Wr.getT s (a : Int) most = if x < 0 ∨ most < x then (⟨#[]⟩, 0, 202) else if (s.size : Int) - ((a + k : Nat) : Int) < x then (⟨#[]⟩, 0, 200) else (s.extract (a + k) (((a + k : Nat) : Int) + x).toNat, ((a + k : Nat) : Int) + x, 0)) := by
      show Wr.getT _ _ _ = _; unfold Wr.getT; rw [he]; simp only [ne_eq, not_true_eq_false, if_false, Int.toNat_natCast]
    rw [hlen] at hle
    clear hcall he hn hlen
    generalize a + k = m at *
    by_cases h1 : x < 0
    · have Hfin : Hid (Wr.getT s (a : Int) most = (⟨#[]⟩, 0, 202)) := by show Wr.getT _ _ _ = _; rw [Hdef.out, if_pos (.inl h1)]
      clear Hdef
      go_enter Try.func74, Try.ntmps74
      go_wp2_with fail
      refine Hcall.out.mono ?_
      rintro e w' ⟨rfl, rfl⟩
      unfold gnV
      go_wp2_with fail
      go_ret3
      exact ⟨by rw [Hfin.out]; rfl, rfl⟩
    · by_cases h2 : most < x
      · have Hfin : Hid (Wr.getT s (a : Int) most = (⟨#[]⟩, 0, 202)) := by show Wr.getT _ _ _ = _; rw [Hdef.out, if_pos (.inr h2)]
        clear Hdef
        go_enter Try.func74, Try.ntmps74
        go_wp2_with fail
        refine Hcall.out.mono ?_
        rintro e w' ⟨rfl, rfl⟩
        unfold gnV
        go_wp2_with fail
        go_ret3
        exact ⟨by rw [Hfin.out]; rfl, rfl⟩
      · obtain ⟨n, rfl⟩ : ∃ n : Nat, x = n := ⟨x.toNat, by omega⟩
        by_cases h3 : (s.size : Int) - (m : Int) < (n : Int)
        · have Hfin : Hid (Wr.getT s (a : Int) most = (⟨#[]⟩, 0, 200)) := by show Wr.getT _ _ _ = _; rw [Hdef.out, if_neg (by omega), if_pos h3]
          clear Hdef
          go_enter Try.func74, Try.ntmps74
          go_wp2_with fail
          refine Hcall.out.mono ?_
          rintro e w' ⟨rfl, rfl⟩
          unfold gnV
          go_wp2_with fail
          go_ret3
          exact ⟨by rw [Hfin.out]; rfl, rfl⟩
        · have Hfin : Hid (Wr.getT s (a : Int) most = (s.extract m (m + n), ((m + n : Nat) : Int), 0)) := by
            show Wr.getT _ _ _ = _; rw [Hdef.out, if_neg (by omega), if_neg h3]
            rw [show ((m : Int) + (n : Int)).toNat = m + n from by omega, show ((m : Int) + (n : Int)) = ((m + n : Nat) : Int) from by omega]
          have h4 : m + n ≤ s.size := by omega
          clear Hdef
          go_enter Try.func74, Try.ntmps74
          go_wp2_with fail
          refine Hcall.out.mono ?_
          rintro e w' ⟨rfl, rfl⟩
          unfold gnV
          go_wp2_with fail
          go_ret3
          exact ⟨by rw [Hfin.out]; rfl, rfl⟩

set_option maxRecDepth 100000 in
set_option maxHeartbeats 400000 in
theorem rgetText_any (s : ByteArray) (at_ most : Int) (w : World) (hs : s.size ≤ 4611686018427387904) (ha : -9223372036854775808 ≤ at_ ∧ at_ ≤ 9223372036854775807) (hm : -9223372036854775808 ≤ most ∧ most ≤ 9223372036854775807) :
    Calls Try.prog 90 #[.string s, .int .i64 at_, .int .i64 most] w fun e w' => e = .returned (gtV (Wr.getT s at_ most)) ∧ w = w' := by
  have hc := Wr.getN_cases s.data.toList at_
  have hcall := rgetNum_any s at_ w (by omega) ha
  have hlen : s.data.toList.length = s.size := by simp
  rcases hc with ⟨e0, he, hcode⟩ | ⟨x, a, k, rfl, he, hn, hk, hle, _⟩
  · have Hfin : Hid (Wr.getT s at_ most = (⟨#[]⟩, 0, e0)) := by
      show Wr.getT _ _ _ = _; unfold Wr.getT; rw [he]; rcases hcode with rfl | rfl <;> rfl
    rw [he] at hcall
    have hne : (e0 != 0) = true := by rcases hcode with rfl | rfl <;> rfl
    clear hcode he hlen
    have Hcall := Lib.hid hcall
    clear hcall
    go_enter Try.func90, Try.ntmps90
    go_wp2_with fail
    refine Hcall.out.mono ?_
    rintro e w' ⟨rfl, rfl⟩
    unfold gnV
    go_wp2_with fail
    go_ret3
    exact ⟨by rw [Hfin.out]; rfl, rfl⟩
  · rw [he] at hcall
    have Hcall := Lib.hid hcall
    have hxb := (Wr.isNum_iff x).1 hn
    have Hdef : Hid (Wr.getT s (a : Int) most = if x < 0 ∨ most < x then (⟨#[]⟩, 0, 202) else if (s.size : Int) - ((a + k : Nat) : Int) < x then (⟨#[]⟩, 0, 200) else (s.extract (a + k) (((a + k : Nat) : Int) + x).toNat, ((a + k : Nat) : Int) + x, 0)) := by
      show Wr.getT _ _ _ = _; unfold Wr.getT; rw [he]; simp only [ne_eq, not_true_eq_false, if_false, Int.toNat_natCast]
    rw [hlen] at hle
    clear hcall he hn hlen
    generalize a + k = m at *
    by_cases h1 : x < 0
    · have Hfin : Hid (Wr.getT s (a : Int) most = (⟨#[]⟩, 0, 202)) := by show Wr.getT _ _ _ = _; rw [Hdef.out, if_pos (.inl h1)]
      clear Hdef
      go_enter Try.func90, Try.ntmps90
      go_wp2_with fail
      refine Hcall.out.mono ?_
      rintro e w' ⟨rfl, rfl⟩
      unfold gnV
      go_wp2_with fail
      go_ret3
      exact ⟨by rw [Hfin.out]; rfl, rfl⟩
    · by_cases h2 : most < x
      · have Hfin : Hid (Wr.getT s (a : Int) most = (⟨#[]⟩, 0, 202)) := by show Wr.getT _ _ _ = _; rw [Hdef.out, if_pos (.inr h2)]
        clear Hdef
        go_enter Try.func90, Try.ntmps90
        go_wp2_with fail
        refine Hcall.out.mono ?_
        rintro e w' ⟨rfl, rfl⟩
        unfold gnV
        go_wp2_with fail
        go_ret3
        exact ⟨by rw [Hfin.out]; rfl, rfl⟩
      · obtain ⟨n, rfl⟩ : ∃ n : Nat, x = n := ⟨x.toNat, by omega⟩
        by_cases h3 : (s.size : Int) - (m : Int) < (n : Int)
        · have Hfin : Hid (Wr.getT s (a : Int) most = (⟨#[]⟩, 0, 200)) := by show Wr.getT _ _ _ = _; rw [Hdef.out, if_neg (by omega), if_pos h3]
          clear Hdef
          go_enter Try.func90, Try.ntmps90
          go_wp2_with fail
          refine Hcall.out.mono ?_
          rintro e w' ⟨rfl, rfl⟩
          unfold gnV
          go_wp2_with fail
          go_ret3
          exact ⟨by rw [Hfin.out]; rfl, rfl⟩
        · have Hfin : Hid (Wr.getT s (a : Int) most = (s.extract m (m + n), ((m + n : Nat) : Int), 0)) := by
            show Wr.getT _ _ _ = _; rw [Hdef.out, if_neg (by omega), if_neg h3]
            rw [show ((m : Int) + (n : Int)).toNat = m + n from by omega, show ((m : Int) + (n : Int)) = ((m + n : Nat) : Int) from by omega]
          have h4 : m + n ≤ s.size := by omega
          clear Hdef
          go_enter Try.func90, Try.ntmps90
          go_wp2_with fail
          refine Hcall.out.mono ?_
          rintro e w' ⟨rfl, rfl⟩
          unfold gnV
          go_wp2_with fail
          go_ret3
          exact ⟨by rw [Hfin.out]; rfl, rfl⟩

set_option maxRecDepth 100000 in
theorem putText_any (s : ByteArray) (w : World) (hs : s.size ≤ 4611686018427387904) :
    Calls Try.prog 43 #[.string s] w fun e w' => e = .returned (.string (Wr.textB s)) ∧ Below w.heap.size w w' := by
  have hp : (Wr.putB (s.size : Int)).size ≤ 8 := by rw [Wr.putB_size]; exact Wr.putL_len _
  have Ht : Hid (Wr.textB s = Wr.putB (s.size : Int) ++ s) := rfl
  go_enter Try.func43, Try.ntmps43
  go_wp2_with fail
  refine (putNum_any _ _ (by omega)).mono ?_
  rintro e w1 ⟨rfl, hb⟩
  generalize Wr.putB (s.size : Int) = p at *
  go_wp2_with fail
  go_ret
  exact ⟨by rw [Ht.out]; rfl, hb⟩

set_option maxRecDepth 100000 in
theorem rtext_any (s : ByteArray) (w : World) (hs : s.size ≤ 4611686018427387904) :
    Calls Try.prog 89 #[.string s] w fun e w' => e = .returned (.string (Wr.textB s)) ∧ Below w.heap.size w w' := by
  have hp : (Wr.putB (s.size : Int)).size ≤ 8 := by rw [Wr.putB_size]; exact Wr.putL_len _
  have Ht : Hid (Wr.textB s = Wr.putB (s.size : Int) ++ s) := rfl
  go_enter Try.func89, Try.ntmps89
  go_wp2_with fail
  refine (rnum_any _ _ (by omega)).mono ?_
  rintro e w1 ⟨rfl, hb⟩
  generalize Wr.putB (s.size : Int) = p at *
  go_wp2_with fail
  go_ret
  exact ⟨by rw [Ht.out]; rfl, hb⟩
end Go.Proofs.Ythdbmgjlegpbaaa
