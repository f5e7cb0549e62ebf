/- Joined texts: WireGet, WireText, ReaderNum, Reader, Err, ClInts. -/
import Derived.Test.YthdbmgjlegpbaaaK1
import Derived.Test.YthdbmgjlegpbaaaK2
import Derived.Test.YthdbmgjlegpbaaaK3
import Derived.Test.YthdbmgjlegpbaaaProg
/- The walks through GetNum of wire and of its reference. -/
namespace Go.Proofs.Ythdbmgjlegpbaaa
open Go.RowKit
set_option linter.unusedVariables false

def gnV (r : Int × Int × Int) : Value := .tuple #[.int .i64 r.1, .int .i64 r.2.1, .int .i64 r.2.2]

set_option maxRecDepth 100000 in
set_option maxHeartbeats 400000 in
theorem getNum_any (s : ByteArray) (at_ : Int) (w : World) (hs : s.size ≤ 9223372036854775000) (ha : -9223372036854775808 ≤ at_ ∧ at_ ≤ 9223372036854775807) :
    Calls Try.prog 73 #[.string s, .int .i64 at_] w fun e w' => e = .returned (gnV (Wr.getN s.data.toList at_)) ∧ w = w' := by
  have hlen : s.data.toList.length = s.size := by simp
  by_cases hout : at_ < 0 ∨ (s.size : Int) < at_
  · have Hfin : Hid (Wr.getN s.data.toList at_ = (0, 0, 200)) := by show Wr.getN _ _ = _; unfold Wr.getN; rw [hlen, if_pos hout]
    clear hlen
    by_cases h1 : at_ < 0
    · go_enter Try.func73, Try.ntmps73
      go_wp2
      go_step3
      go_wp2
      rw [Exit.noGoto_ret]
      go_ret3
      exact ⟨by rw [Hfin.out]; rfl, rfl⟩
    · have h2 : (s.size : Int) < at_ := by omega
      go_enter Try.func73, Try.ntmps73
      go_wp2
      go_step3
      go_wp2
      rw [Exit.noGoto_ret]
      go_ret3
      exact ⟨by rw [Hfin.out]; rfl, rfl⟩
  · obtain ⟨a, rfl⟩ : ∃ a : Nat, at_ = a := ⟨at_.toNat, by omega⟩
    have hle : a ≤ s.size := by omega
    have Hget : Hid (Wr.getN s.data.toList (a : Int) = match Wr.gn 8 0 0 (s.data.toList.drop a) with | .inl e => (0, 0, e) | .inr (x, k) => (x, (a : Int) + (k : Int), 0)) := by
      show Wr.getN _ _ = _
      unfold Wr.getN
      rw [hlen, if_neg hout, Int.toNat_natCast]
      rfl
    clear hlen hout ha
    go_enter Try.func73, Try.ntmps73
    go_wp2
    go_step3
    go_wp2
    go_step3
    go_wp2
    go_loop [7, 8, 9] (fun u e i => ∃ (k u0 : Nat), k ≤ 8 ∧ a + k ≤ s.size ∧ Hid (u0 < 128 ^ k) ∧ u0 ≤ 72057594037927935 ∧ u = .int .u64 (u0 : Int) ∧ e = .int .i64 ((a + k : Nat) : Int) ∧ i = .int .i64 (k : Int) ∧ Hid (Wr.gn 8 0 0 (s.data.toList.drop a) = Wr.gn (8 - k) k u0 (s.data.toList.drop (a + k)))) (fun _ _ i => 8 - (intOf i).toNat)
    case atStart => exact ⟨0, 0, by omega, by omega, Lib.hid (by simp), by omega, rfl, by simp, rfl, Lib.hid (by simp)⟩
    case round =>
      obtain ⟨k, u0, hk, hak, hu, hub, rfl, rfl, rfl, hg⟩ := hrel
      by_cases h8 : k = 8
      · subst h8
        have Hfin : Hid (Wr.getN s.data.toList (a : Int) = (0, 0, 201)) := by show Wr.getN _ _ = _; rw [Hget.out, hg.out, Wr.gn_zero]
        clear Hget hg
        go_wp2
        (try rw [Exit.noGoto_ret])
        go_ret3
        exact ⟨by rw [Hfin.out]; rfl, rfl⟩
      · have h8' : ((k : Int) == 8) = false := beq_eq_false_iff_ne.2 (by omega)
        by_cases hend : a + k = s.size
        · have Hfin : Hid (Wr.getN s.data.toList (a : Int) = (0, 0, 200)) := by show Wr.getN _ _ = _; rw [Hget.out, hg.out, hend, List.drop_eq_nil_of_le (by simp), show 8 - k = (7 - k) + 1 from by omega, Wr.gn_nil]
          have hend' : (((a + k : Nat) : Int) == (s.size : Int)) = true := beq_iff_eq.2 (by omega)
          clear Hget hg
          generalize hm : a + k = m at *
          clear hm
          go_wp2
          (try rw [Exit.noGoto_ret])
          go_ret3
          exact ⟨by rw [Hfin.out]; rfl, rfl⟩
        · have hend' : (((a + k : Nat) : Int) == (s.size : Int)) = false := beq_eq_false_iff_ne.2 (by omega)
          have hin : a + k < s.size := by omega
          have hdrop : s.data.toList.drop (a + k) = s[a + k] :: s.data.toList.drop (a + k + 1) := by
            rw [List.drop_eq_getElem_cons (by simpa using hin)]; rfl
          have hacc := Wr.gn_acc u0 k s[a + k] (by omega) hu.out
          have hlt := Wr.gn_acc_lt u0 k s[a + k] hu.out
          have hle1 := Wr.acc_le _ _ (by omega) hlt
          have Hlt := Lib.hid hlt
          have Hg := Lib.hid (hg.out.trans (by rw [hdrop, show 8 - k = (7 - k) + 1 from by omega]))
          have Hget2 := Lib.hid Hget.out
          clear hdrop hg hlt Hget
          have Hgm := Lib.hid (fun (h : 128 ≤ (s[a + k]'hin).toNat) => Hg.out.trans (Wr.gn_more (7 - k) k u0 (s[a + k]'hin) (s.data.toList.drop (a + k + 1)) h))
          have Hgl := Lib.hid (fun (h : (s[a + k]'hin).toNat = 0) (h' : 0 < k) => Hg.out.trans (Wr.gn_long (7 - k) k u0 (s[a + k]'hin) (s.data.toList.drop (a + k + 1)) h h'))
          have Hgt := Lib.hid (fun (h : (s[a + k]'hin).toNat < 128) (h' : ¬ ((s[a + k]'hin).toNat = 0 ∧ 0 < k)) => Hg.out.trans (Wr.gn_last (7 - k) k u0 (s[a + k]'hin) (s.data.toList.drop (a + k + 1)) h h'))
          clear Hg
          generalize hu1 : u0 + s[a + k].toNat % 128 * 128 ^ k = u1 at *
          generalize hm : a + k = m at *
          have Hm := Lib.hid hm
          clear hu1 hm
          have hc := s[m].toNat_lt
          by_cases hbig : 128 ≤ s[m].toNat
          · go_wp2
            go_round
            case rel => exact ⟨k + 1, u1, by omega, by have := Hm.out; omega, Hlt, hle1, rfl, by have := Hm.out; go_num, by go_num, Lib.hid (by rw [Hgm.out hbig, show a + (k + 1) = m + 1 from by have := Hm.out; omega, show 8 - (k + 1) = 7 - k from by omega])⟩
            case measure => simp [intOf]; omega
          · by_cases hz : s[m].toNat = 0 ∧ 0 < k
            · have Hfin : Hid (Wr.getN s.data.toList (a : Int) = (0, 0, 201)) := by show Wr.getN _ _ = _; rw [Hget2.out, Hgl.out hz.1 hz.2]
              obtain ⟨hz0, hz1⟩ := hz
              have hz0' : ((s[m].toNat : Int) == 0) = true := beq_iff_eq.2 (by omega)
              clear Hgm Hgl Hgt Hget2
              go_wp2
              (try rw [Exit.noGoto_ret])
              go_ret3
              exact ⟨by rw [Hfin.out]; rfl, rfl⟩
            · have Hr := Lib.hid (Hgt.out (by omega) hz)
              have Hfin : Hid (Wr.getN s.data.toList (a : Int) = if Wr.isNum (Wr.unzig u1) then (Wr.unzig u1, ((m + 1 : Nat) : Int), 0) else (0, 0, 201)) := by
                show Wr.getN _ _ = _
                rw [Hget2.out, Hr.out]
                by_cases hn : Wr.isNum (Wr.unzig u1) = true
                · rw [if_pos hn, if_pos hn]
                  show (_, (a : Int) + ((k + 1 : Nat) : Int), (0 : Int)) = _
                  rw [show (a : Int) + ((k + 1 : Nat) : Int) = ((m + 1 : Nat) : Int) from by have := Hm.out; omega]
                · rw [if_neg hn, if_neg hn]
              clear Hgm Hgl Hgt Hget2 Hr
              have hz' : ¬ ((s[m].toNat : Int) == 0) = true ∨ ¬ 0 < k := by
                by_cases h : s[m].toNat = 0
                · right; intro h'; exact hz ⟨h, h'⟩
                · left; intro h'; exact h (by have := beq_iff_eq.1 h'; omega)
              have hodd := Wr.unzig_odd u1
              have heven := Wr.unzig_even u1
              have hl1 := Wr.low1_yes u1 (by omega)
              have hl0 := Wr.low1_no u1 (by omega)
              generalize Wr.unzig u1 = x at *
              have hfz : Hid (((s[m].toNat : Int) == 0) = true → ¬ 0 < k) := by
                intro h; rcases hz' with h' | h'
                · exact absurd h h'
                · exact h'
              clear hz hz'
              by_cases hp : u1 % 2 = 1
              · have hx := Lib.hid (hodd hp)
                have hl := hl1 hp
                clear hodd heven hl1 hl0 hp
                cases hz0 : ((s[m].toNat : Int) == 0)
                · cases hnum : Wr.isNum x
                  · have Hn := Lib.hid hnum
                    have Hf2 : Hid (Wr.getN s.data.toList (a : Int) = (0, 0, 201)) := by show Wr.getN _ _ = _; rw [Hfin.out, Hn.out]; rfl
                    clear hnum Hfin
                    go_wp2_with fail
                    refine (fits_at _ false (by rw [← hx.out]; exact Hn.out) _).mono ?_
                    rintro e w' ⟨rfl, rfl⟩
                    go_wp2_with fail
                    (try rw [Exit.noGoto_ret])
                    go_ret3
                    exact ⟨by rw [Hf2.out]; rfl, rfl⟩
                  · have Hn := Lib.hid hnum
                    have Hf2 : Hid (Wr.getN s.data.toList (a : Int) = (x, ((m + 1 : Nat) : Int), 0)) := by show Wr.getN _ _ = _; rw [Hfin.out, Hn.out]; rfl
                    clear hnum Hfin
                    go_wp2_with fail
                    refine (fits_at _ true (by rw [← hx.out]; exact Hn.out) _).mono ?_
                    rintro e w' ⟨rfl, rfl⟩
                    go_wp2_with fail
                    (try rw [Exit.noGoto_ret])
                    go_ret3
                    exact ⟨by rw [Hf2.out, hx.out]; rfl, rfl⟩
                · have hk0 : ¬ 0 < k := hfz.out hz0
                  cases hnum : Wr.isNum x
                  · have Hn := Lib.hid hnum
                    have Hf2 : Hid (Wr.getN s.data.toList (a : Int) = (0, 0, 201)) := by show Wr.getN _ _ = _; rw [Hfin.out, Hn.out]; rfl
                    clear hnum Hfin
                    go_wp2_with fail
                    refine (fits_at _ false (by rw [← hx.out]; exact Hn.out) _).mono ?_
                    rintro e w' ⟨rfl, rfl⟩
                    go_wp2_with fail
                    (try rw [Exit.noGoto_ret])
                    go_ret3
                    exact ⟨by rw [Hf2.out]; rfl, rfl⟩
                  · have Hn := Lib.hid hnum
                    have Hf2 : Hid (Wr.getN s.data.toList (a : Int) = (x, ((m + 1 : Nat) : Int), 0)) := by show Wr.getN _ _ = _; rw [Hfin.out, Hn.out]; rfl
                    clear hnum Hfin
                    go_wp2_with fail
                    refine (fits_at _ true (by rw [← hx.out]; exact Hn.out) _).mono ?_
                    rintro e w' ⟨rfl, rfl⟩
                    go_wp2_with fail
                    (try rw [Exit.noGoto_ret])
                    go_ret3
                    exact ⟨by rw [Hf2.out, hx.out]; rfl, rfl⟩
              · have hx := Lib.hid (heven hp)
                have hl := hl0 hp
                clear hodd heven hl1 hl0 hp
                cases hz0 : ((s[m].toNat : Int) == 0)
                · cases hnum : Wr.isNum x
                  · have Hn := Lib.hid hnum
                    have Hf2 : Hid (Wr.getN s.data.toList (a : Int) = (0, 0, 201)) := by show Wr.getN _ _ = _; rw [Hfin.out, Hn.out]; rfl
                    clear hnum Hfin
                    go_wp2_with fail
                    refine (fits_at _ false (by rw [← hx.out]; exact Hn.out) _).mono ?_
                    rintro e w' ⟨rfl, rfl⟩
                    go_wp2_with fail
                    (try rw [Exit.noGoto_ret])
                    go_ret3
                    exact ⟨by rw [Hf2.out]; rfl, rfl⟩
                  · have Hn := Lib.hid hnum
                    have Hf2 : Hid (Wr.getN s.data.toList (a : Int) = (x, ((m + 1 : Nat) : Int), 0)) := by show Wr.getN _ _ = _; rw [Hfin.out, Hn.out]; rfl
                    clear hnum Hfin
                    go_wp2_with fail
                    refine (fits_at _ true (by rw [← hx.out]; exact Hn.out) _).mono ?_
                    rintro e w' ⟨rfl, rfl⟩
                    go_wp2_with fail
                    (try rw [Exit.noGoto_ret])
                    go_ret3
                    exact ⟨by rw [Hf2.out, hx.out]; rfl, rfl⟩
                · have hk0 : ¬ 0 < k := hfz.out hz0
                  cases hnum : Wr.isNum x
                  · have Hn := Lib.hid hnum
                    have Hf2 : Hid (Wr.getN s.data.toList (a : Int) = (0, 0, 201)) := by show Wr.getN _ _ = _; rw [Hfin.out, Hn.out]; rfl
                    clear hnum Hfin
                    go_wp2_with fail
                    refine (fits_at _ false (by rw [← hx.out]; exact Hn.out) _).mono ?_
                    rintro e w' ⟨rfl, rfl⟩
                    go_wp2_with fail
                    (try rw [Exit.noGoto_ret])
                    go_ret3
                    exact ⟨by rw [Hf2.out]; rfl, rfl⟩
                  · have Hn := Lib.hid hnum
                    have Hf2 : Hid (Wr.getN s.data.toList (a : Int) = (x, ((m + 1 : Nat) : Int), 0)) := by show Wr.getN _ _ = _; rw [Hfin.out, Hn.out]; rfl
                    clear hnum Hfin
                    go_wp2_with fail
                    refine (fits_at _ true (by rw [← hx.out]; exact Hn.out) _).mono ?_
                    rintro e w' ⟨rfl, rfl⟩
                    go_wp2_with fail
                    (try rw [Exit.noGoto_ret])
                    go_ret3
                    exact ⟨by rw [Hf2.out, hx.out]; rfl, rfl⟩

set_option maxRecDepth 100000 in
set_option maxHeartbeats 400000 in
theorem rgetNum_any (s : ByteArray) (at_ : Int) (w : World) (hs : s.size ≤ 9223372036854775000) (ha : -9223372036854775808 ≤ at_ ∧ at_ ≤ 9223372036854775807) :
    Calls Try.prog 68 #[.string s, .int .i64 at_] w fun e w' => e = .returned (gnV (Wr.getN s.data.toList at_)) ∧ w = w' := by
  have hlen : s.data.toList.length = s.size := by simp
  by_cases hout : at_ < 0 ∨ (s.size : Int) < at_
  · have Hfin : Hid (Wr.getN s.data.toList at_ = (0, 0, 200)) := by show Wr.getN _ _ = _; unfold Wr.getN; rw [hlen, if_pos hout]
    clear hlen
    by_cases h1 : at_ < 0
    · go_enter Try.func68, Try.ntmps68
      go_wp2
      go_ret3
      exact ⟨by rw [Hfin.out]; rfl, rfl⟩
    · have h2 : (s.size : Int) < at_ := by omega
      go_enter Try.func68, Try.ntmps68
      go_wp2
      go_ret3
      exact ⟨by rw [Hfin.out]; rfl, rfl⟩
  · obtain ⟨a, rfl⟩ : ∃ a : Nat, at_ = a := ⟨at_.toNat, by omega⟩
    have hle : a ≤ s.size := by omega
    have Hget : Hid (Wr.getN s.data.toList (a : Int) = match Wr.gn 8 0 0 (s.data.toList.drop a) with | .inl e => (0, 0, e) | .inr (x, k) => (x, (a : Int) + (k : Int), 0)) := by
      show Wr.getN _ _ = _
      unfold Wr.getN
      rw [hlen, if_neg hout, Int.toNat_natCast]
      rfl
    clear hlen hout ha
    go_enter Try.func68, Try.ntmps68
    go_wp2
    go_loop [7, 8, 9] (fun u p i => ∃ (k u0 p0 : Nat), k ≤ 8 ∧ a + k ≤ s.size ∧ Hid (u0 < 128 ^ k) ∧ Hid (p0 = 128 ^ k) ∧ p0 ≤ 72057594037927936 ∧ u0 ≤ 72057594037927935 ∧ u = .int .i64 (u0 : Int) ∧ p = .int .i64 (p0 : Int) ∧ i = .int .i64 (k : Int) ∧ Hid (Wr.gn 8 0 0 (s.data.toList.drop a) = Wr.gn (8 - k) k u0 (s.data.toList.drop (a + k)))) (fun _ _ i => 8 - (intOf i).toNat)
    case atStart => exact ⟨0, 0, 1, by omega, by omega, Lib.hid (by simp), Lib.hid (by simp), by omega, by omega, rfl, rfl, rfl, Lib.hid (by simp)⟩
    case round =>
      obtain ⟨k, u0, p0, hk, hak, hu, hp, hpb, hub, rfl, rfl, rfl, hg⟩ := hrel
      by_cases h8 : k = 8
      · subst h8
        have Hfin : Hid (Wr.getN s.data.toList (a : Int) = (0, 0, 201)) := by show Wr.getN _ _ = _; rw [Hget.out, hg.out, Wr.gn_zero]
        clear Hget hg
        go_wp2
        go_ret3
        exact ⟨by rw [Hfin.out]; rfl, rfl⟩
      · have h8' : ((k : Int) == 8) = false := beq_eq_false_iff_ne.2 (by omega)
        by_cases hend : a + k = s.size
        · have Hfin : Hid (Wr.getN s.data.toList (a : Int) = (0, 0, 200)) := by show Wr.getN _ _ = _; rw [Hget.out, hg.out, hend, List.drop_eq_nil_of_le (by simp), show 8 - k = (7 - k) + 1 from by omega, Wr.gn_nil]
          have hend2 : s.size ≤ a + k := by omega
          clear Hget hg hend
          go_wp2
          go_ret3
          exact ⟨by rw [Hfin.out]; rfl, rfl⟩
        · have hin : a + k < s.size := by omega
          have hdrop : s.data.toList.drop (a + k) = s[a + k] :: s.data.toList.drop (a + k + 1) := by
            rw [List.drop_eq_getElem_cons (by simpa using hin)]; rfl
          have hlt := Wr.gn_acc_lt u0 k s[a + k] hu.out
          have hle1 := Wr.acc_le _ _ (by omega) hlt
          have hpn := Wr.pow_le_9 (k + 1) (by omega)
          rw [Nat.pow_succ, ← hp.out] at hpn
          have Hlt := Lib.hid hlt
          have Hg := Lib.hid (hg.out.trans (by rw [hdrop, show 8 - k = (7 - k) + 1 from by omega]))
          have Hget2 := Lib.hid Hget.out
          clear hdrop hg hlt Hget
          have Hgm := Lib.hid (fun (h : 128 ≤ (s[a + k]'hin).toNat) => Hg.out.trans (Wr.gn_more (7 - k) k u0 (s[a + k]'hin) (s.data.toList.drop (a + k + 1)) h))
          have Hgl := Lib.hid (fun (h : (s[a + k]'hin).toNat = 0) (h' : 0 < k) => Hg.out.trans (Wr.gn_long (7 - k) k u0 (s[a + k]'hin) (s.data.toList.drop (a + k + 1)) h h'))
          have Hgt := Lib.hid (fun (h : (s[a + k]'hin).toNat < 128) (h' : ¬ ((s[a + k]'hin).toNat = 0 ∧ 0 < k)) => Hg.out.trans (Wr.gn_last (7 - k) k u0 (s[a + k]'hin) (s.data.toList.drop (a + k + 1)) h h'))
          clear Hg
          have hpe : u0 + s[a + k].toNat % 128 * 128 ^ k = u0 + s[a + k].toNat % 128 * p0 := by rw [hp.out]
          rw [hpe] at hle1 Hlt Hgm Hgt
          have hacc := Wr.racc u0 s[a + k].toNat p0 hle1
          generalize hu1 : u0 + s[a + k].toNat % 128 * p0 = u1 at *
          generalize hm : a + k = m at *
          have Hm := Lib.hid hm
          have Hak : (a : Int) + (k : Int) = (m : Int) := by omega
          clear hm hpe hu1
          have hc := s[m].toNat_lt
          by_cases hbig : 128 ≤ s[m].toNat
          · go_wp2
            go_round
            case rel => exact ⟨k + 1, u1, p0 * 128, by omega, by have := Hm.out; omega, Hlt, Lib.hid (by rw [hp.out, Nat.pow_succ]), by omega, hle1, by rw [hacc], by go_num, by go_num, Lib.hid (by rw [Hgm.out hbig, show a + (k + 1) = m + 1 from by have := Hm.out; omega, show 8 - (k + 1) = 7 - k from by omega])⟩
            case measure => simp [intOf]; omega
          · by_cases hz : s[m].toNat = 0 ∧ 0 < k
            · have Hfin : Hid (Wr.getN s.data.toList (a : Int) = (0, 0, 201)) := by show Wr.getN _ _ = _; rw [Hget2.out, Hgl.out hz.1 hz.2]
              obtain ⟨hz0, hz1⟩ := hz
              have hz0' : ((s[m].toNat : Int) == 0) = true := beq_iff_eq.2 (by omega)
              clear Hgm Hgl Hgt Hget2 hz0
              by_cases hp : (u1 : Int) % 2 = 1
              · have hp' : (((u1 : Int) % 2) == 1) = true := beq_iff_eq.2 hp
                clear hp
                go_wp2
                go_ret3
                exact ⟨by rw [Hfin.out]; rfl, rfl⟩
              · have hp' : (((u1 : Int) % 2) == 1) = false := beq_eq_false_iff_ne.2 hp
                clear hp
                go_wp2
                go_ret3
                exact ⟨by rw [Hfin.out]; rfl, rfl⟩
            · have Hr := Lib.hid (Hgt.out (by omega) hz)
              have Hfin : Hid (Wr.getN s.data.toList (a : Int) = if Wr.isNum (Wr.unzig u1) then (Wr.unzig u1, ((m + 1 : Nat) : Int), 0) else (0, 0, 201)) := by
                show Wr.getN _ _ = _
                rw [Hget2.out, Hr.out]
                by_cases hn : Wr.isNum (Wr.unzig u1) = true
                · rw [if_pos hn, if_pos hn]
                  show (_, (a : Int) + ((k + 1 : Nat) : Int), (0 : Int)) = _
                  rw [show (a : Int) + ((k + 1 : Nat) : Int) = ((m + 1 : Nat) : Int) from by have := Hm.out; omega]
                · rw [if_neg hn, if_neg hn]
              clear Hgm Hgl Hgt Hget2 Hr
              have hfz : Hid (((s[m].toNat : Int) == 0) = true → ¬ 0 < k) := by
                intro h h'
                exact hz ⟨by have := beq_iff_eq.1 h; omega, h'⟩
              have hodd := Wr.unzig_odd u1
              have heven := Wr.unzig_even u1
              generalize Wr.unzig u1 = x at *
              clear hz
              by_cases hpar : u1 % 2 = 1
              · have hx := Lib.hid (hodd hpar)
                have hl : (((u1 : Int) % 2) == 1) = true := beq_iff_eq.2 (by omega)
                clear hodd heven hpar
                cases hz0 : ((s[m].toNat : Int) == 0)
                · cases hnum : Wr.isNum x
                  · have Hn := Lib.hid hnum
                    have Hf2 : Hid (Wr.getN s.data.toList (a : Int) = (0, 0, 201)) := by show Wr.getN _ _ = _; rw [Hfin.out, Hn.out]; rfl
                    clear hnum Hfin
                    go_wp2_with fail
                    refine (number_at _ false (by rw [← hx.out]; exact Hn.out) _).mono ?_
                    rintro e w' ⟨rfl, rfl⟩
                    go_wp2_with fail
                    go_ret3
                    exact ⟨by rw [Hf2.out]; rfl, rfl⟩
                  · have Hn := Lib.hid hnum
                    have Hf2 : Hid (Wr.getN s.data.toList (a : Int) = (x, ((m + 1 : Nat) : Int), 0)) := by show Wr.getN _ _ = _; rw [Hfin.out, Hn.out]; rfl
                    clear hnum Hfin
                    go_wp2_with fail
                    refine (number_at _ true (by rw [← hx.out]; exact Hn.out) _).mono ?_
                    rintro e w' ⟨rfl, rfl⟩
                    go_wp2_with fail
                    go_ret3
                    exact ⟨by rw [Hf2.out, hx.out]; rfl, rfl⟩
                · have hk0 : ¬ 0 < k := hfz.out hz0
                  cases hnum : Wr.isNum x
                  · have Hn := Lib.hid hnum
                    have Hf2 : Hid (Wr.getN s.data.toList (a : Int) = (0, 0, 201)) := by show Wr.getN _ _ = _; rw [Hfin.out, Hn.out]; rfl
                    clear hnum Hfin
                    go_wp2_with fail
                    refine (number_at _ false (by rw [← hx.out]; exact Hn.out) _).mono ?_
                    rintro e w' ⟨rfl, rfl⟩
                    go_wp2_with fail
                    go_ret3
                    exact ⟨by rw [Hf2.out]; rfl, rfl⟩
                  · have Hn := Lib.hid hnum
                    have Hf2 : Hid (Wr.getN s.data.toList (a : Int) = (x, ((m + 1 : Nat) : Int), 0)) := by show Wr.getN _ _ = _; rw [Hfin.out, Hn.out]; rfl
                    clear hnum Hfin
                    go_wp2_with fail
                    refine (number_at _ true (by rw [← hx.out]; exact Hn.out) _).mono ?_
                    rintro e w' ⟨rfl, rfl⟩
                    go_wp2_with fail
                    go_ret3
                    exact ⟨by rw [Hf2.out, hx.out]; rfl, rfl⟩
              · have hx := Lib.hid (heven hpar)
                have hl : (((u1 : Int) % 2) == 1) = false := beq_eq_false_iff_ne.2 (by omega)
                clear hodd heven hpar
                cases hz0 : ((s[m].toNat : Int) == 0)
                · cases hnum : Wr.isNum x
                  · have Hn := Lib.hid hnum
                    have Hf2 : Hid (Wr.getN s.data.toList (a : Int) = (0, 0, 201)) := by show Wr.getN _ _ = _; rw [Hfin.out, Hn.out]; rfl
                    clear hnum Hfin
                    go_wp2_with fail
                    refine (number_at _ false (by rw [← hx.out]; exact Hn.out) _).mono ?_
                    rintro e w' ⟨rfl, rfl⟩
                    go_wp2_with fail
                    go_ret3
                    exact ⟨by rw [Hf2.out]; rfl, rfl⟩
                  · have Hn := Lib.hid hnum
                    have Hf2 : Hid (Wr.getN s.data.toList (a : Int) = (x, ((m + 1 : Nat) : Int), 0)) := by show Wr.getN _ _ = _; rw [Hfin.out, Hn.out]; rfl
                    clear hnum Hfin
                    go_wp2_with fail
                    refine (number_at _ true (by rw [← hx.out]; exact Hn.out) _).mono ?_
                    rintro e w' ⟨rfl, rfl⟩
                    go_wp2_with fail
                    go_ret3
                    exact ⟨by rw [Hf2.out, hx.out]; rfl, rfl⟩
                · have hk0 : ¬ 0 < k := hfz.out hz0
                  cases hnum : Wr.isNum x
                  · have Hn := Lib.hid hnum
                    have Hf2 : Hid (Wr.getN s.data.toList (a : Int) = (0, 0, 201)) := by show Wr.getN _ _ = _; rw [Hfin.out, Hn.out]; rfl
                    clear hnum Hfin
                    go_wp2_with fail
                    refine (number_at _ false (by rw [← hx.out]; exact Hn.out) _).mono ?_
                    rintro e w' ⟨rfl, rfl⟩
                    go_wp2_with fail
                    go_ret3
                    exact ⟨by rw [Hf2.out]; rfl, rfl⟩
                  · have Hn := Lib.hid hnum
                    have Hf2 : Hid (Wr.getN s.data.toList (a : Int) = (x, ((m + 1 : Nat) : Int), 0)) := by show Wr.getN _ _ = _; rw [Hfin.out, Hn.out]; rfl
                    clear hnum Hfin
                    go_wp2_with fail
                    refine (number_at _ true (by rw [← hx.out]; exact Hn.out) _).mono ?_
                    rintro e w' ⟨rfl, rfl⟩
                    go_wp2_with fail
                    go_ret3
                    exact ⟨by rw [Hf2.out, hx.out]; rfl, rfl⟩
end Go.Proofs.Ythdbmgjlegpbaaa
/- The walks through PutText and GetText of wire and of its reference. -/
namespace Go.Proofs.Ythdbmgjlegpbaaa
open Go.RowKit
set_option linter.unusedVariables false

def gtV (r : ByteArray × Int × Int) : Value := .tuple #[.string r.1, .int .i64 r.2.1, .int .i64 r.2.2]

set_option maxRecDepth 100000 in
set_option maxHeartbeats 400000 in
theorem getText_any (s : ByteArray) (at_ most : Int) (w : World) (hs : s.size ≤ 4611686018427387904) (ha : -9223372036854775808 ≤ at_ ∧ at_ ≤ 9223372036854775807) (hm : -9223372036854775808 ≤ most ∧ most ≤ 9223372036854775807) :
    Calls Try.prog 74 #[.string s, .int .i64 at_, .int .i64 most] w fun e w' => e = .returned (gtV (Wr.getT s at_ most)) ∧ w = w' := by
  have hc := Wr.getN_cases s.data.toList at_
  have hcall := getNum_any s at_ w (by omega) ha
  have hlen : s.data.toList.length = s.size := by simp
  rcases hc with ⟨e0, he, hcode⟩ | ⟨x, a, k, rfl, he, hn, hk, hle, _⟩
  · have Hfin : Hid (Wr.getT s at_ most = (⟨#[]⟩, 0, e0)) := by
      show Wr.getT _ _ _ = _; unfold Wr.getT; rw [he]; rcases hcode with rfl | rfl <;> rfl
    rw [he] at hcall
    have hne : (e0 != 0) = true := by rcases hcode with rfl | rfl <;> rfl
    clear hcode he hlen
    have Hcall := Lib.hid hcall
    clear hcall
    go_enter Try.func74, Try.ntmps74
    go_wp2_with fail
    refine Hcall.out.mono ?_
    rintro e w' ⟨rfl, rfl⟩
    unfold gnV
    go_wp2_with fail
    go_ret3
    exact ⟨by rw [Hfin.out]; rfl, rfl⟩
  · rw [he] at hcall
    have Hcall := Lib.hid hcall
    have hxb := (Wr.isNum_iff x).1 hn
    have Hdef : Hid (Wr.getT s (a : Int) most = if x < 0 ∨ most < x then (⟨#[]⟩, 0, 202) else if (s.size : Int) - ((a + k : Nat) : Int) < x then (⟨#[]⟩, 0, 200) else (s.extract (a + k) (((a + k : Nat) : Int) + x).toNat, ((a + k : Nat) : Int) + x, 0)) := by
      show Wr.getT _ _ _ = _; unfold Wr.getT; rw [he]; simp only [ne_eq, not_true_eq_false, if_false, Int.toNat_natCast]
    rw [hlen] at hle
    clear hcall he hn hlen
    generalize a + k = m at *
    by_cases h1 : x < 0
    · have Hfin : Hid (Wr.getT s (a : Int) most = (⟨#[]⟩, 0, 202)) := by show Wr.getT _ _ _ = _; rw [Hdef.out, if_pos (.inl h1)]
      clear Hdef
      go_enter Try.func74, Try.ntmps74
      go_wp2_with fail
      refine Hcall.out.mono ?_
      rintro e w' ⟨rfl, rfl⟩
      unfold gnV
      go_wp2_with fail
      go_ret3
      exact ⟨by rw [Hfin.out]; rfl, rfl⟩
    · by_cases h2 : most < x
      · have Hfin : Hid (Wr.getT s (a : Int) most = (⟨#[]⟩, 0, 202)) := by show Wr.getT _ _ _ = _; rw [Hdef.out, if_pos (.inr h2)]
        clear Hdef
        go_enter Try.func74, Try.ntmps74
        go_wp2_with fail
        refine Hcall.out.mono ?_
        rintro e w' ⟨rfl, rfl⟩
        unfold gnV
        go_wp2_with fail
        go_ret3
        exact ⟨by rw [Hfin.out]; rfl, rfl⟩
      · obtain ⟨n, rfl⟩ : ∃ n : Nat, x = n := ⟨x.toNat, by omega⟩
        by_cases h3 : (s.size : Int) - (m : Int) < (n : Int)
        · have Hfin : Hid (Wr.getT s (a : Int) most = (⟨#[]⟩, 0, 200)) := by show Wr.getT _ _ _ = _; rw [Hdef.out, if_neg (by omega), if_pos h3]
          clear Hdef
          go_enter Try.func74, Try.ntmps74
          go_wp2_with fail
          refine Hcall.out.mono ?_
          rintro e w' ⟨rfl, rfl⟩
          unfold gnV
          go_wp2_with fail
          go_ret3
          exact ⟨by rw [Hfin.out]; rfl, rfl⟩
        · have Hfin : Hid (Wr.getT s (a : Int) most = (s.extract m (m + n), ((m + n : Nat) : Int), 0)) := by
            show Wr.getT _ _ _ = _; rw [Hdef.out, if_neg (by omega), if_neg h3]
            rw [show ((m : Int) + (n : Int)).toNat = m + n from by omega, show ((m : Int) + (n : Int)) = ((m + n : Nat) : Int) from by omega]
          have h4 : m + n ≤ s.size := by omega
          clear Hdef
          go_enter Try.func74, Try.ntmps74
          go_wp2_with fail
          refine Hcall.out.mono ?_
          rintro e w' ⟨rfl, rfl⟩
          unfold gnV
          go_wp2_with fail
          go_ret3
          exact ⟨by rw [Hfin.out]; rfl, rfl⟩

set_option maxRecDepth 100000 in
set_option maxHeartbeats 400000 in
theorem rgetText_any (s : ByteArray) (at_ most : Int) (w : World) (hs : s.size ≤ 4611686018427387904) (ha : -9223372036854775808 ≤ at_ ∧ at_ ≤ 9223372036854775807) (hm : -9223372036854775808 ≤ most ∧ most ≤ 9223372036854775807) :
    Calls Try.prog 90 #[.string s, .int .i64 at_, .int .i64 most] w fun e w' => e = .returned (gtV (Wr.getT s at_ most)) ∧ w = w' := by
  have hc := Wr.getN_cases s.data.toList at_
  have hcall := rgetNum_any s at_ w (by omega) ha
  have hlen : s.data.toList.length = s.size := by simp
  rcases hc with ⟨e0, he, hcode⟩ | ⟨x, a, k, rfl, he, hn, hk, hle, _⟩
  · have Hfin : Hid (Wr.getT s at_ most = (⟨#[]⟩, 0, e0)) := by
      show Wr.getT _ _ _ = _; unfold Wr.getT; rw [he]; rcases hcode with rfl | rfl <;> rfl
    rw [he] at hcall
    have hne : (e0 != 0) = true := by rcases hcode with rfl | rfl <;> rfl
    clear hcode he hlen
    have Hcall := Lib.hid hcall
    clear hcall
    go_enter Try.func90, Try.ntmps90
    go_wp2_with fail
    refine Hcall.out.mono ?_
    rintro e w' ⟨rfl, rfl⟩
    unfold gnV
    go_wp2_with fail
    go_ret3
    exact ⟨by rw [Hfin.out]; rfl, rfl⟩
  · rw [he] at hcall
    have Hcall := Lib.hid hcall
    have hxb := (Wr.isNum_iff x).1 hn
    have Hdef : Hid (Wr.getT s (a : Int) most = if x < 0 ∨ most < x then (⟨#[]⟩, 0, 202) else if (s.size : Int) - ((a + k : Nat) : Int) < x then (⟨#[]⟩, 0, 200) else (s.extract (a + k) (((a + k : Nat) : Int) + x).toNat, ((a + k : Nat) : Int) + x, 0)) := by
      show Wr.getT _ _ _ = _; unfold Wr.getT; rw [he]; simp only [ne_eq, not_true_eq_false, if_false, Int.toNat_natCast]
    rw [hlen] at hle
    clear hcall he hn hlen
    generalize a + k = m at *
    by_cases h1 : x < 0
    · have Hfin : Hid (Wr.getT s (a : Int) most = (⟨#[]⟩, 0, 202)) := by show Wr.getT _ _ _ = _; rw [Hdef.out, if_pos (.inl h1)]
      clear Hdef
      go_enter Try.func90, Try.ntmps90
      go_wp2_with fail
      refine Hcall.out.mono ?_
      rintro e w' ⟨rfl, rfl⟩
      unfold gnV
      go_wp2_with fail
      go_ret3
      exact ⟨by rw [Hfin.out]; rfl, rfl⟩
    · by_cases h2 : most < x
      · have Hfin : Hid (Wr.getT s (a : Int) most = (⟨#[]⟩, 0, 202)) := by show Wr.getT _ _ _ = _; rw [Hdef.out, if_pos (.inr h2)]
        clear Hdef
        go_enter Try.func90, Try.ntmps90
        go_wp2_with fail
        refine Hcall.out.mono ?_
        rintro e w' ⟨rfl, rfl⟩
        unfold gnV
        go_wp2_with fail
        go_ret3
        exact ⟨by rw [Hfin.out]; rfl, rfl⟩
      · obtain ⟨n, rfl⟩ : ∃ n : Nat, x = n := ⟨x.toNat, by omega⟩
        by_cases h3 : (s.size : Int) - (m : Int) < (n : Int)
        · have Hfin : Hid (Wr.getT s (a : Int) most = (⟨#[]⟩, 0, 200)) := by show Wr.getT _ _ _ = _; rw [Hdef.out, if_neg (by omega), if_pos h3]
          clear Hdef
          go_enter Try.func90, Try.ntmps90
          go_wp2_with fail
          refine Hcall.out.mono ?_
          rintro e w' ⟨rfl, rfl⟩
          unfold gnV
          go_wp2_with fail
          go_ret3
          exact ⟨by rw [Hfin.out]; rfl, rfl⟩
        · have Hfin : Hid (Wr.getT s (a : Int) most = (s.extract m (m + n), ((m + n : Nat) : Int), 0)) := by
            show Wr.getT _ _ _ = _; rw [Hdef.out, if_neg (by omega), if_neg h3]
            rw [show ((m : Int) + (n : Int)).toNat = m + n from by omega, show ((m : Int) + (n : Int)) = ((m + n : Nat) : Int) from by omega]
          have h4 : m + n ≤ s.size := by omega
          clear Hdef
          go_enter Try.func90, Try.ntmps90
          go_wp2_with fail
          refine Hcall.out.mono ?_
          rintro e w' ⟨rfl, rfl⟩
          unfold gnV
          go_wp2_with fail
          go_ret3
          exact ⟨by rw [Hfin.out]; rfl, rfl⟩

set_option maxRecDepth 100000 in
theorem putText_any (s : ByteArray) (w : World) (hs : s.size ≤ 4611686018427387904) :
    Calls Try.prog 43 #[.string s] w fun e w' => e = .returned (.string (Wr.textB s)) ∧ Below w.heap.size w w' := by
  have hp : (Wr.putB (s.size : Int)).size ≤ 8 := by rw [Wr.putB_size]; exact Wr.putL_len _
  have Ht : Hid (Wr.textB s = Wr.putB (s.size : Int) ++ s) := rfl
  go_enter Try.func43, Try.ntmps43
  go_wp2_with fail
  refine (putNum_any _ _ (by omega)).mono ?_
  rintro e w1 ⟨rfl, hb⟩
  generalize Wr.putB (s.size : Int) = p at *
  go_wp2_with fail
  go_ret
  exact ⟨by rw [Ht.out]; rfl, hb⟩

set_option maxRecDepth 100000 in
theorem rtext_any (s : ByteArray) (w : World) (hs : s.size ≤ 4611686018427387904) :
    Calls Try.prog 89 #[.string s] w fun e w' => e = .returned (.string (Wr.textB s)) ∧ Below w.heap.size w w' := by
  have hp : (Wr.putB (s.size : Int)).size ≤ 8 := by rw [Wr.putB_size]; exact Wr.putL_len _
  have Ht : Hid (Wr.textB s = Wr.putB (s.size : Int) ++ s) := rfl
  go_enter Try.func89, Try.ntmps89
  go_wp2_with fail
  refine (rnum_any _ _ (by omega)).mono ?_
  rintro e w1 ⟨rfl, hb⟩
  generalize Wr.putB (s.size : Int) = p at *
  go_wp2_with fail
  go_ret
  exact ⟨by rw [Ht.out]; rfl, hb⟩
end Go.Proofs.Ythdbmgjlegpbaaa
/- The walk through wire.Reader's Num. -/
namespace Go.Proofs.Ythdbmgjlegpbaaa
open Go.RowKit
set_option linter.unusedVariables false

/-- block g is a wire.Reader over s in the state r -/
def RdAt (w : World) (g : Nat) (s : ByteArray) (r : Pt.St) : Prop := Blk w g 83 #[.string s, .int .i64 r.1, .bool r.2]
section
variable {w w' : World} {g : Nat} {s : ByteArray} {r : Pt.St}
theorem RdAt.cell0 (h : RdAt w g s r) : w.cell? ⟨g, 0, none⟩ = some (.string s) := Blk.cell h 0
theorem RdAt.cell1 (h : RdAt w g s r) : w.cell? ⟨g, 1, none⟩ = some (.int .i64 r.1) := Blk.cell h 1
theorem RdAt.cell2 (h : RdAt w g s r) : w.cell? ⟨g, 2, none⟩ = some (.bool r.2) := Blk.cell h 2
theorem RdAt.frozen (h : RdAt w g s r) (i : Nat) : w.frozen? ⟨g, i, none⟩ = false := Blk.frozen h i
theorem RdAt.lt (h : RdAt w g s r) : g < w.heap.size := Blk.lt h
theorem RdAt.bad (h : RdAt w g s r) (b : Bool) : RdAt (w.setCell ⟨g, 2, none⟩ (.bool b)) g s (r.1, b) := Blk.set_ h 2 (.bool b)
theorem RdAt.at_ (h : RdAt w g s r) (a : Int) : RdAt (w.setCell ⟨g, 1, none⟩ (.int .i64 a)) g s (a, r.2) := Blk.set_ h 1 (.int .i64 a)
theorem RdAt.drewN (h : RdAt w g s r) (n : Nat) : RdAt (w.drewN n) g s r := h
theorem RdAt.only {S : Nat → Prop} (h : RdAt w g s r) (ho : Only S w w') (hg : ¬ S g) : RdAt w' g s r := Blk.only h ho hg
theorem RdAt.alloc (h : RdAt w g s r) (o : Obj) : RdAt (w.alloc o) g s r := Blk.alloc h o
theorem RdAt.new (w : World) (s : ByteArray) (a : Int) : RdAt (w.alloc (.cells #[.string s, .int .i64 a, .bool false] 83)) w.heap.size s (a, false) := Blk.new w _ _
theorem RdAt.below {B : Nat} (h : RdAt w g s r) (hb : Below B w w') (hg : g < B) : RdAt w' g s r := Blk.below h hb hg
end

def RdPost (g : Nat) (s : ByteArray) (w : World) (v : Value) (r : Pt.St) (e : Ending) (w' : World) : Prop := e = .returned v ∧ RdAt w' g s r ∧ Only (fun k => k = g) w w'

theorem rd_stop {w : World} {g : Nat} {s : ByteArray} {r : Pt.St} (h : RdAt w g s r) (n : Nat) : RdAt ((w.drewN n).setCell ⟨g, 2, none⟩ (.bool true)) g s (r.1, true) ∧ Only (fun k => k = g) w ((w.drewN n).setCell ⟨g, 2, none⟩ (.bool true)) :=
  ⟨(h.drewN n).bad true, ((Only.refl (fun k => k = g) w).drewN n).setCell (fun _ => rfl) _⟩
theorem rd_go {w : World} {g : Nat} {s : ByteArray} {r : Pt.St} (h : RdAt w g s r) (n : Nat) (a : Int) : RdAt ((w.drewN n).setCell ⟨g, 1, none⟩ (.int .i64 a)) g s (a, r.2) ∧ Only (fun k => k = g) w ((w.drewN n).setCell ⟨g, 1, none⟩ (.int .i64 a)) :=
  ⟨(h.drewN n).at_ a, ((Only.refl (fun k => k = g) w).drewN n).setCell (fun _ => rfl) _⟩

set_option maxRecDepth 100000 in
set_option maxHeartbeats 800000 in
theorem readerNum_any (s : ByteArray) (a : Int) (bad : Bool) (lo hi : Int) (w : World) (g : Nat) (hR : RdAt w g s (a, bad)) (hs : s.size ≤ 9223372036854775000) (ha : -9223372036854775808 ≤ a ∧ a ≤ 9223372036854775807) :
    Calls Try.prog 44 #[.pointer (some ⟨g, 0, none⟩), .int .i64 lo, .int .i64 hi] w (RdPost g s w (.int .i64 (Pt.rdNum s lo hi (a, bad)).1) (Pt.rdNum s lo hi (a, bad)).2) := by
  have H1 := fun W => Lib.hid (getNum_any s a W hs ha)
  have hc0 := hR.cell0
  have hc1 := hR.cell1
  have hc2 := hR.cell2
  have hf1 := hR.frozen 1
  have hf2 := hR.frozen 2
  have HR := Lib.hid hR
  clear hR hs ha
  have hdef : Pt.rdNum s lo hi (a, bad) = if (Wr.getN s.data.toList a).2.2 ≠ 0 ∨ (Wr.getN s.data.toList a).1 < lo ∨ hi < (Wr.getN s.data.toList a).1 ∨ bad = true then (0, (a, true)) else ((Wr.getN s.data.toList a).1, ((Wr.getN s.data.toList a).2.1, false)) := rfl
  generalize Pt.rdNum s lo hi (a, bad) = res at *
  generalize Wr.getN s.data.toList a = r at *
  obtain ⟨x, m, e0⟩ := r
  simp only at hdef hc1 hc2
  simp only [gnV] at H1
  by_cases h0 : e0 = 0
  · by_cases h1 : x < lo
    · have Hres : Hid (res = (0, (a, true))) := by rw [if_pos (.inr (.inl h1))] at hdef; exact hdef
      have hz : (e0 != 0) = false := by simp [h0]
      clear hdef h0
      go_enter Try.func44, Try.ntmps44
      go_wp2_with fail
      go_quiet ((go_at_call 73; exact quiet_left (Hid.out (H1 _))))
      go_wp2_with fail
      go_ret
      exact ⟨by rw [Hres.out]; rfl, by rw [Hres.out]; exact (rd_stop HR.out nq).1, (rd_stop HR.out nq).2⟩
    · by_cases h2 : hi < x
      · have Hres : Hid (res = (0, (a, true))) := by rw [if_pos (.inr (.inr (.inl h2)))] at hdef; exact hdef
        have hz : (e0 != 0) = false := by simp [h0]
        clear hdef h0
        go_enter Try.func44, Try.ntmps44
        go_wp2_with fail
        go_quiet ((go_at_call 73; exact quiet_left (Hid.out (H1 _))))
        go_wp2_with fail
        go_ret
        exact ⟨by rw [Hres.out]; rfl, by rw [Hres.out]; exact (rd_stop HR.out nq).1, (rd_stop HR.out nq).2⟩
      · cases bad
        · have Hres : Hid (res = (x, (m, false))) := by rw [if_neg (by simp [h0, h1, h2])] at hdef; exact hdef
          have hz : (e0 != 0) = false := by simp [h0]
          clear hdef h0
          go_enter Try.func44, Try.ntmps44
          go_wp2_with fail
          go_quiet ((go_at_call 73; exact quiet_left (Hid.out (H1 _))))
          go_wp2_with fail
          go_ret
          exact ⟨by rw [Hres.out]; rfl, by rw [Hres.out]; exact (rd_go HR.out nq m).1, (rd_go HR.out nq m).2⟩
        · have Hres : Hid (res = (0, (a, true))) := by rw [if_pos (.inr (.inr (.inr rfl)))] at hdef; exact hdef
          have hz : (e0 != 0) = false := by simp [h0]
          clear hdef h0
          go_enter Try.func44, Try.ntmps44
          go_wp2_with fail
          go_quiet ((go_at_call 73; exact quiet_left (Hid.out (H1 _))))
          go_wp2_with fail
          go_ret
          exact ⟨by rw [Hres.out]; rfl, by rw [Hres.out]; exact (rd_stop HR.out nq).1, (rd_stop HR.out nq).2⟩
  · have Hres : Hid (res = (0, (a, true))) := by rw [if_pos (.inl h0)] at hdef; exact hdef
    have hz : (e0 != 0) = true := by simp [h0]
    clear hdef h0
    go_enter Try.func44, Try.ntmps44
    go_wp2_with fail
    go_quiet ((go_at_call 73; exact quiet_left (Hid.out (H1 _))))
    go_wp2_with fail
    go_ret
    exact ⟨by rw [Hres.out]; rfl, by rw [Hres.out]; exact (rd_stop HR.out nq).1, (rd_stop HR.out nq).2⟩

end Go.Proofs.Ythdbmgjlegpbaaa
/- The walk through wire.Reader's Text. -/
namespace Go.Proofs.Ythdbmgjlegpbaaa
open Go.RowKit
set_option linter.unusedVariables false

set_option maxRecDepth 100000 in
set_option maxHeartbeats 800000 in
theorem readerText_any (s : ByteArray) (a : Int) (bad : Bool) (most : Int) (w : World) (g : Nat) (hR : RdAt w g s (a, bad)) (hs : s.size ≤ 4611686018427387904) (ha : -9223372036854775808 ≤ a ∧ a ≤ 9223372036854775807) (hm : -9223372036854775808 ≤ most ∧ most ≤ 9223372036854775807) :
    Calls Try.prog 45 #[.pointer (some ⟨g, 0, none⟩), .int .i64 most] w (RdPost g s w (.string (Pt.rdText s most (a, bad)).1) (Pt.rdText s most (a, bad)).2) := by
  have H1 := fun W => Lib.hid (getText_any s a most W hs ha hm)
  have hc0 := hR.cell0
  have hc1 := hR.cell1
  have hc2 := hR.cell2
  have hf1 := hR.frozen 1
  have hf2 := hR.frozen 2
  have HR := Lib.hid hR
  clear hR hs ha hm
  have hdef : Pt.rdText s most (a, bad) = if (Wr.getT s a most).2.2 ≠ 0 ∨ bad = true then (⟨#[]⟩, (a, true)) else ((Wr.getT s a most).1, ((Wr.getT s a most).2.1, false)) := rfl
  generalize Pt.rdText s most (a, bad) = res at *
  generalize Wr.getT s a most = r at *
  obtain ⟨x, m, e0⟩ := r
  simp only at hdef hc1 hc2
  simp only [gtV] at H1
  by_cases h0 : e0 = 0
  · cases bad
    · have Hres : Hid (res = (x, (m, false))) := by rw [if_neg (by simp [h0])] at hdef; exact hdef
      have hz : (e0 != 0) = false := by simp [h0]
      clear hdef h0
      go_enter Try.func45, Try.ntmps45
      go_wp2_with fail
      go_quiet ((go_at_call 74; exact quiet_left (Hid.out (H1 _))))
      go_wp2_with fail
      go_ret
      exact ⟨by rw [Hres.out]; rfl, by rw [Hres.out]; exact (rd_go HR.out nq m).1, (rd_go HR.out nq m).2⟩
    · have Hres : Hid (res = (⟨#[]⟩, (a, true))) := by rw [if_pos (.inr rfl)] at hdef; exact hdef
      have hz : (e0 != 0) = false := by simp [h0]
      clear hdef h0
      go_enter Try.func45, Try.ntmps45
      go_wp2_with fail
      go_quiet ((go_at_call 74; exact quiet_left (Hid.out (H1 _))))
      go_wp2_with fail
      go_ret
      exact ⟨by rw [Hres.out]; rfl, by rw [Hres.out]; exact (rd_stop HR.out nq).1, (rd_stop HR.out nq).2⟩
  · have Hres : Hid (res = (⟨#[]⟩, (a, true))) := by rw [if_pos (.inl h0)] at hdef; exact hdef
    have hz : (e0 != 0) = true := by simp [h0]
    clear hdef h0
    go_enter Try.func45, Try.ntmps45
    go_wp2_with fail
    go_quiet ((go_at_call 74; exact quiet_left (Hid.out (H1 _))))
    go_wp2_with fail
    go_ret
    exact ⟨by rw [Hres.out]; rfl, by rw [Hres.out]; exact (rd_stop HR.out nq).1, (rd_stop HR.out nq).2⟩
end Go.Proofs.Ythdbmgjlegpbaaa
/- An error's number; an int's bounds. -/
namespace Go.Proofs.Ythdbmgjlegpbaaa
open Go.RowKit

theorem wf_int {a : Int} (h : (Lit.int .i64 a).wf = true) : -9223372036854775808 ≤ a ∧ a ≤ 9223372036854775807 := by
  simpa [Lit.wf, IntKind.min, IntKind.max, IntKind.signed, IntKind.bits] using h
theorem errno_any (x : Int) (w : World) : Calls Try.prog 18 #[.int .i64 x] w fun e w' => e = .returned (.int .i64 x) ∧ w = w' := by
  go_enter Try.func18, Try.ntmps18
  go_wp2
  go_ret
  exact ⟨rfl, rfl⟩
end Go.Proofs.Ythdbmgjlegpbaaa
/- The walks through Ints and GetInts of column and of its reference. -/
namespace Go.Proofs.Ythdbmgjlegpbaaa
open Go.RowKit
set_option linter.unusedVariables false

theorem info_int : (Try.prog.info? 3).map (fun i => (i.zero, i.size, i.bytes)) = some (some (.int .i64 0), 1, 8) := by kernel_rfl
theorem map_cell {α : Type} {w wr : World} {B b off k : Nat} {xs : List α} {V : α → Value} (hlt : k < xs.length) (hc : ∀ j u, (xs.map V)[j]? = some u → w.cell? ⟨b, off + j, none⟩ = some u) (hk : ∀ p : Addr, p.block < B → wr.cell? p = w.cell? p) (hb : b < B) : wr.cell? ⟨b, off + k, none⟩ = some (V xs[k]) := by
  rw [hk ⟨b, _, none⟩ hb]; exact hc k _ (by simp [hlt])
theorem intsB_no {xs : List Int} {k : Nat} (hk : k < xs.length) (h : Pt.smallB xs[k] = false) : Cl.intsB xs = ⟨#[]⟩ := by
  unfold Cl.intsB
  rw [if_neg]
  rw [List.all_eq_true]
  intro e
  have := e xs[k] (List.getElem_mem _)
  rw [h] at this; cases this
theorem all_step {xs : List Int} {k : Nat} (hk : k < xs.length) (ha : (xs.take k).all Pt.smallB = true) (h : Pt.smallB xs[k] = true) : (xs.take (k + 1)).all Pt.smallB = true := by
  rw [List.take_succ_eq_append_getElem hk, List.all_append, ha]; simp [h]
theorem intsD_step {xs : List Int} {k : Nat} {l : List UInt8} {last : Int} (hk : k < xs.length) (h : Cl.intsD 0 xs = l ++ Cl.intsD last (xs.drop k)) : Cl.intsD 0 xs = (l ++ Wr.putL (xs[k] - last)) ++ Cl.intsD xs[k] (xs.drop (k + 1)) := by
  rw [h, List.drop_eq_getElem_cons hk, Cl.intsD]; simp
theorem intsB_done {xs : List Int} {k : Nat} {l : List UInt8} {last : Int} (hk : ¬ k < xs.length) (ha : (xs.take k).all Pt.smallB = true) (h : Cl.intsD 0 xs = l ++ Cl.intsD last (xs.drop k)) : Cl.intsB xs = ⟨l.toArray⟩ := by
  rw [List.take_of_length_le (by omega)] at ha
  unfold Cl.intsB
  rw [if_pos ha, h, List.drop_eq_nil_of_le (by omega), Cl.intsD]; simp

set_option maxRecDepth 100000 in
set_option maxHeartbeats 1000000 in
theorem ints_any (A : Option Addr) (c : Nat) (xs : List Int) (w : World) (B : Nat) (hr : Reads w B 1 A xs.length (xs.map (Value.int .i64))) (hB : B ≤ w.heap.size) (hn : xs.length * 8 ≤ 140737488355328) (hwf : ∀ x ∈ xs, -9223372036854775808 ≤ x ∧ x ≤ 9223372036854775807) :
    Calls Try.prog 14 #[.slice A xs.length c] w fun e w' => e = .returned (.string (Cl.intsB xs)) ∧ Below w.heap.size w w' := by
  have HRd := Lib.hid hr
  have HW := Lib.hid hwf
  have HD0 : ∀ k (hk : k < xs.length), Pt.smallB xs[k] = false → Cl.intsB xs = ⟨#[]⟩ := fun k hk h => intsB_no hk h
  have HE0 : ∀ (k : Nat) (l : List UInt8) (last : Int), ¬ k < xs.length → (xs.take k).all Pt.smallB = true → Cl.intsD 0 xs = l ++ Cl.intsD last (xs.drop k) → Cl.intsB xs = ⟨l.toArray⟩ := fun k l last h1 h2 h3 => intsB_done h1 h2 h3
  have HD := Lib.hid HD0
  have HE := Lib.hid HE0
  clear hr hwf HD0 HE0
  generalize Cl.intsB xs = res at *
  go_enter Try.func14, Try.ntmps14
  go_wp2_with fail
  have hbn := bld_new w
  have hba : Below w.heap.size w (w.alloc (.cells #[.pointer none, .slice none 0 0] 72)) := (Below.refl _ _).alloc (Nat.le_refl _) _
  have Hbn := Lib.hid hbn
  have Hba := Lib.hid hba
  clear hbn hba
  generalize w.alloc (.cells #[.pointer none, .slice none 0 0] 72) = w2 at *
  generalize hbe : w.heap.size = b at *
  have Hbe := Lib.hid hbe
  clear hbe
  go_loopw [4, 6, 9] (fun v _ i wr => ∃ (k : Nat) (l : List UInt8) (last : Int), k ≤ xs.length ∧ i = .int .i64 (k : Int) ∧ v = .int .i64 last ∧ (-2147483648 ≤ last ∧ last ≤ 2147483647) ∧ Hid ((xs.take k).all Pt.smallB = true) ∧ Hid (Cl.intsD 0 xs = l ++ Cl.intsD last (xs.drop k)) ∧ l.length ≤ 5 * k ∧ Hid (Bld b b (Lib.byteCells l) wr) ∧ Hid (Below b w wr)) (fun _ _ i _ => xs.length - (intOf i).toNat)
  case atStart => exact ⟨0, [], 0, Nat.zero_le _, rfl, rfl, by omega, Lib.hid (by simp), Lib.hid (by simp), by simp, Hbn, Hba⟩
  case round =>
    obtain ⟨k, l, last, hk, rfl, rfl, hlast, hall, hl, hll, hBl, hbl⟩ := hrel
    by_cases hlt : k < xs.length
    · obtain ⟨bb, off, rfl, hbb, hc⟩ := HRd.out.2 (by omega)
      have hcell := map_cell (wr := wr) hlt hc (fun p hp => hbl.out.cell (p := p) (by omega)) hbb
      have hx := HW.out xs[k] (List.getElem_mem _)
      have HS := fun W => Lib.hid (small_any xs[k] W hx)
      clear hc
      cases hs : Pt.smallB xs[k]
      · have HR := Lib.hid (HD.out k hlt hs)
        rw [hs] at HS
        clear hs HD HE
        go_wp2_with fail
        refine (HS _).out.mono ?_
        rintro e w' ⟨rfl, rfl⟩
        go_wp2_with fail
        go_ret
        exact ⟨ret_str HR.out.symm, by rw [Hbe.out]; exact hbl.out⟩
      · have hsm := (Pt.smallB_iff _).1 hs
        have HA := Lib.hid (all_step hlt hall.out hs)
        have HI := Lib.hid (intsD_step hlt hl.out)
        have h5 := Cl.putL_five (xs[k] - last) (by omega) (by omega)
        have hps := Wr.putB_size (xs[k] - last)
        have hp5 : (Wr.putB (xs[k] - last)).size ≤ 5 := by omega
        have Hpl := Lib.hid (Wr.putB_list (xs[k] - last))
        rw [hs] at HS
        have HP := fun W => Lib.hid (putNum_any (xs[k] - last) W (by omega))
        have hltb := (bld_lt hBl.out).2
        clear hs hall hl hps
        generalize xs[k] = x at *
        go_wp2_with fail
        refine (HS _).out.mono ?_
        rintro e w' ⟨rfl, rfl⟩
        go_wp2_with fail
        refine (HP _).out.mono ?_
        rintro e w3 ⟨rfl, hb3⟩
        have Hb3 := Lib.hid hb3
        have hs3 := hb3.size
        clear hb3
        generalize Wr.putB (x - last) = PB at *
        go_wp2_with fail
        refine (write_any b b l PB w3 (bld_below hBl.out Hb3.out) (by omega) (by omega)).mono ?_
        rintro e w4 ⟨rfl, hB4, hb4, _⟩
        rw [Hpl.out] at hB4
        have HB4 := Lib.hid hB4
        have Hb4 : Hid (Below b w w4) := hbl.out.trans ((Hb3.out.mono (by omega)).trans hb4)
        have hl2 : (l ++ Wr.putL (x - last)).length ≤ 5 * (k + 1) := by rw [List.length_append]; omega
        clear hB4 hb4
        generalize l ++ Wr.putL (x - last) = l2 at *
        go_wp2_with fail
        go_roundw
        case rel => exact ⟨k + 1, l2, x, by omega, by go_num, rfl, hsm, HA, HI, hl2, HB4, Hb4⟩
        case measure => simp [intOf]; omega
    · have HR := Lib.hid (HE.out k l last hlt hall.out hl.out)
      have hltb := (bld_lt hBl.out).2
      clear HD HE hall hl
      go_wp2_with fail
      refine (bstring_any b b l wr hBl.out (by omega)).mono ?_
      rintro e w9 ⟨rfl, _, hb9, _⟩
      go_wp2_with fail
      go_ret
      exact ⟨ret_str HR.out.symm, by rw [Hbe.out]; exact hbl.out.trans hb9⟩

set_option maxRecDepth 100000 in
set_option maxHeartbeats 1000000 in
theorem rints_any (A : Option Addr) (c : Nat) (xs : List Int) (w : World) (B : Nat) (hr : Reads w B 1 A xs.length (xs.map (Value.int .i64))) (hB : B ≤ w.heap.size) (hn : xs.length * 8 ≤ 140737488355328) (hwf : ∀ x ∈ xs, -9223372036854775808 ≤ x ∧ x ≤ 9223372036854775807) :
    Calls Try.prog 65 #[.slice A xs.length c] w fun e w' => e = .returned (.string (Cl.intsB xs)) ∧ Below w.heap.size w w' := by
  have HRd := Lib.hid hr
  have HW := Lib.hid hwf
  have HD0 : ∀ k (hk : k < xs.length), Pt.smallB xs[k] = false → Cl.intsB xs = ⟨#[]⟩ := fun k hk h => intsB_no hk h
  have HE0 : ∀ (k : Nat) (l : List UInt8) (last : Int), ¬ k < xs.length → (xs.take k).all Pt.smallB = true → Cl.intsD 0 xs = l ++ Cl.intsD last (xs.drop k) → Cl.intsB xs = ⟨l.toArray⟩ := fun k l last h1 h2 h3 => intsB_done h1 h2 h3
  have HD := Lib.hid HD0
  have HE := Lib.hid HE0
  clear hr hwf HD0 HE0
  generalize Cl.intsB xs = res at *
  go_enter Try.func65, Try.ntmps65
  go_wp2_with fail
  go_loopw [3, 4, 5] (fun s v i wr => ∃ (k : Nat) (S : ByteArray) (last : Int), k ≤ xs.length ∧ i = .int .i64 (k : Int) ∧ s = .string S ∧ v = .int .i64 last ∧ (-2147483648 ≤ last ∧ last ≤ 2147483647) ∧ Hid ((xs.take k).all Pt.smallB = true) ∧ Hid (Cl.intsD 0 xs = S.data.toList ++ Cl.intsD last (xs.drop k)) ∧ S.size ≤ 5 * k ∧ Hid (Below w.heap.size w wr)) (fun _ _ i _ => xs.length - (intOf i).toNat)
  case atStart => exact ⟨0, ⟨#[]⟩, 0, Nat.zero_le _, rfl, rfl, rfl, by omega, Lib.hid (by simp), Lib.hid (by simp), by decide, Lib.hid (Below.refl _ _)⟩
  case round =>
    obtain ⟨k, S, last, hk, rfl, rfl, rfl, hlast, hall, hl, hll, hbl⟩ := hrel
    by_cases hlt : k < xs.length
    · obtain ⟨bb, off, rfl, hbb, hc⟩ := HRd.out.2 (by omega)
      have hcell := map_cell (wr := wr) hlt hc (fun p hp => hbl.out.cell (p := p) (by omega)) hbb
      have hx := HW.out xs[k] (List.getElem_mem _)
      have HS := fun W => Lib.hid (rsmall_any xs[k] W)
      cases hs : Pt.smallB xs[k]
      · have HR := Lib.hid (HD.out k hlt hs)
        rw [hs] at HS
        clear hs HD HE hc
        go_wp2_with fail
        refine (HS _).out.mono ?_
        rintro e w' ⟨rfl, rfl⟩
        go_wp2_with fail
        go_ret
        exact ⟨ret_str HR.out.symm, hbl.out⟩
      · have hsm := (Pt.smallB_iff _).1 hs
        have HA := Lib.hid (all_step hlt hall.out hs)
        have HI := Lib.hid (intsD_step hlt hl.out)
        have h5 := Cl.putL_five (xs[k] - last) (by omega) (by omega)
        have hps := Wr.putB_size (xs[k] - last)
        have hp5 : (Wr.putB (xs[k] - last)).size ≤ 5 := by omega
        have Hpl := Lib.hid (Wr.putB_list (xs[k] - last))
        have hcw := fun (W : World) (hb : Below wr.heap.size wr W) => map_cell (wr := W) hlt hc (fun p hp => (hb.cell (p := p) (by have := hbl.out.size; omega)).trans (hbl.out.cell (p := p) (by omega))) hbb
        have Hcw := Lib.hid hcw
        rw [hs] at HS
        have HP := fun W => Lib.hid (rnum_any (xs[k] - last) W (by omega))
        clear hs hall hl hps hc hcw
        generalize xs[k] = x at *
        go_wp2_with fail
        refine (HS _).out.mono ?_
        rintro e w' ⟨rfl, rfl⟩
        go_wp2_with fail
        refine (HP _).out.mono ?_
        rintro e w3 ⟨rfl, hb3⟩
        have hc3 := Hcw.out w3 hb3
        have Hb3 : Hid (Below w.heap.size w w3) := hbl.out.trans (hb3.mono hbl.out.size)
        have HS2 : Hid (Cl.intsD 0 xs = (S ++ Wr.putB (x - last)).data.toList ++ Cl.intsD x (xs.drop (k + 1))) := by
          show _ = _
          rw [Wr.append_list, Hpl.out]; exact HI.out
        have hS2 : (S ++ Wr.putB (x - last)).size ≤ 5 * (k + 1) := by rw [ByteArray.size_append]; omega
        clear hb3
        have hq : ¬ 9223372036854775807 < S.size + (Wr.putB (x - last)).size := by omega
        go_wp2_with fail
        generalize S ++ Wr.putB (x - last) = S2 at *
        go_roundw
        case rel => exact ⟨k + 1, S2, x, by omega, by go_num, rfl, rfl, hsm, HA, HS2, hS2, Hb3⟩
        case measure => simp [intOf]; omega
    · have HR := Lib.hid (HE.out k S.data.toList last hlt hall.out hl.out)
      clear HD HE hall hl
      go_wp2_with fail
      go_ret
      exact ⟨ret_str (by rw [HR.out]), hbl.out⟩

theorem getInts_no {s : ByteArray} {a many : Int} (h : many < 0 ∨ 65536 < many ∨ a < 0 ∨ (s.size : Int) < a) : Cl.getInts s a many = ([], 0, 1200) := by
  unfold Cl.getInts; rw [if_pos h]
theorem getInts_none {s : ByteArray} {a : Int} {n : Nat} (h : Cl.goInts s.data.toList n 0 a = none) : Cl.getInts s a (n : Int) = ([], 0, 1200) := by
  unfold Cl.getInts
  split
  · rfl
  · rw [Int.toNat_natCast, h]
theorem getInts_some {s : ByteArray} {a : Int} {n : Nat} {r : List Int × Int} (hn : n ≤ 65536) (ha : 0 ≤ a ∧ a ≤ (s.size : Int)) (h : Cl.goInts s.data.toList n 0 a = some r) : Cl.getInts s a (n : Int) = (r.1, r.2, 0) := by
  unfold Cl.getInts
  rw [if_neg (by omega), Int.toNat_natCast, h]
theorem go_step {l : List UInt8} {n k : Nat} {a0 last a d to : Int} {out : List Int} (hk : k < n) (hrel : Cl.goInts l n 0 a0 = (Cl.goInts l (n - k) last a).map fun r => (out ++ r.1, r.2)) (h : Wr.getN l a = (d, to, 0)) (hs : Pt.smallB (last + d) = true) :
    Cl.goInts l n 0 a0 = (Cl.goInts l (n - (k + 1)) (last + d) to).map fun r => ((out ++ [last + d]) ++ r.1, r.2) := by
  rw [hrel, show n - k = (n - (k + 1)) + 1 from by omega, Cl.goInts_more l _ last a d to h hs, Option.map_map]
  congr 1
  funext r
  simp
theorem go_stop {l : List UInt8} {n k : Nat} {a0 last a : Int} {out : List Int} (hk : k < n) (hrel : Cl.goInts l n 0 a0 = (Cl.goInts l (n - k) last a).map fun r => (out ++ r.1, r.2)) (h : (Wr.getN l a).2.2 ≠ 0 ∨ Pt.smallB (last + (Wr.getN l a).1) = false) : Cl.goInts l n 0 a0 = none := by
  rw [hrel, show n - k = (n - (k + 1)) + 1 from by omega, Cl.goInts_stop l _ last a h]; rfl
theorem go_done {l : List UInt8} {n k : Nat} {a0 last a : Int} {out : List Int} (hk : n - k = 0) (hrel : Cl.goInts l n 0 a0 = (Cl.goInts l (n - k) last a).map fun r => (out ++ r.1, r.2)) : Cl.goInts l n 0 a0 = some (out, a) := by
  rw [hrel, hk, Cl.goInts]; simp
theorem getN_bd' (s : ByteArray) (a : Int) (hs : s.size ≤ 4611686018427387904) : (-9223372036854775808 ≤ (Wr.getN s.data.toList a).2.1 ∧ (Wr.getN s.data.toList a).2.1 ≤ 9223372036854775807) ∧ (-9007199254740992 ≤ (Wr.getN s.data.toList a).1 ∧ (Wr.getN s.data.toList a).1 ≤ 9007199254740992) := by
  rcases Wr.getN_cases s.data.toList a with ⟨e, hg, he⟩ | ⟨x, b, k, ha, hg, hn, _, hle, _⟩
  · rw [hg]; simp
  · rw [Wr.len_list] at hle
    have := (Wr.isNum_iff x).1 hn
    rw [hg]; exact ⟨⟨by simp; omega, by simp; omega⟩, ⟨by simp; omega, by simp; omega⟩⟩
def IntsPost (w : World) (r : List Int × Int × Int) (e : Ending) (w' : World) : Prop :=
  ∃ v, e = .returned (.tuple #[v, .int .i64 r.2.1, .int .i64 r.2.2]) ∧ w'.ownsRow w.heap.size 3 1 v r.1.length (r.1.map (Value.int .i64)) ∧ Below w.heap.size w w'

set_option maxRecDepth 100000 in
set_option maxHeartbeats 1600000 in
theorem rgetInts_any (s : ByteArray) (a many : Int) (w : World) (hs : s.size ≤ 4611686018427387904) (ha : -9223372036854775808 ≤ a ∧ a ≤ 9223372036854775807) :
    Calls Try.prog 70 #[.string s, .int .i64 a, .int .i64 many] w (IntsPost w (Cl.getInts s a many)) := by
  obtain ⟨i0, hi, hz0, hz1, hz2⟩ := info_parts info_int
  by_cases hno : many < 0 ∨ 65536 < many ∨ a < 0 ∨ (s.size : Int) < a
  · have HR := Lib.hid (getInts_no hno)
    generalize Cl.getInts s a many = res at *
    by_cases h1 : many < 0
    · clear hno
      go_enter Try.func70, Try.ntmps70
      go_wp2_with fail
      go_ret3
      exact ⟨_, by rw [HR.out]; rfl, by rw [HR.out]; exact own_nil _ _ _ _, Below.refl _ _⟩
    · by_cases h2 : 65536 < many
      · clear hno
        go_enter Try.func70, Try.ntmps70
        go_wp2_with fail
        go_ret3
        exact ⟨_, by rw [HR.out]; rfl, by rw [HR.out]; exact own_nil _ _ _ _, Below.refl _ _⟩
      · by_cases h3 : a < 0
        · clear hno
          go_enter Try.func70, Try.ntmps70
          go_wp2_with fail
          go_ret3
          exact ⟨_, by rw [HR.out]; rfl, by rw [HR.out]; exact own_nil _ _ _ _, Below.refl _ _⟩
        · have h4 : (s.size : Int) < a := by omega
          clear hno
          go_enter Try.func70, Try.ntmps70
          go_wp2_with fail
          go_ret3
          exact ⟨_, by rw [HR.out]; rfl, by rw [HR.out]; exact own_nil _ _ _ _, Below.refl _ _⟩
  · obtain ⟨n, rfl⟩ : ∃ n : Nat, many = n := ⟨many.toNat, by omega⟩
    have HN := Lib.hid (fun h => @getInts_none s a n h)
    have HO := Lib.hid (fun r h => @getInts_some s a n r (by omega) (by omega) h)
    have hm0 : ¬ (n : Int) < 0 := by omega
    have hm1 : ¬ 65536 < (n : Int) := by omega
    have ha0 : ¬ a < 0 := by omega
    have ha1 : ¬ (s.size : Int) < a := by omega
    clear hno
    generalize Cl.getInts s a (n : Int) = res at *
    go_enter Try.func70, Try.ntmps70
    go_wp2_with fail
    go_loopw [1, 9, 10, 11, 12, 13, 14] (fun va vo vl i _ _ _ wr => ∃ (k : Nat) (out : List Int) (last a' : Int), k ≤ n ∧ i = .int .i64 (k : Int) ∧ va = .int .i64 a' ∧ vl = .int .i64 last ∧ (-2147483648 ≤ last ∧ last ≤ 2147483647) ∧ out.length ≤ k ∧ (-9223372036854775808 ≤ a' ∧ a' ≤ 9223372036854775807) ∧ Hid (Cl.goInts s.data.toList n 0 a = (Cl.goInts s.data.toList (n - k) last a').map fun r => (out ++ r.1, r.2)) ∧ Hid (wr.ownsRow w.heap.size 3 1 vo out.length (out.map (Value.int .i64))) ∧ Hid (Below w.heap.size w wr)) (fun _ _ _ i _ _ _ _ => n - (intOf i).toNat)
    case atStart => exact ⟨0, [], 0, a, Nat.zero_le _, rfl, rfl, rfl, by omega, by simp, ha, Lib.hid (by simp), Lib.hid (own_nil _ _ _ _), Lib.hid (Below.refl _ _)⟩
    case round =>
      obtain ⟨k, out, last, a', hk, rfl, rfl, rfl, hlast, hol, ha', hrel, hown, hbw⟩ := hrel
      by_cases hlt : k < n
      · have H1 := fun W => Lib.hid (rgetNum_any s a' W (by omega) ha')
        have hbd := getN_bd' s a' hs
        have HSt := Lib.hid (fun h => HN.out (go_stop hlt hrel.out h))
        have HGo := Lib.hid (fun d to h h2 => go_step (d := d) (to := to) hlt hrel.out h h2)
        clear hrel HN HO
        generalize Wr.getN s.data.toList a' = X at *
        obtain ⟨d, to, e0⟩ := X
        simp only [gnV] at H1 hbd HSt
        obtain ⟨hb1, hb2⟩ := hbd
        by_cases he : e0 = 0
        · subst he
          have HS := fun W => Lib.hid (rsmall_any (last + d) W)
          cases hs : Pt.smallB (last + d)
          · have HR := Lib.hid (HSt.out (.inr hs))
            rw [hs] at HS
            clear hs HSt HGo
            go_wp2_with fail
            refine (H1 _).out.mono ?_
            rintro e w' ⟨rfl, rfl⟩
            go_wp2_with fail
            refine (HS _).out.mono ?_
            rintro e w' ⟨rfl, rfl⟩
            go_wp2_with fail
            go_ret3
            exact ⟨_, by rw [HR.out]; rfl, by rw [HR.out]; exact own_nil _ _ _ _, hbw.out⟩
          · have hsm := (Pt.smallB_iff _).1 hs
            have HR := Lib.hid (HGo.out d to rfl hs)
            rw [hs] at HS
            have hsw := hbw.out.size
            clear hs HSt HGo
            go_wp2_with fail
            refine (H1 _).out.mono ?_
            rintro e w' ⟨rfl, rfl⟩
            go_wp2_with fail
            refine (HS _).out.mono ?_
            rintro e w' ⟨rfl, rfl⟩
            go_wp2_with (at_builtin; refine wpList_push _ rfl _ _ 22 rfl w.heap.size 3 i0 _ 1 8 Try.underlying22 hi hz0 hz1 hz2 rfl (by decide) _ out.length _ (by rfl) hown.out [.int .i64 (last + d)] (by rfl) rfl (by simp [Value.oneCell']) (by unfold maxLen; omega) (by omega) w hbw.out hsw ?_; intro v8 w8 hown8 hb8)
            have Hown8 : Hid (w8.ownsRow w.heap.size 3 1 v8 (out ++ [last + d]).length ((out ++ [last + d]).map (Value.int .i64))) := by
              show World.ownsRow _ _ _ _ _ _ _
              rw [List.length_append, List.map_append]; exact hown8
            have Hb8 := Lib.hid hb8
            have hol2 : (out ++ [last + d]).length ≤ k + 1 := by simp; omega
            clear hown8 hb8
            go_wp2_with fail
            go_roundw
            case rel => exact ⟨k + 1, out ++ [last + d], last + d, to, by omega, by go_num, rfl, rfl, hsm, hol2, hb1, HR, Hown8, Hb8⟩
            case measure => simp [intOf]; omega
        · have hz : (e0 != 0) = true := by simp [he]
          have HR := Lib.hid (HSt.out (.inl he))
          clear HSt HGo he
          go_wp2_with fail
          refine (H1 _).out.mono ?_
          rintro e w' ⟨rfl, rfl⟩
          go_wp2_with fail
          go_ret3
          exact ⟨_, by rw [HR.out]; rfl, by rw [HR.out]; exact own_nil _ _ _ _, hbw.out⟩
      · have HR := Lib.hid (HO.out _ (go_done (by omega) hrel.out))
        clear hrel HN HO
        obtain ⟨A, c, rfl, hnc, _⟩ := own_slice hown.out
        go_wp2_with fail
        go_ret3
        exact ⟨_, by rw [HR.out]; rfl, by rw [HR.out]; exact hown.out, hbw.out⟩
end Go.Proofs.Ythdbmgjlegpbaaa
