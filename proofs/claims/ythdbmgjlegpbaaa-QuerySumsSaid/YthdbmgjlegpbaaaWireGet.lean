/- The walks through GetNum of wire and of its reference. -/
import Derived.Test.YthdbmgjlegpbaaaWireWalks
namespace Go.Proofs.Ythdbmgjlegpbaaa
open Go.RowKit
set_option linter.unusedVariables false

def gnV (r : Int × Int × Int) : Value := .tuple #[.int .i64 r.1, .int .i64 r.2.1, .int .i64 r.2.2]

set_option maxRecDepth 100000 in
set_option maxHeartbeats 400000 in
theorem getNum_any (s : ByteArray) (at_ : Int) (w : World) (hs : s.size ≤ 9223372036854775000) (ha : -9223372036854775808 ≤ at_ ∧ at_ ≤ 9223372036854775807) :
    Calls Try.prog 73 #[.string s, .int .i64 at_] w fun e w' => e = .returned (gnV (Wr.getN s.data.toList at_)) ∧ w = w' := by
  have hlen : s.data.toList.length = s.size := by simp
  by_cases hout : at_ < 0 ∨ (s.size : Int) < at_
  · have Hfin : Hid (Wr.getN s.data.toList at_ = (0, 0, 200)) := by show Wr.getN _ _ = _; unfold Wr.getN; rw [hlen, if_pos hout]
    clear hlen
    by_cases h1 : at_ < 0
    · go_enter Try.func73, Try.ntmps73
      go_wp2
      go_step3
      go_wp2
      rw [Exit.noGoto_ret]
      go_ret3
      exact ⟨by rw [Hfin.out]; rfl, rfl⟩
    · have h2 : (s.size : Int) < at_ := by omega
      go_enter Try.func73, Try.ntmps73
      go_wp2
      go_step3
      go_wp2
      rw [Exit.noGoto_ret]
      go_ret3
      exact ⟨by rw [Hfin.out]; rfl, rfl⟩
  · obtain ⟨a, rfl⟩ : ∃ a : Nat, at_ = a := ⟨at_.toNat, by omega⟩
    have hle : a ≤ s.size := by omega
    have Hget : Hid (Wr.getN s.data.toList (a : Int) = match Wr.gn 8 0 0 (s.data.toList.drop a) with | .inl e => (0, 0, e) | .inr (x, k) => (x, (a : Int) + (k : Int), 0)) := by
      show Wr.getN _ _ = _
      unfold Wr.getN
      rw [hlen, if_neg hout, Int.toNat_natCast]
      rfl
    clear hlen hout ha
    go_enter Try.func73, Try.ntmps73
    go_wp2
    go_step3
    go_wp2
    go_step3
    go_wp2
    go_loop [7, 8, 9] (fun u e i => ∃ (k u0 : Nat), k ≤ 8 ∧ a + k ≤ s.size ∧ Hid (u0 < 128 ^ k) ∧ u0 ≤ 72057594037927935 ∧ u = .int .u64 (u0 : Int) ∧ e = .int .i64 ((a + k : Nat) : Int) ∧ i = .int .i64 (k : Int) ∧ Hid (Wr.gn 8 0 0 (s.data.toList.drop a) = Wr.gn (8 - k) k u0 (s.data.toList.drop (a + k)))) (fun _ _ i => 8 - (intOf i).toNat)
    case atStart => exact ⟨0, 0, by omega, by omega, Lib.hid (by simp), by omega, rfl, by simp, rfl, Lib.hid (by simp)⟩
    case round =>
      obtain ⟨k, u0, hk, hak, hu, hub, rfl, rfl, rfl, hg⟩ := hrel
      by_cases h8 : k = 8
      · subst h8
        have Hfin : Hid (Wr.getN s.data.toList (a : Int) = (0, 0, 201)) := by show Wr.getN _ _ = _; rw [Hget.out, hg.out, Wr.gn_zero]
        clear Hget hg
        go_wp2
        (try rw [Exit.noGoto_ret])
        go_ret3
        exact ⟨by rw [Hfin.out]; rfl, rfl⟩
      · have h8' : ((k : Int) == 8) = false := beq_eq_false_iff_ne.2 (by omega)
        by_cases hend : a + k = s.size
        · have Hfin : Hid (Wr.getN s.data.toList (a : Int) = (0, 0, 200)) := by show Wr.getN _ _ = _; rw [Hget.out, hg.out, hend, List.drop_eq_nil_of_le (by simp), show 8 - k = (7 - k) + 1 from by omega, Wr.gn_nil]
          have hend' : (((a + k : Nat) : Int) == (s.size : Int)) = true := beq_iff_eq.2 (by omega)
          clear Hget hg
          generalize hm : a + k = m at *
          clear hm
          go_wp2
          (try rw [Exit.noGoto_ret])
          go_ret3
          exact ⟨by rw [Hfin.out]; rfl, rfl⟩
        · have hend' : (((a + k : Nat) : Int) == (s.size : Int)) = false := beq_eq_false_iff_ne.2 (by omega)
          have hin : a + k < s.size := by omega
          have hdrop : s.data.toList.drop (a + k) = s[a + k] :: s.data.toList.drop (a + k + 1) := by
            rw [List.drop_eq_getElem_cons (by simpa using hin)]; rfl
          have hacc := Wr.gn_acc u0 k s[a + k] (by omega) hu.out
          have hlt := Wr.gn_acc_lt u0 k s[a + k] hu.out
          have hle1 := Wr.acc_le _ _ (by omega) hlt
          have Hlt := Lib.hid hlt
          have Hg := Lib.hid (hg.out.trans (by rw [hdrop, show 8 - k = (7 - k) + 1 from by omega]))
          have Hget2 := Lib.hid Hget.out
          clear hdrop hg hlt Hget
          have Hgm := Lib.hid (fun (h : 128 ≤ (s[a + k]'hin).toNat) => Hg.out.trans (Wr.gn_more (7 - k) k u0 (s[a + k]'hin) (s.data.toList.drop (a + k + 1)) h))
          have Hgl := Lib.hid (fun (h : (s[a + k]'hin).toNat = 0) (h' : 0 < k) => Hg.out.trans (Wr.gn_long (7 - k) k u0 (s[a + k]'hin) (s.data.toList.drop (a + k + 1)) h h'))
          have Hgt := Lib.hid (fun (h : (s[a + k]'hin).toNat < 128) (h' : ¬ ((s[a + k]'hin).toNat = 0 ∧ 0 < k)) => Hg.out.trans (Wr.gn_last (7 - k) k u0 (s[a + k]'hin) (s.data.toList.drop (a + k + 1)) h h'))
          clear Hg
          generalize hu1 : u0 + s[a + k].toNat % 128 * 128 ^ k = u1 at *
          generalize hm : a + k = m at *
          have Hm := Lib.hid hm
          clear hu1 hm
          have hc := s[m].toNat_lt
          by_cases hbig : 128 ≤ s[m].toNat
          · go_wp2
            go_round
            case rel => exact ⟨k + 1, u1, by omega, by have := Hm.out; omega, Hlt, hle1, rfl, by have := Hm.out; go_num, by go_num, Lib.hid (by rw [Hgm.out hbig, show a + (k + 1) = m + 1 from by have := Hm.out; omega, show 8 - (k + 1) = 7 - k from by omega])⟩
            case measure => simp [intOf]; omega
          · by_cases hz : s[m].toNat = 0 ∧ 0 < k
            · have Hfin : Hid (Wr.getN s.data.toList (a : Int) = (0, 0, 201)) := by show Wr.getN _ _ = _; rw [Hget2.out, Hgl.out hz.1 hz.2]
              obtain ⟨hz0, hz1⟩ := hz
              have hz0' : ((s[m].toNat : Int) == 0) = true := beq_iff_eq.2 (by omega)
              clear Hgm Hgl Hgt Hget2
              go_wp2
              (try rw [Exit.noGoto_ret])
              go_ret3
              exact ⟨by rw [Hfin.out]; rfl, rfl⟩
            · have Hr := Lib.hid (Hgt.out (by omega) hz)
              have Hfin : Hid (Wr.getN s.data.toList (a : Int) = if Wr.isNum (Wr.unzig u1) then (Wr.unzig u1, ((m + 1 : Nat) : Int), 0) else (0, 0, 201)) := by
                show Wr.getN _ _ = _
                rw [Hget2.out, Hr.out]
                by_cases hn : Wr.isNum (Wr.unzig u1) = true
                · rw [if_pos hn, if_pos hn]
                  show (_, (a : Int) + ((k + 1 : Nat) : Int), (0 : Int)) = _
                  rw [show (a : Int) + ((k + 1 : Nat) : Int) = ((m + 1 : Nat) : Int) from by have := Hm.out; omega]
                · rw [if_neg hn, if_neg hn]
              clear Hgm Hgl Hgt Hget2 Hr
              have hz' : ¬ ((s[m].toNat : Int) == 0) = true ∨ ¬ 0 < k := by
                by_cases h : s[m].toNat = 0
                · right; intro h'; exact hz ⟨h, h'⟩
                · left; intro h'; exact h (by have := beq_iff_eq.1 h'; omega)
              have hodd := Wr.unzig_odd u1
              have heven := Wr.unzig_even u1
              have hl1 := Wr.low1_yes u1 (by omega)
              have hl0 := Wr.low1_no u1 (by omega)
              generalize Wr.unzig u1 = x at *
              have hfz : Hid (((s[m].toNat : Int) == 0) = true → ¬ 0 < k) := by
                intro h; rcases hz' with h' | h'
                · exact absurd h h'
                · exact h'
              clear hz hz'
              by_cases hp : u1 % 2 = 1
              · have hx := Lib.hid (hodd hp)
                have hl := hl1 hp
                clear hodd heven hl1 hl0 hp
                cases hz0 : ((s[m].toNat : Int) == 0)
                · cases hnum : Wr.isNum x
                  · have Hn := Lib.hid hnum
                    have Hf2 : Hid (Wr.getN s.data.toList (a : Int) = (0, 0, 201)) := by show Wr.getN _ _ = _; rw [Hfin.out, Hn.out]; rfl
                    clear hnum Hfin
                    go_wp2_with fail
                    refine (fits_at _ false (by rw [← hx.out]; exact Hn.out) _).mono ?_
                    rintro e w' ⟨rfl, rfl⟩
                    go_wp2_with fail
                    (try rw [Exit.noGoto_ret])
                    go_ret3
                    exact ⟨by rw [Hf2.out]; rfl, rfl⟩
                  · have Hn := Lib.hid hnum
                    have Hf2 : Hid (Wr.getN s.data.toList (a : Int) = (x, ((m + 1 : Nat) : Int), 0)) := by show Wr.getN _ _ = _; rw [Hfin.out, Hn.out]; rfl
                    clear hnum Hfin
                    go_wp2_with fail
                    refine (fits_at _ true (by rw [← hx.out]; exact Hn.out) _).mono ?_
                    rintro e w' ⟨rfl, rfl⟩
                    go_wp2_with fail
                    (try rw [Exit.noGoto_ret])
                    go_ret3
                    exact ⟨by rw [Hf2.out, hx.out]; rfl, rfl⟩
                · have hk0 : ¬ 0 < k := hfz.out hz0
                  cases hnum : Wr.isNum x
                  · have Hn := Lib.hid hnum
                    have Hf2 : Hid (Wr.getN s.data.toList (a : Int) = (0, 0, 201)) := by show Wr.getN _ _ = _; rw [Hfin.out, Hn.out]; rfl
                    clear hnum Hfin
                    go_wp2_with fail
                    refine (fits_at _ false (by rw [← hx.out]; exact Hn.out) _).mono ?_
                    rintro e w' ⟨rfl, rfl⟩
                    go_wp2_with fail
                    (try rw [Exit.noGoto_ret])
                    go_ret3
                    exact ⟨by rw [Hf2.out]; rfl, rfl⟩
                  · have Hn := Lib.hid hnum
                    have Hf2 : Hid (Wr.getN s.data.toList (a : Int) = (x, ((m + 1 : Nat) : Int), 0)) := by show Wr.getN _ _ = _; rw [Hfin.out, Hn.out]; rfl
                    clear hnum Hfin
                    go_wp2_with fail
                    refine (fits_at _ true (by rw [← hx.out]; exact Hn.out) _).mono ?_
                    rintro e w' ⟨rfl, rfl⟩
                    go_wp2_with fail
                    (try rw [Exit.noGoto_ret])
                    go_ret3
                    exact ⟨by rw [Hf2.out, hx.out]; rfl, rfl⟩
              · have hx := Lib.hid (heven hp)
                have hl := hl0 hp
                clear hodd heven hl1 hl0 hp
                cases hz0 : ((s[m].toNat : Int) == 0)
                · cases hnum : Wr.isNum x
                  · have Hn := Lib.hid hnum
                    have Hf2 : Hid (Wr.getN s.data.toList (a : Int) = (0, 0, 201)) := by show Wr.getN _ _ = _; rw [Hfin.out, Hn.out]; rfl
                    clear hnum Hfin
                    go_wp2_with fail
                    refine (fits_at _ false (by rw [← hx.out]; exact Hn.out) _).mono ?_
                    rintro e w' ⟨rfl, rfl⟩
                    go_wp2_with fail
                    (try rw [Exit.noGoto_ret])
                    go_ret3
                    exact ⟨by rw [Hf2.out]; rfl, rfl⟩
                  · have Hn := Lib.hid hnum
                    have Hf2 : Hid (Wr.getN s.data.toList (a : Int) = (x, ((m + 1 : Nat) : Int), 0)) := by show Wr.getN _ _ = _; rw [Hfin.out, Hn.out]; rfl
                    clear hnum Hfin
                    go_wp2_with fail
                    refine (fits_at _ true (by rw [← hx.out]; exact Hn.out) _).mono ?_
                    rintro e w' ⟨rfl, rfl⟩
                    go_wp2_with fail
                    (try rw [Exit.noGoto_ret])
                    go_ret3
                    exact ⟨by rw [Hf2.out, hx.out]; rfl, rfl⟩
                · have hk0 : ¬ 0 < k := hfz.out hz0
                  cases hnum : Wr.isNum x
                  · have Hn := Lib.hid hnum
                    have Hf2 : Hid (Wr.getN s.data.toList (a : Int) = (0, 0, 201)) := by show Wr.getN _ _ = _; rw [Hfin.out, Hn.out]; rfl
                    clear hnum Hfin
                    go_wp2_with fail
                    refine (fits_at _ false (by rw [← hx.out]; exact Hn.out) _).mono ?_
                    rintro e w' ⟨rfl, rfl⟩
                    go_wp2_with fail
                    (try rw [Exit.noGoto_ret])
                    go_ret3
                    exact ⟨by rw [Hf2.out]; rfl, rfl⟩
                  · have Hn := Lib.hid hnum
                    have Hf2 : Hid (Wr.getN s.data.toList (a : Int) = (x, ((m + 1 : Nat) : Int), 0)) := by show Wr.getN _ _ = _; rw [Hfin.out, Hn.out]; rfl
                    clear hnum Hfin
                    go_wp2_with fail
                    refine (fits_at _ true (by rw [← hx.out]; exact Hn.out) _).mono ?_
                    rintro e w' ⟨rfl, rfl⟩
                    go_wp2_with fail
                    (try rw [Exit.noGoto_ret])
                    go_ret3
                    exact ⟨by rw [Hf2.out, hx.out]; rfl, rfl⟩

set_option maxRecDepth 100000 in
set_option maxHeartbeats 400000 in
theorem rgetNum_any (s : ByteArray) (at_ : Int) (w : World) (hs : s.size ≤ 9223372036854775000) (ha : -9223372036854775808 ≤ at_ ∧ at_ ≤ 9223372036854775807) :
    Calls Try.prog 68 #[.string s, .int .i64 at_] w fun e w' => e = .returned (gnV (Wr.getN s.data.toList at_)) ∧ w = w' := by
  have hlen : s.data.toList.length = s.size := by simp
  by_cases hout : at_ < 0 ∨ (s.size : Int) < at_
  · have Hfin : Hid (Wr.getN s.data.toList at_ = (0, 0, 200)) := by show Wr.getN _ _ = _; unfold Wr.getN; rw [hlen, if_pos hout]
    clear hlen
    by_cases h1 : at_ < 0
    · go_enter Try.func68, Try.ntmps68
      go_wp2
      go_ret3
      exact ⟨by rw [Hfin.out]; rfl, rfl⟩
    · have h2 : (s.size : Int) < at_ := by omega
      go_enter Try.func68, Try.ntmps68
      go_wp2
      go_ret3
      exact ⟨by rw [Hfin.out]; rfl, rfl⟩
  · obtain ⟨a, rfl⟩ : ∃ a : Nat, at_ = a := ⟨at_.toNat, by omega⟩
    have hle : a ≤ s.size := by omega
    have Hget : Hid (Wr.getN s.data.toList (a : Int) = match Wr.gn 8 0 0 (s.data.toList.drop a) with | .inl e => (0, 0, e) | .inr (x, k) => (x, (a : Int) + (k : Int), 0)) := by
      show Wr.getN _ _ = _
      unfold Wr.getN
      rw [hlen, if_neg hout, Int.toNat_natCast]
      rfl
    clear hlen hout ha
    go_enter Try.func68, Try.ntmps68
    go_wp2
    go_loop [7, 8, 9] (fun u p i => ∃ (k u0 p0 : Nat), k ≤ 8 ∧ a + k ≤ s.size ∧ Hid (u0 < 128 ^ k) ∧ Hid (p0 = 128 ^ k) ∧ p0 ≤ 72057594037927936 ∧ u0 ≤ 72057594037927935 ∧ u = .int .i64 (u0 : Int) ∧ p = .int .i64 (p0 : Int) ∧ i = .int .i64 (k : Int) ∧ Hid (Wr.gn 8 0 0 (s.data.toList.drop a) = Wr.gn (8 - k) k u0 (s.data.toList.drop (a + k)))) (fun _ _ i => 8 - (intOf i).toNat)
    case atStart => exact ⟨0, 0, 1, by omega, by omega, Lib.hid (by simp), Lib.hid (by simp), by omega, by omega, rfl, rfl, rfl, Lib.hid (by simp)⟩
    case round =>
      obtain ⟨k, u0, p0, hk, hak, hu, hp, hpb, hub, rfl, rfl, rfl, hg⟩ := hrel
      by_cases h8 : k = 8
      · subst h8
        have Hfin : Hid (Wr.getN s.data.toList (a : Int) = (0, 0, 201)) := by show Wr.getN _ _ = _; rw [Hget.out, hg.out, Wr.gn_zero]
        clear Hget hg
        go_wp2
        go_ret3
        exact ⟨by rw [Hfin.out]; rfl, rfl⟩
      · have h8' : ((k : Int) == 8) = false := beq_eq_false_iff_ne.2 (by omega)
        by_cases hend : a + k = s.size
        · have Hfin : Hid (Wr.getN s.data.toList (a : Int) = (0, 0, 200)) := by show Wr.getN _ _ = _; rw [Hget.out, hg.out, hend, List.drop_eq_nil_of_le (by simp), show 8 - k = (7 - k) + 1 from by omega, Wr.gn_nil]
          have hend2 : s.size ≤ a + k := by omega
          clear Hget hg hend
          go_wp2
          go_ret3
          exact ⟨by rw [Hfin.out]; rfl, rfl⟩
        · have hin : a + k < s.size := by omega
          have hdrop : s.data.toList.drop (a + k) = s[a + k] :: s.data.toList.drop (a + k + 1) := by
            rw [List.drop_eq_getElem_cons (by simpa using hin)]; rfl
          have hlt := Wr.gn_acc_lt u0 k s[a + k] hu.out
          have hle1 := Wr.acc_le _ _ (by omega) hlt
          have hpn := Wr.pow_le_9 (k + 1) (by omega)
          rw [Nat.pow_succ, ← hp.out] at hpn
          have Hlt := Lib.hid hlt
          have Hg := Lib.hid (hg.out.trans (by rw [hdrop, show 8 - k = (7 - k) + 1 from by omega]))
          have Hget2 := Lib.hid Hget.out
          clear hdrop hg hlt Hget
          have Hgm := Lib.hid (fun (h : 128 ≤ (s[a + k]'hin).toNat) => Hg.out.trans (Wr.gn_more (7 - k) k u0 (s[a + k]'hin) (s.data.toList.drop (a + k + 1)) h))
          have Hgl := Lib.hid (fun (h : (s[a + k]'hin).toNat = 0) (h' : 0 < k) => Hg.out.trans (Wr.gn_long (7 - k) k u0 (s[a + k]'hin) (s.data.toList.drop (a + k + 1)) h h'))
          have Hgt := Lib.hid (fun (h : (s[a + k]'hin).toNat < 128) (h' : ¬ ((s[a + k]'hin).toNat = 0 ∧ 0 < k)) => Hg.out.trans (Wr.gn_last (7 - k) k u0 (s[a + k]'hin) (s.data.toList.drop (a + k + 1)) h h'))
          clear Hg
          have hpe : u0 + s[a + k].toNat % 128 * 128 ^ k = u0 + s[a + k].toNat % 128 * p0 := by rw [hp.out]
          rw [hpe] at hle1 Hlt Hgm Hgt
          have hacc := Wr.racc u0 s[a + k].toNat p0 hle1
          generalize hu1 : u0 + s[a + k].toNat % 128 * p0 = u1 at *
          generalize hm : a + k = m at *
          have Hm := Lib.hid hm
          have Hak : (a : Int) + (k : Int) = (m : Int) := by omega
          clear hm hpe hu1
          have hc := s[m].toNat_lt
          by_cases hbig : 128 ≤ s[m].toNat
          · go_wp2
            go_round
            case rel => exact ⟨k + 1, u1, p0 * 128, by omega, by have := Hm.out; omega, Hlt, Lib.hid (by rw [hp.out, Nat.pow_succ]), by omega, hle1, by rw [hacc], by go_num, by go_num, Lib.hid (by rw [Hgm.out hbig, show a + (k + 1) = m + 1 from by have := Hm.out; omega, show 8 - (k + 1) = 7 - k from by omega])⟩
            case measure => simp [intOf]; omega
          · by_cases hz : s[m].toNat = 0 ∧ 0 < k
            · have Hfin : Hid (Wr.getN s.data.toList (a : Int) = (0, 0, 201)) := by show Wr.getN _ _ = _; rw [Hget2.out, Hgl.out hz.1 hz.2]
              obtain ⟨hz0, hz1⟩ := hz
              have hz0' : ((s[m].toNat : Int) == 0) = true := beq_iff_eq.2 (by omega)
              clear Hgm Hgl Hgt Hget2 hz0
              by_cases hp : (u1 : Int) % 2 = 1
              · have hp' : (((u1 : Int) % 2) == 1) = true := beq_iff_eq.2 hp
                clear hp
                go_wp2
                go_ret3
                exact ⟨by rw [Hfin.out]; rfl, rfl⟩
              · have hp' : (((u1 : Int) % 2) == 1) = false := beq_eq_false_iff_ne.2 hp
                clear hp
                go_wp2
                go_ret3
                exact ⟨by rw [Hfin.out]; rfl, rfl⟩
            · have Hr := Lib.hid (Hgt.out (by omega) hz)
              have Hfin : Hid (Wr.getN s.data.toList (a : Int) = if Wr.isNum (Wr.unzig u1) then (Wr.unzig u1, ((m + 1 : Nat) : Int), 0) else (0, 0, 201)) := by
                show Wr.getN _ _ = _
                rw [Hget2.out, Hr.out]
                by_cases hn : Wr.isNum (Wr.unzig u1) = true
                · rw [if_pos hn, if_pos hn]
                  show (_, (a : Int) + ((k + 1 : Nat) : Int), (0 : Int)) = _
                  rw [show (a : Int) + ((k + 1 : Nat) : Int) = ((m + 1 : Nat) : Int) from by have := Hm.out; omega]
                · rw [if_neg hn, if_neg hn]
              clear Hgm Hgl Hgt Hget2 Hr
              have hfz : Hid (((s[m].toNat : Int) == 0) = true → ¬ 0 < k) := by
                intro h h'
                exact hz ⟨by have := beq_iff_eq.1 h; omega, h'⟩
              have hodd := Wr.unzig_odd u1
              have heven := Wr.unzig_even u1
              generalize Wr.unzig u1 = x at *
              clear hz
              by_cases hpar : u1 % 2 = 1
              · have hx := Lib.hid (hodd hpar)
                have hl : (((u1 : Int) % 2) == 1) = true := beq_iff_eq.2 (by omega)
                clear hodd heven hpar
                cases hz0 : ((s[m].toNat : Int) == 0)
                · cases hnum : Wr.isNum x
                  · have Hn := Lib.hid hnum
                    have Hf2 : Hid (Wr.getN s.data.toList (a : Int) = (0, 0, 201)) := by show Wr.getN _ _ = _; rw [Hfin.out, Hn.out]; rfl
                    clear hnum Hfin
                    go_wp2_with fail
                    refine (number_at _ false (by rw [← hx.out]; exact Hn.out) _).mono ?_
                    rintro e w' ⟨rfl, rfl⟩
                    go_wp2_with fail
                    go_ret3
                    exact ⟨by rw [Hf2.out]; rfl, rfl⟩
                  · have Hn := Lib.hid hnum
                    have Hf2 : Hid (Wr.getN s.data.toList (a : Int) = (x, ((m + 1 : Nat) : Int), 0)) := by show Wr.getN _ _ = _; rw [Hfin.out, Hn.out]; rfl
                    clear hnum Hfin
                    go_wp2_with fail
                    refine (number_at _ true (by rw [← hx.out]; exact Hn.out) _).mono ?_
                    rintro e w' ⟨rfl, rfl⟩
                    go_wp2_with fail
                    go_ret3
                    exact ⟨by rw [Hf2.out, hx.out]; rfl, rfl⟩
                · have hk0 : ¬ 0 < k := hfz.out hz0
                  cases hnum : Wr.isNum x
                  · have Hn := Lib.hid hnum
                    have Hf2 : Hid (Wr.getN s.data.toList (a : Int) = (0, 0, 201)) := by show Wr.getN _ _ = _; rw [Hfin.out, Hn.out]; rfl
                    clear hnum Hfin
                    go_wp2_with fail
                    refine (number_at _ false (by rw [← hx.out]; exact Hn.out) _).mono ?_
                    rintro e w' ⟨rfl, rfl⟩
                    go_wp2_with fail
                    go_ret3
                    exact ⟨by rw [Hf2.out]; rfl, rfl⟩
                  · have Hn := Lib.hid hnum
                    have Hf2 : Hid (Wr.getN s.data.toList (a : Int) = (x, ((m + 1 : Nat) : Int), 0)) := by show Wr.getN _ _ = _; rw [Hfin.out, Hn.out]; rfl
                    clear hnum Hfin
                    go_wp2_with fail
                    refine (number_at _ true (by rw [← hx.out]; exact Hn.out) _).mono ?_
                    rintro e w' ⟨rfl, rfl⟩
                    go_wp2_with fail
                    go_ret3
                    exact ⟨by rw [Hf2.out, hx.out]; rfl, rfl⟩
              · have hx := Lib.hid (heven hpar)
                have hl : (((u1 : Int) % 2) == 1) = false := beq_eq_false_iff_ne.2 (by omega)
                clear hodd heven hpar
                cases hz0 : ((s[m].toNat : Int) == 0)
                · cases hnum : Wr.isNum x
                  · have Hn := Lib.hid hnum
                    have Hf2 : Hid (Wr.getN s.data.toList (a : Int) = (0, 0, 201)) := by show Wr.getN _ _ = _; rw [Hfin.out, Hn.out]; rfl
                    clear hnum Hfin
                    go_wp2_with fail
                    refine (number_at _ false (by rw [← hx.out]; exact Hn.out) _).mono ?_
                    rintro e w' ⟨rfl, rfl⟩
                    go_wp2_with fail
                    go_ret3
                    exact ⟨by rw [Hf2.out]; rfl, rfl⟩
                  · have Hn := Lib.hid hnum
                    have Hf2 : Hid (Wr.getN s.data.toList (a : Int) = (x, ((m + 1 : Nat) : Int), 0)) := by show Wr.getN _ _ = _; rw [Hfin.out, Hn.out]; rfl
                    clear hnum Hfin
                    go_wp2_with fail
                    refine (number_at _ true (by rw [← hx.out]; exact Hn.out) _).mono ?_
                    rintro e w' ⟨rfl, rfl⟩
                    go_wp2_with fail
                    go_ret3
                    exact ⟨by rw [Hf2.out, hx.out]; rfl, rfl⟩
                · have hk0 : ¬ 0 < k := hfz.out hz0
                  cases hnum : Wr.isNum x
                  · have Hn := Lib.hid hnum
                    have Hf2 : Hid (Wr.getN s.data.toList (a : Int) = (0, 0, 201)) := by show Wr.getN _ _ = _; rw [Hfin.out, Hn.out]; rfl
                    clear hnum Hfin
                    go_wp2_with fail
                    refine (number_at _ false (by rw [← hx.out]; exact Hn.out) _).mono ?_
                    rintro e w' ⟨rfl, rfl⟩
                    go_wp2_with fail
                    go_ret3
                    exact ⟨by rw [Hf2.out]; rfl, rfl⟩
                  · have Hn := Lib.hid hnum
                    have Hf2 : Hid (Wr.getN s.data.toList (a : Int) = (x, ((m + 1 : Nat) : Int), 0)) := by show Wr.getN _ _ = _; rw [Hfin.out, Hn.out]; rfl
                    clear hnum Hfin
                    go_wp2_with fail
                    refine (number_at _ true (by rw [← hx.out]; exact Hn.out) _).mono ?_
                    rintro e w' ⟨rfl, rfl⟩
                    go_wp2_with fail
                    go_ret3
                    exact ⟨by rw [Hf2.out, hx.out]; rfl, rfl⟩
end Go.Proofs.Ythdbmgjlegpbaaa
