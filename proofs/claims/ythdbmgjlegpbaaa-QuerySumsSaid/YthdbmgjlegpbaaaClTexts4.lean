/- The walk through column.GetTexts. -/
import Derived.Test.YthdbmgjlegpbaaaClTexts3
namespace Go.Proofs.Ythdbmgjlegpbaaa
open Go.RowKit
set_option linter.unusedVariables false

set_option maxRecDepth 100000 in
set_option maxHeartbeats 2000000 in
theorem getTexts_any (s : ByteArray) (a many : Int) (w : World) (hs : s.size ≤ 4611686018427387904) (ha : -9223372036854775808 ≤ a ∧ a ≤ 9223372036854775807) :
    Calls Try.prog 17 #[.string s, .int .i64 a, .int .i64 many] w (TextsPost w (Cl.getTexts s a many)) := by
  obtain ⟨i0, hi, hz0, hz1, hz2⟩ := info_parts info_string
  by_cases hno : many < 0 ∨ 65536 < many ∨ a < 0 ∨ (s.size : Int) < a
  · have HR := Lib.hid (getTexts_no hno)
    generalize Cl.getTexts s a many = res at *
    by_cases h1 : many < 0
    · clear hno
      go_enter Try.func17, Try.ntmps17
      go_wp2_with fail
      go_ret3
      exact ⟨_, by rw [HR.out]; rfl, by rw [HR.out]; exact own_nil _ _ _ _, Below.refl _ _⟩
    · by_cases h2 : 65536 < many
      · clear hno
        go_enter Try.func17, Try.ntmps17
        go_wp2_with fail
        go_ret3
        exact ⟨_, by rw [HR.out]; rfl, by rw [HR.out]; exact own_nil _ _ _ _, Below.refl _ _⟩
      · by_cases h3 : a < 0
        · clear hno
          go_enter Try.func17, Try.ntmps17
          go_wp2_with fail
          go_ret3
          exact ⟨_, by rw [HR.out]; rfl, by rw [HR.out]; exact own_nil _ _ _ _, Below.refl _ _⟩
        · have h4 : (s.size : Int) < a := by omega
          clear hno
          go_enter Try.func17, Try.ntmps17
          go_wp2_with fail
          go_ret3
          exact ⟨_, by rw [HR.out]; rfl, by rw [HR.out]; exact own_nil _ _ _ _, Below.refl _ _⟩
  · obtain ⟨n, rfl⟩ : ∃ n : Nat, many = n := ⟨many.toNat, by omega⟩
    have hn : n ≤ 65536 := by omega
    have haa : 0 ≤ a ∧ a ≤ (s.size : Int) := by omega
    have HH := @getTexts_head s a (n : Int)
    have W1 := fun (k : Nat) (to : Int) (hg : Wr.getN s.data.toList a = ((k : Int), to, 0)) (hk : k ≤ n) => @getTexts_wn s a to n k hn haa hg hk
    have W2 := fun (k : Nat) (to : Int) (hg : Wr.getN s.data.toList a = ((k : Int), to, 0)) (hk : k ≤ n) => @getTexts_pn s a to n k hn haa hg hk
    have W3 := fun (k : Nat) (to : Int) (hg : Wr.getN s.data.toList a = ((k : Int), to, 0)) (hk : k ≤ n) => @getTexts_un s a to n k hn haa hg hk
    have W4 := fun (k : Nat) (to : Int) (hg : Wr.getN s.data.toList a = ((k : Int), to, 0)) (hk : k ≤ n) => @getTexts_ok s a to n k hn haa hg hk
    have d0 : decide ((n : Int) < 0) = false := decide_eq_false (by omega)
    have d1 : decide (65536 < (n : Int)) = false := decide_eq_false (by omega)
    have d2 : decide (a < 0) = false := decide_eq_false (by omega)
    have d3 : decide ((s.size : Int) < a) = false := decide_eq_false (by omega)
    have HR0 := Lib.hid (RdAt.new w s a)
    have Hb0 : Hid (Below w.heap.size w (w.alloc (.cells #[.string s, .int .i64 a, .bool false] 83))) := (Below.refl _ _).alloc (Nat.le_refl _) _
    have Hz : Hid ((w.alloc (.cells #[.string s, .int .i64 a, .bool false] 83)).heap.size = w.heap.size + 1) := by simp [Hid]
    have hbd := getN_bd' s a hs
    have hdef : Pt.rdNum s 0 (n : Int) (a, false) = if (Wr.getN s.data.toList a).2.2 ≠ 0 ∨ (Wr.getN s.data.toList a).1 < 0 ∨ (n : Int) < (Wr.getN s.data.toList a).1 ∨ false = true then (0, (a, true)) else ((Wr.getN s.data.toList a).1, ((Wr.getN s.data.toList a).2.1, false)) := rfl
    have H0 := Lib.hid (readerNum_any s a false 0 (n : Int) _ w.heap.size HR0.out (by omega) ha)
    clear hno
    generalize Cl.getTexts s a (n : Int) = res at *
    generalize Pt.rdNum s 0 (n : Int) (a, false) = Y at *
    generalize Wr.getN s.data.toList a = X at *
    obtain ⟨kI, to, e0⟩ := X
    simp only at HH hbd hdef
    obtain ⟨hb1, hb2⟩ := hbd
    by_cases hbad : e0 ≠ 0 ∨ kI < 0 ∨ (n : Int) < kI
    · have HR : Hid (res = noTexts) := HH hbad
      rw [if_pos (by rcases hbad with h | h | h; exact .inl h; exact .inr (.inl h); exact .inr (.inr (.inl h)))] at hdef
      subst hdef
      clear HH W1 W2 W3 W4 hbad
      go_enter Try.func17, Try.ntmps17
      go_wp2_with fail
      refine H0.out.mono ?_
      rintro e w1 ⟨rfl, hR1, ho1⟩
      have HR1 := Lib.hid hR1
      have Hb1 : Hid (Below w.heap.size w w1) := Hb0.out.trans (ho1.below (fun j hj e => by omega) (by have := Hz.out; omega))
      clear hR1 ho1 H0 HR0 Hb0 Hz
      generalize hgg : w.heap.size = g at *
      have Hgg := Lib.hid hgg
      clear hgg
      go_wp2_with fail
      go_loop [10, 12, 38] (fun vw _ i => vw = .slice none 0 0 ∧ i = .int .i64 0) (fun _ _ _ => 0)
      case atStart => exact ⟨rfl, rfl⟩
      case round =>
        obtain ⟨rfl, rfl⟩ := hrel
        go_wp2_with fail
        go_loop [11, 13, 14, 57] (fun vo vc _ i => vo = .slice none 0 0 ∧ vc = .int .i64 0 ∧ i = .int .i64 0) (fun _ _ _ _ => 0)
        case atStart => exact ⟨rfl, rfl, rfl⟩
        case round =>
          obtain ⟨rfl, rfl, rfl⟩ := hrel
          have hc2 := HR1.out.cell2
          simp only at hc2
          by_cases hn0 : 0 < n
          · have hnn : (0 : Int) < (n : Int) := by omega
            go_wp2_with fail
            refine (readerNum_any s a true 0 _ w1 g HR1.out (by omega) ha).mono ?_
            rintro e w2 ⟨rfl, hR2, ho2⟩
            rw [Pt.rdNum_bad] at hR2
            have hc3 := hR2.cell2
            have Hb2 : Hid (Below g w w2) := Hb1.out.trans (ho2.below (fun j hj e => by omega) (by have := HR1.out.lt; omega))
            simp only at hc3
            clear hR2 ho2 hc2
            go_wp2_with fail
            go_ret3
            exact ⟨_, by rw [HR.out]; rfl, by rw [HR.out]; exact own_nil _ _ _ _, by rw [Hgg.out]; exact Hb2.out⟩
          · have hnn : ¬ (0 : Int) < (n : Int) := by omega
            go_wp2_with fail
            go_ret3
            exact ⟨_, by rw [HR.out]; rfl, by rw [HR.out]; exact own_nil _ _ _ _, by rw [Hgg.out]; exact Hb1.out⟩
    · obtain rfl : e0 = 0 := by
        by_cases h : e0 = 0
        · exact h
        · exact absurd (.inl h) hbad
      rw [if_neg (by simp; omega)] at hdef
      subst hdef
      obtain ⟨k, rfl⟩ : ∃ k : Nat, kI = k := ⟨kI.toNat, by omega⟩
      have hkn : k ≤ n := by omega
      have H1 := Lib.hid (W1 k to rfl hkn)
      have H2 := Lib.hid (fun ws b => @W2 k to rfl hkn ws b)
      have H3 := Lib.hid (fun ws l b c u => @W3 k to rfl hkn ws l b c u)
      have H4 := Lib.hid (fun ws l b c u => @W4 k to rfl hkn ws l b c u)
      clear hbad HH W1 W2 W3 W4
      go_enter Try.func17, Try.ntmps17
      go_wp2_with fail
      refine H0.out.mono ?_
      rintro e w1 ⟨rfl, hR1, ho1⟩
      have HR1 := Lib.hid hR1
      have Hb1 : Hid (Below w.heap.size w w1) := Hb0.out.trans (ho1.below (fun j hj e => by omega) (by have := Hz.out; omega))
      clear hR1 ho1 H0 HR0 Hb0 Hz
      generalize hgg : w.heap.size = g at *
      have Hgg := Lib.hid hgg
      clear hgg
      go_wp2_with fail
      go_loopw [10, 12, 38] (fun vw _ i wr => ∃ (j : Nat) (ws : List ByteArray) (a' : Int), j ≤ k ∧ i = .int .i64 (j : Int) ∧ ws.length ≤ j ∧ Hid (ws.length = j) ∧ (-9223372036854775808 ≤ a' ∧ a' ≤ 9223372036854775807) ∧ Hid (Cl.rdWords s k [] to = Cl.rdWords s (k - j) ws a') ∧ Hid (RdAt wr g s (a', false)) ∧ Hid (wr.ownsRow (g + 1) 9 1 vw ws.length (ws.map Value.string)) ∧ Hid (Below g w wr)) (fun _ _ i _ => k - (intOf i).toNat)
      case atStart => exact ⟨0, [], to, Nat.zero_le _, rfl, Nat.le_refl _, Lib.hid rfl, hb1, Lib.hid (by simp), HR1, Lib.hid (own_nil _ _ _ _), Hb1⟩
      case round =>
        obtain ⟨j, ws, a', hj, rfl, hwl2, HWl, ha', hrel, hR, hown, hbw⟩ := hrel
        obtain ⟨Wo, hWo⟩ : ∃ Wo, Wo = wr := ⟨_, rfl⟩
        subst hWo
        have hgl := hR.out.lt
        obtain ⟨Aw, cw, rfl, hnc, hrw⟩ := own_slice hown.out
        by_cases hlt : j < k
        · have G1 := Lib.hid (readerText_any s a' false 12 Wo g hR.out hs ha' (by omega))
          have hT := Pt.getT_at s a' 12
          have HSt := Lib.hid (fun h => H1.out (wd_stop hlt hrel.out h))
          have HGo := Lib.hid (fun x nx h h2 => wd_step (x := x) (nx := nx) hlt hrel.out h h2)
          have hdef : Pt.rdText s 12 (a', false) = if (Wr.getT s a' 12).2.2 ≠ 0 ∨ false = true then (⟨#[]⟩, (a', true)) else ((Wr.getT s a' 12).1, ((Wr.getT s a' 12).2.1, false)) := rfl
          clear hrel H1 H2 H3 H4
          generalize Pt.rdText s 12 (a', false) = Y at *
          generalize Wr.getT s a' 12 = T at *
          obtain ⟨x, nx, e1⟩ := T
          simp only at hT HSt hdef
          by_cases he1 : e1 = 0
          · subst he1
            rw [if_neg (by simp)] at hdef
            subst hdef
            have hxs : x.size ≤ s.size := hT.2.2
            by_cases hix : Cl.idx ws x < ws.length
            · have HR := Lib.hid (HSt.out (.inr hix))
              have hdx : decide (Cl.idx ws x < ws.length) = true := decide_eq_true hix
              clear HSt HGo hrw
              go_wp2_with fail
              refine G1.out.mono ?_
              rintro e w2 ⟨rfl, hR2, ho2⟩
              have hc2 := hR2.cell2
              have Ho2 := Lib.hid (own_only hown.out ho2 (fun g' hg' e => own_ne_lt hown.out (Nat.lt_succ_self g) (by rw [hg', e])))
              have Hb2 : Hid (Below g w w2) := hbw.out.trans (ho2.below (fun j hj e => by omega) (by omega))
              have G2 := Lib.hid (contains_any Aw cw ws x w2 w2.heap.size (Reads.of_own Ho2.out) (by omega))
              rw [hdx] at G2
              simp only at hc2
              clear hR2 ho2 hdx hix
              go_wp2_with fail
              refine G2.out.mono ?_
              rintro e w' ⟨rfl, rfl⟩
              go_wp2_with fail
              go_ret3
              exact ⟨_, by rw [HR.out]; rfl, by rw [HR.out]; exact own_nil _ _ _ _, by rw [Hgg.out]; exact Hb2.out⟩
            · have HR := Lib.hid (HGo.out x nx rfl hix)
              have hdx : decide (Cl.idx ws x < ws.length) = false := decide_eq_false hix
              clear HSt HGo hrw hix
              go_wp2_with fail
              refine G1.out.mono ?_
              rintro e w2 ⟨rfl, hR2, ho2⟩
              have hc2 := hR2.cell2
              have HR2 := Lib.hid hR2
              have Ho2 := Lib.hid (own_only hown.out ho2 (fun g' hg' e => own_ne_lt hown.out (Nat.lt_succ_self g) (by rw [hg', e])))
              have Hb2 : Hid (Below g w w2) := hbw.out.trans (ho2.below (fun j hj e => by omega) (by omega))
              have G2 := Lib.hid (contains_any Aw cw ws x w2 w2.heap.size (Reads.of_own Ho2.out) (by omega))
              rw [hdx] at G2
              have hs2 := HR2.out.lt
              simp only at hc2
              clear hR2 ho2 hdx
              go_wp2_with fail
              refine G2.out.mono ?_
              rintro e w' ⟨rfl, rfl⟩
              go_wp2_with (at_builtin; refine wpList_push_only _ rfl _ _ 24 rfl (g + 1) 9 i0 _ 1 16 Try.underlying24 hi hz0 hz1 hz2 rfl (by decide) _ ws.length _ (by rfl) Ho2.out [.string x] (by rfl) rfl (by simp [Value.oneCell']) (by unfold maxLen; omega) (by omega) (by omega) ?_; intro v8 w8 hown8 ho8 _)
              have Hown8 : Hid (w8.ownsRow (g + 1) 9 1 v8 (ws ++ [x]).length ((ws ++ [x]).map Value.string)) := by
                show World.ownsRow _ _ _ _ _ _ _
                rw [List.length_append, List.map_append]; exact hown8
              have HR8 : Hid (RdAt w8 g s (nx, false)) := HR2.out.only ho8 (own_ne_lt Ho2.out (Nat.lt_succ_self g))
              have Hb8 : Hid (Below g w w8) := Hb2.out.trans (ho8.below (fun j hj e => own_ne_lt Ho2.out (by omega) e) (by omega))
              have hwl3 : Hid ((ws ++ [x]).length = j + 1) := by show _ = _; rw [List.length_append, HWl.out]; rfl
              have hwl4 : (ws ++ [x]).length ≤ j + 1 := by simp; omega
              clear hown8 ho8
              go_wp2_with fail
              go_roundw
              case rel => exact ⟨j + 1, ws ++ [x], nx, by omega, by go_num, hwl4, hwl3, by omega, HR, HR8, Hown8, Hb8⟩
              case measure => simp [intOf]; omega
          · rw [if_pos (.inl he1)] at hdef
            subst hdef
            have HR := Lib.hid (HSt.out (.inl he1))
            clear HSt HGo he1 hrw
            go_wp2_with fail
            refine G1.out.mono ?_
            rintro e w2 ⟨rfl, hR2, ho2⟩
            have hc2 := hR2.cell2
            have Hb2 : Hid (Below g w w2) := hbw.out.trans (ho2.below (fun j hj e => by omega) (by omega))
            simp only at hc2
            clear hR2 ho2
            go_wp2_with fail
            go_ret3
            exact ⟨_, by rw [HR.out]; rfl, by rw [HR.out]; exact own_nil _ _ _ _, by rw [Hgg.out]; exact Hb2.out⟩
        · have hwd := wd_done hlt hrel.out
          have HP2 := Lib.hid (fun h => H2.out ws a' hwd h)
          have HP3 := Lib.hid (fun l c u h hu => H3.out ws l a' c u hwd h hu)
          have HP4 := Lib.hid (fun l c u h hu => H4.out ws l a' c u hwd h hu)
          clear hrel H1 H2 H3 H4 hwd
          have Hrw := Lib.hid hrw
          clear hrw
          go_wp2_with fail
          go_loopw [11, 13, 14, 57] (fun vo vc _ i wr => ∃ (q used : Nat) (out : List ByteArray) (b' : Int), q ≤ n ∧ i = .int .i64 (q : Int) ∧ vc = .int .i64 (used : Int) ∧ used ≤ q ∧ out.length ≤ q ∧ (-9223372036854775808 ≤ b' ∧ b' ≤ 9223372036854775807) ∧ Hid (Cl.rdPlaces s.data.toList ws n 0 a' = (Cl.rdPlaces s.data.toList ws (n - q) used b').map fun r => (out ++ r.1, r.2)) ∧ Hid (RdAt wr g s (b', false)) ∧ Hid (wr.ownsRow Wo.heap.size 9 1 vo out.length (out.map Value.string)) ∧ Hid (Only (fun k => k = g) Wo wr)) (fun _ _ _ i _ => n - (intOf i).toNat)
          case atStart => exact ⟨0, 0, [], a', Nat.zero_le _, rfl, rfl, Nat.le_refl _, by simp, ha', Lib.hid (by simp), hR, Lib.hid (own_nil _ _ _ _), Lib.hid (Only.refl _ _)⟩
          case round =>
            obtain ⟨q, used, out, b', hq, rfl, rfl, huq, hol, hb', hrel, hRq, howno, hoq⟩ := hrel
            have hgr := hRq.out.lt
            by_cases hlt2 : q < n
            · have G1 := Lib.hid (readerNum_any s b' false 0 (min (used : Int) ((ws.length : Int) - 1)) wr g hRq.out (by omega) hb')
              have hbd := getN_bd' s b' hs
              have HSt := Lib.hid (fun h => HP2.out (pl_stop hlt2 hrel.out h))
              have HGo := Lib.hid (fun (x : Nat) nx h (h1 : x < ws.length) h2 => pl_step (x := x) (nx := nx) hlt2 hrel.out h h1 h2)
              have hdef : Pt.rdNum s 0 (min (used : Int) ((ws.length : Int) - 1)) (b', false) = if (Wr.getN s.data.toList b').2.2 ≠ 0 ∨ (Wr.getN s.data.toList b').1 < 0 ∨ (min (used : Int) ((ws.length : Int) - 1)) < (Wr.getN s.data.toList b').1 ∨ false = true then (0, (b', true)) else ((Wr.getN s.data.toList b').1, ((Wr.getN s.data.toList b').2.1, false)) := rfl
              clear hrel HP2 HP3 HP4
              generalize Pt.rdNum s 0 (min (used : Int) ((ws.length : Int) - 1)) (b', false) = Y at *
              generalize Wr.getN s.data.toList b' = X at *
              obtain ⟨xI, nx, e2⟩ := X
              simp only at hbd HSt hdef
              obtain ⟨hb3, hb4⟩ := hbd
              by_cases hbad : e2 ≠ 0 ∨ xI < 0 ∨ (ws.length : Int) ≤ xI ∨ (used : Int) < xI
              · have HR := Lib.hid (HSt.out hbad)
                rw [if_pos (by
                  rcases hbad with h | h | h | h
                  · exact .inl h
                  · exact .inr (.inl h)
                  · exact .inr (.inr (.inl (by omega)))
                  · exact .inr (.inr (.inl (by omega))))] at hdef
                subst hdef
                clear HSt HGo hbad
                go_wp2_with fail
                refine G1.out.mono ?_
                rintro e w2 ⟨rfl, hR2, ho2⟩
                have hc2 := hR2.cell2
                have Hb2 : Hid (Below g w w2) := hbw.out.trans ((hoq.out.below (fun j hj e => by omega) (by omega)).trans (ho2.below (fun j hj e => by omega) (by omega)))
                simp only at hc2
                clear hR2 ho2
                go_wp2_with fail
                go_ret3
                exact ⟨_, by rw [HR.out]; rfl, by rw [HR.out]; exact own_nil _ _ _ _, by rw [Hgg.out]; exact Hb2.out⟩
              · obtain rfl : e2 = 0 := by
                  by_cases h : e2 = 0
                  · exact h
                  · exact absurd (.inl h) hbad
                rw [if_neg (by simp; omega)] at hdef
                subst hdef
                obtain ⟨x, rfl⟩ : ∃ x : Nat, xI = x := ⟨xI.toNat, by omega⟩
                have hxw : x < ws.length := by omega
                have hxu : x ≤ used := by omega
                have HR := Lib.hid (HGo.out x nx rfl hxw hxu)
                clear HSt HGo hbad
                go_wp2_with fail
                refine G1.out.mono ?_
                rintro e w2 ⟨rfl, hR2, ho2⟩
                have hc2 := hR2.cell2
                have HR2 := Lib.hid hR2
                have HO2 : Hid (Only (fun k => k = g) Wo w2) := hoq.out.trans ho2 (fun _ _ h => h)
                have Ho2 := Lib.hid (own_only howno.out ho2 (fun g' hg' e => own_ne_lt howno.out hgl (by rw [hg', e])))
                have hw2 := own_only hown.out HO2.out (fun g' hg' e => own_ne_lt hown.out (Nat.lt_succ_self g) (by rw [hg', e]))
                have hrw2 := Reads.of_own hw2
                obtain ⟨bw, ow, rfl, hbw2, hcw⟩ := hrw2.2 (by omega)
                have hcellw := map_cell (wr := w2) (B := w2.heap.size) hxw hcw (fun p hp => rfl) hbw2
                have hs2 := HO2.out.size
                simp only at hc2
                clear hR2 ho2 hw2 hrw2 hcw
                generalize ws[x] = y at *
                by_cases heq : x = used
                · subst heq
                  rw [if_pos rfl] at HR
                  go_wp2_with (at_builtin; refine wpList_push_only _ rfl _ _ 24 rfl Wo.heap.size 9 i0 _ 1 16 Try.underlying24 hi hz0 hz1 hz2 rfl (by decide) _ out.length _ (by rfl) Ho2.out [.string y] (by rfl) rfl (by simp [Value.oneCell']) (by unfold maxLen; omega) (by omega) (by omega) ?_; intro v8 w8 hown8 ho8 _)
                  have Hown8 : Hid (w8.ownsRow Wo.heap.size 9 1 v8 (out ++ [y]).length ((out ++ [y]).map Value.string)) := by
                    show World.ownsRow _ _ _ _ _ _ _
                    rw [List.length_append, List.map_append]; exact hown8
                  have HR8 : Hid (RdAt w8 g s (nx, false)) := HR2.out.only ho8 (own_ne_lt Ho2.out hgl)
                  have HO8 : Hid (Only (fun k => k = g) Wo w8) := HO2.out.trans ho8 (fun j hj e => absurd e (own_ne_lt Ho2.out hj))
                  have hol2 : (out ++ [y]).length ≤ q + 1 := by simp; omega
                  clear hown8 ho8
                  go_wp2_with fail
                  go_roundw
                  case rel => exact ⟨q + 1, x + 1, out ++ [y], nx, by omega, by go_num, by first | rfl | (show Value.int .i64 _ = Value.int .i64 _; congr 1; omega), by omega, hol2, hb3, HR, HR8, Hown8, HO8⟩
                  case measure => simp [intOf]; omega
                · rw [if_neg heq] at HR
                  have hlu : x < used := by omega
                  clear heq
                  go_wp2_with (at_builtin; refine wpList_push_only _ rfl _ _ 24 rfl Wo.heap.size 9 i0 _ 1 16 Try.underlying24 hi hz0 hz1 hz2 rfl (by decide) _ out.length _ (by rfl) Ho2.out [.string y] (by rfl) rfl (by simp [Value.oneCell']) (by unfold maxLen; omega) (by omega) (by omega) ?_; intro v8 w8 hown8 ho8 _)
                  have Hown8 : Hid (w8.ownsRow Wo.heap.size 9 1 v8 (out ++ [y]).length ((out ++ [y]).map Value.string)) := by
                    show World.ownsRow _ _ _ _ _ _ _
                    rw [List.length_append, List.map_append]; exact hown8
                  have HR8 : Hid (RdAt w8 g s (nx, false)) := HR2.out.only ho8 (own_ne_lt Ho2.out hgl)
                  have HO8 : Hid (Only (fun k => k = g) Wo w8) := HO2.out.trans ho8 (fun j hj e => absurd e (own_ne_lt Ho2.out hj))
                  have hol2 : (out ++ [y]).length ≤ q + 1 := by simp; omega
                  clear hown8 ho8
                  go_wp2_with fail
                  go_roundw
                  case rel => exact ⟨q + 1, used, out ++ [y], nx, by omega, by go_num, by first | rfl | (show Value.int .i64 _ = Value.int .i64 _; congr 1; omega), by omega, hol2, hb3, HR, HR8, Hown8, HO8⟩
                  case measure => simp [intOf]; omega
            · have hpd := pl_done hlt2 hrel.out
              have hc2 := hRq.out.cell2
              have hc1 := hRq.out.cell1
              have Hbf : Hid (Below g w wr) := hbw.out.trans (hoq.out.below (fun j hj e => by omega) (by omega))
              simp only at hc2 hc1
              by_cases hu : used = ws.length
              · have HR := Lib.hid (HP4.out out b' used hpd hu)
                have hzz : ((used : Int) != (ws.length : Int)) = false := by simp; omega
                clear hrel HP2 HP3 HP4 hpd hu
                obtain ⟨Ao, co, rfl, hno, _⟩ := own_slice howno.out
                go_wp2_with fail
                go_quiet (fail)
                go_wp2_with fail
                go_ret3
                exact ⟨_, by rw [HR.out]; rfl, by rw [HR.out, Hgg.out]; exact own_drewN (own_down howno.out (by omega)) _, by rw [Hgg.out]; exact below_drewN Hbf.out _⟩
              · have HR := Lib.hid (HP3.out out b' used hpd hu)
                have hzz : ((used : Int) != (ws.length : Int)) = true := by simp; omega
                clear hrel HP2 HP3 HP4 hpd hu
                go_wp2_with fail
                go_ret3
                exact ⟨_, by rw [HR.out]; rfl, by rw [HR.out]; exact own_nil _ _ _ _, by rw [Hgg.out]; exact Hbf.out⟩
end Go.Proofs.Ythdbmgjlegpbaaa
