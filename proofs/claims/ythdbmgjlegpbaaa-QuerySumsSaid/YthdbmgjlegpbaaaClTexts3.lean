/- The walks through GetTexts of column and of its reference. -/
import Derived.Test.YthdbmgjlegpbaaaClTexts2
namespace Go.Proofs.Ythdbmgjlegpbaaa
open Go.RowKit
set_option linter.unusedVariables false

abbrev noTexts : List ByteArray × Int × Int := ([], 0, 1200)
theorem getTexts_no {s : ByteArray} {a many : Int} (h : many < 0 ∨ 65536 < many ∨ a < 0 ∨ (s.size : Int) < a) : Cl.getTexts s a many = noTexts := by
  unfold Cl.getTexts; rw [if_pos h]
theorem getTexts_head {s : ByteArray} {a many : Int} (h : (Wr.getN s.data.toList a).2.2 ≠ 0 ∨ (Wr.getN s.data.toList a).1 < 0 ∨ many < (Wr.getN s.data.toList a).1) : Cl.getTexts s a many = noTexts := by
  unfold Cl.getTexts
  by_cases h1 : many < 0 ∨ 65536 < many ∨ a < 0 ∨ (s.size : Int) < a
  · rw [if_pos h1]
  · rw [if_neg h1, if_pos h]
section
variable {s : ByteArray} {a to : Int} {n k : Nat} (hn : n ≤ 65536) (ha : 0 ≤ a ∧ a ≤ (s.size : Int)) (hg : Wr.getN s.data.toList a = ((k : Int), to, 0)) (hk : k ≤ n)
include hn ha hg hk
theorem getTexts_wn (h : Cl.rdWords s k [] to = none) : Cl.getTexts s a (n : Int) = noTexts := by
  unfold Cl.getTexts
  rw [if_neg (by omega), hg, if_neg (by simp; omega)]
  simp only [Int.toNat_natCast, h]
theorem getTexts_pn {ws : List ByteArray} {b : Int} (h : Cl.rdWords s k [] to = some (ws, b)) (h2 : Cl.rdPlaces s.data.toList ws n 0 b = none) : Cl.getTexts s a (n : Int) = noTexts := by
  unfold Cl.getTexts
  rw [if_neg (by omega), hg, if_neg (by simp; omega)]
  simp only [Int.toNat_natCast, h, h2]
theorem getTexts_un {ws l : List ByteArray} {b c : Int} {u : Nat} (h : Cl.rdWords s k [] to = some (ws, b)) (h2 : Cl.rdPlaces s.data.toList ws n 0 b = some (l, u, c)) (hu : u ≠ ws.length) : Cl.getTexts s a (n : Int) = noTexts := by
  unfold Cl.getTexts
  rw [if_neg (by omega), hg, if_neg (by simp; omega)]
  simp only [Int.toNat_natCast, h, h2, if_neg hu]
theorem getTexts_ok {ws l : List ByteArray} {b c : Int} {u : Nat} (h : Cl.rdWords s k [] to = some (ws, b)) (h2 : Cl.rdPlaces s.data.toList ws n 0 b = some (l, u, c)) (hu : u = ws.length) : Cl.getTexts s a (n : Int) = (l, c, 0) := by
  unfold Cl.getTexts
  rw [if_neg (by omega), hg, if_neg (by simp; omega)]
  simp only [Int.toNat_natCast, h, h2, if_pos hu]
end
theorem wd_step {s : ByteArray} {k j : Nat} {ws : List ByteArray} {a nx : Int} {x : ByteArray} {r : Option (List ByteArray × Int)} (hj : j < k) (hrel : r = Cl.rdWords s (k - j) ws a) (h : Wr.getT s a 12 = (x, nx, 0)) (hni : ¬ Cl.idx ws x < ws.length) : r = Cl.rdWords s (k - (j + 1)) (ws ++ [x]) nx := by
  rw [hrel, show k - j = (k - (j + 1)) + 1 from by omega, Cl.rdWords, h, if_pos ⟨rfl, hni⟩]
theorem wd_stop {s : ByteArray} {k j : Nat} {ws : List ByteArray} {a : Int} {r : Option (List ByteArray × Int)} (hj : j < k) (hrel : r = Cl.rdWords s (k - j) ws a) (h : (Wr.getT s a 12).2.2 ≠ 0 ∨ Cl.idx ws (Wr.getT s a 12).1 < ws.length) : r = none := by
  rw [hrel, show k - j = (k - (j + 1)) + 1 from by omega, Cl.rdWords, if_neg]
  rintro ⟨h1, h2⟩
  rcases h with h | h
  · exact h h1
  · exact h2 h
theorem wd_done {s : ByteArray} {k j : Nat} {ws : List ByteArray} {a : Int} {r : Option (List ByteArray × Int)} (hj : ¬ j < k) (hrel : r = Cl.rdWords s (k - j) ws a) : r = some (ws, a) := by
  rw [hrel, show k - j = 0 from by omega, Cl.rdWords]
theorem pl_step {l : List UInt8} {ws out : List ByteArray} {n j used : Nat} {a nx : Int} {x : Nat} {r : Option (List ByteArray × Nat × Int)} (hj : j < n) (hrel : r = (Cl.rdPlaces l ws (n - j) used a).map fun q => (out ++ q.1, q.2)) (h : Wr.getN l a = ((x : Int), nx, 0)) (hx : x < ws.length) (hu : x ≤ used) :
    r = (Cl.rdPlaces l ws (n - (j + 1)) (if x = used then used + 1 else used) nx).map fun q => ((out ++ [ws[x]]) ++ q.1, q.2) := by
  rw [hrel, show n - j = (n - (j + 1)) + 1 from by omega, Cl.rdPlaces, h, if_pos ⟨rfl, by simp, by simp; omega, by simp; omega⟩, Option.map_map]
  have e : (if ((x : Int), nx, (0 : Int)).1 = (used : Int) then used + 1 else used) = (if x = used then used + 1 else used) := by
    by_cases h : x = used
    · rw [if_pos h, if_pos (by simp [h])]
    · rw [if_neg h, if_neg (by simp; omega)]
  rw [e]
  congr 1
  funext q
  simp [List.getD_eq_getElem?_getD, List.getElem?_eq_getElem hx]
theorem pl_stop {l : List UInt8} {ws out : List ByteArray} {n j used : Nat} {a : Int} {r : Option (List ByteArray × Nat × Int)} (hj : j < n) (hrel : r = (Cl.rdPlaces l ws (n - j) used a).map fun q => (out ++ q.1, q.2)) (h : (Wr.getN l a).2.2 ≠ 0 ∨ (Wr.getN l a).1 < 0 ∨ (ws.length : Int) ≤ (Wr.getN l a).1 ∨ (used : Int) < (Wr.getN l a).1) : r = none := by
  rw [hrel, show n - j = (n - (j + 1)) + 1 from by omega, Cl.rdPlaces, if_neg]
  · rfl
  · rintro ⟨h1, h2, h3, h4⟩
    rcases h with h | h | h | h
    · exact h h1
    · omega
    · omega
    · omega
theorem pl_done {l : List UInt8} {ws out : List ByteArray} {n j used : Nat} {a : Int} {r : Option (List ByteArray × Nat × Int)} (hj : ¬ j < n) (hrel : r = (Cl.rdPlaces l ws (n - j) used a).map fun q => (out ++ q.1, q.2)) : r = some (out, used, a) := by
  rw [hrel, show n - j = 0 from by omega, Cl.rdPlaces]; simp
def TextsPost (w : World) (r : List ByteArray × Int × Int) (e : Ending) (w' : World) : Prop :=
  ∃ v, e = .returned (.tuple #[v, .int .i64 r.2.1, .int .i64 r.2.2]) ∧ w'.ownsRow w.heap.size 9 1 v r.1.length (r.1.map Value.string) ∧ Below w.heap.size w w'

set_option maxRecDepth 100000 in
set_option maxHeartbeats 2000000 in
theorem rgetTexts_any (s : ByteArray) (a many : Int) (w : World) (hs : s.size ≤ 4611686018427387904) (ha : -9223372036854775808 ≤ a ∧ a ≤ 9223372036854775807) :
    Calls Try.prog 69 #[.string s, .int .i64 a, .int .i64 many] w (TextsPost w (Cl.getTexts s a many)) := by
  obtain ⟨i0, hi, hz0, hz1, hz2⟩ := info_parts info_string
  have H0 := fun W => Lib.hid (rgetNum_any s a W (by omega) ha)
  have hbd := getN_bd' s a hs
  have hcs := Wr.getN_cases s.data.toList a
  have HH := @getTexts_head s a many
  by_cases hm : many < 0 ∨ 65536 < many
  · have HR := Lib.hid (getTexts_no (s := s) (a := a) (many := many) (by omega))
    generalize Cl.getTexts s a many = res at *
    generalize Wr.getN s.data.toList a = X at *
    obtain ⟨k, to, e0⟩ := X
    simp only [gnV] at H0
    clear HH hcs hbd
    by_cases h1 : many < 0
    · clear hm
      go_enter Try.func69, Try.ntmps69
      go_wp2_with fail
      refine (H0 _).out.mono ?_
      rintro e w' ⟨rfl, rfl⟩
      go_wp2_with fail
      go_ret3
      exact ⟨_, by rw [HR.out]; rfl, by rw [HR.out]; exact own_nil _ _ _ _, Below.refl _ _⟩
    · have h2 : 65536 < many := by omega
      clear hm
      go_enter Try.func69, Try.ntmps69
      go_wp2_with fail
      refine (H0 _).out.mono ?_
      rintro e w' ⟨rfl, rfl⟩
      go_wp2_with fail
      go_ret3
      exact ⟨_, by rw [HR.out]; rfl, by rw [HR.out]; exact own_nil _ _ _ _, Below.refl _ _⟩
  · obtain ⟨n, rfl⟩ : ∃ n : Nat, many = n := ⟨many.toNat, by omega⟩
    have hm0 : ¬ (n : Int) < 0 := by omega
    have hm1 : ¬ 65536 < (n : Int) := by omega
    have hn : n ≤ 65536 := by omega
    have hat : (Wr.getN s.data.toList a).2.2 = 0 → 0 ≤ a ∧ a ≤ (s.size : Int) := by
      intro h
      rcases hcs with ⟨e, hg, he⟩ | ⟨x, b, k, rfl, hg, _, _, hle, _⟩
      · rw [hg] at h; rcases he with rfl | rfl <;> simp at h
      · rw [Wr.len_list] at hle; omega
    have W1 := fun (k : Nat) (to : Int) (ha : 0 ≤ a ∧ a ≤ (s.size : Int)) (hg : Wr.getN s.data.toList a = ((k : Int), to, 0)) (hk : k ≤ n) => @getTexts_wn s a to n k hn ha hg hk
    have W2 := fun (k : Nat) (to : Int) (ha : 0 ≤ a ∧ a ≤ (s.size : Int)) (hg : Wr.getN s.data.toList a = ((k : Int), to, 0)) (hk : k ≤ n) => @getTexts_pn s a to n k hn ha hg hk
    have W3 := fun (k : Nat) (to : Int) (ha : 0 ≤ a ∧ a ≤ (s.size : Int)) (hg : Wr.getN s.data.toList a = ((k : Int), to, 0)) (hk : k ≤ n) => @getTexts_un s a to n k hn ha hg hk
    have W4 := fun (k : Nat) (to : Int) (ha : 0 ≤ a ∧ a ≤ (s.size : Int)) (hg : Wr.getN s.data.toList a = ((k : Int), to, 0)) (hk : k ≤ n) => @getTexts_ok s a to n k hn ha hg hk
    clear hcs hm
    generalize Cl.getTexts s a (n : Int) = res at *
    generalize Wr.getN s.data.toList a = X at *
    obtain ⟨kI, to, e0⟩ := X
    simp only [gnV] at H0 hbd HH hat
    obtain ⟨hb1, hb2⟩ := hbd
    by_cases hbad : e0 ≠ 0 ∨ kI < 0 ∨ (n : Int) < kI
    · have HR : Hid (res = noTexts) := HH hbad
      clear HH W1 W2 W3 W4 hat
      by_cases h1 : e0 = 0
      · have hz : (e0 != 0) = false := by simp [h1]
        have h2 : kI < 0 ∨ (n : Int) < kI := by
          rcases hbad with h | h | h
          · exact absurd h1 h
          · exact .inl h
          · exact .inr h
        clear h1 hbad
        by_cases h3 : kI < 0
        · clear h2
          go_enter Try.func69, Try.ntmps69
          go_wp2_with fail
          refine (H0 _).out.mono ?_
          rintro e w' ⟨rfl, rfl⟩
          go_wp2_with fail
          go_ret3
          exact ⟨_, by rw [HR.out]; rfl, by rw [HR.out]; exact own_nil _ _ _ _, Below.refl _ _⟩
        · have h4 : (n : Int) < kI := by omega
          clear h2
          go_enter Try.func69, Try.ntmps69
          go_wp2_with fail
          refine (H0 _).out.mono ?_
          rintro e w' ⟨rfl, rfl⟩
          go_wp2_with fail
          go_ret3
          exact ⟨_, by rw [HR.out]; rfl, by rw [HR.out]; exact own_nil _ _ _ _, Below.refl _ _⟩
      · have hz : (e0 != 0) = true := by simp [h1]
        clear h1 hbad
        go_enter Try.func69, Try.ntmps69
        go_wp2_with fail
        refine (H0 _).out.mono ?_
        rintro e w' ⟨rfl, rfl⟩
        go_wp2_with fail
        go_ret3
        exact ⟨_, by rw [HR.out]; rfl, by rw [HR.out]; exact own_nil _ _ _ _, Below.refl _ _⟩
    · obtain rfl : e0 = 0 := by
        by_cases h : e0 = 0
        · exact h
        · exact absurd (.inl h) hbad
      obtain ⟨k, rfl⟩ : ∃ k : Nat, kI = k := ⟨kI.toNat, by omega⟩
      have hkn : k ≤ n := by omega
      have H1 := Lib.hid (W1 k to (hat rfl) rfl hkn)
      have H2 := Lib.hid (fun ws b => @W2 k to (hat rfl) rfl hkn ws b)
      have H3 := Lib.hid (fun ws l b c u => @W3 k to (hat rfl) rfl hkn ws l b c u)
      have H4 := Lib.hid (fun ws l b c u => @W4 k to (hat rfl) rfl hkn ws l b c u)
      have d0 : decide ((n : Int) < 0) = false := decide_eq_false (by omega)
      have d1 : decide (65536 < (n : Int)) = false := decide_eq_false (by omega)
      have d2 : decide ((k : Int) < 0) = false := decide_eq_false (by omega)
      have d3 : decide ((n : Int) < (k : Int)) = false := decide_eq_false (by omega)
      have d4 : decide (n < k) = false := decide_eq_false (by omega)
      clear hbad HH W1 W2 W3 W4 hat hm0 hm1
      go_enter Try.func69, Try.ntmps69
      go_wp2_with fail
      refine (H0 _).out.mono ?_
      rintro e w' ⟨rfl, rfl⟩
      go_wp2_with fail
      go_loopw [10, 12, 14, 15, 16, 17] (fun vt vw i _ _ _ wr => ∃ (j : Nat) (ws : List ByteArray) (a' : Int), j ≤ k ∧ i = .int .i64 (j : Int) ∧ vt = .int .i64 a' ∧ ws.length = j ∧ (-9223372036854775808 ≤ a' ∧ a' ≤ 9223372036854775807) ∧ Hid (Cl.rdWords s k [] to = Cl.rdWords s (k - j) ws a') ∧ Hid (wr.ownsRow w.heap.size 9 1 vw ws.length (ws.map Value.string)) ∧ Hid (Below w.heap.size w wr)) (fun _ _ i _ _ _ _ => k - (intOf i).toNat)
      case atStart => exact ⟨0, [], to, Nat.zero_le _, rfl, rfl, rfl, hb1, Lib.hid (by simp), Lib.hid (own_nil _ _ _ _), Lib.hid (Below.refl _ _)⟩
      case round =>
        obtain ⟨j, ws, a', hj, rfl, rfl, hwl, ha', hrel, hown, hbw⟩ := hrel
        have HWl := Lib.hid hwl
        have hwl2 : ws.length ≤ j := by omega
        clear hwl
        obtain ⟨Wo, hWo⟩ : ∃ Wo, Wo = wr := ⟨_, rfl⟩
        subst hWo
        have hso := hbw.out.size
        obtain ⟨Aw, cw, rfl, hnc, hrw⟩ := own_slice hown.out
        by_cases hlt : j < k
        · have G1 := fun W => Lib.hid (rgetText_any s a' 12 W hs ha' (by omega))
          have hT := Pt.getT_at s a' 12
          have HSt := Lib.hid (fun h => H1.out (wd_stop hlt hrel.out h))
          have HGo := Lib.hid (fun x nx h h2 => wd_step (x := x) (nx := nx) hlt hrel.out h h2)
          clear hrel H1 H2 H3 H4
          generalize Wr.getT s a' 12 = T at *
          obtain ⟨x, nx, e1⟩ := T
          simp only [gtV] at G1 hT HSt
          by_cases he1 : e1 = 0
          · subst he1
            have G2 := Lib.hid (place_any Aw cw ws x Wo Wo.heap.size hrw (by omega))
            clear hrw
            by_cases hix : Cl.idx ws x < ws.length
            · have HR := Lib.hid (HSt.out (.inr hix))
              have hpl : Cl.placeI ws x = (Cl.idx ws x : Int) := by unfold Cl.placeI; rw [if_pos hix]
              rw [hpl] at G2
              clear HSt HGo hpl
              go_wp2_with fail
              refine (G1 _).out.mono ?_
              rintro e w' ⟨rfl, rfl⟩
              go_wp2_with fail
              refine G2.out.mono ?_
              rintro e w' ⟨rfl, rfl⟩
              go_wp2_with fail
              go_ret3
              exact ⟨_, by rw [HR.out]; rfl, by rw [HR.out]; exact own_nil _ _ _ _, hbw.out⟩
            · have HR := Lib.hid (HGo.out x nx rfl hix)
              have hpl : Cl.placeI ws x = -1 := by unfold Cl.placeI; rw [if_neg hix]
              rw [hpl] at G2
              clear HSt HGo hpl hix
              go_wp2_with fail
              refine (G1 _).out.mono ?_
              rintro e w' ⟨rfl, rfl⟩
              go_wp2_with fail
              refine G2.out.mono ?_
              rintro e w' ⟨rfl, rfl⟩
              go_wp2_with (at_builtin; refine wpList_push _ rfl _ _ 24 rfl w.heap.size 9 i0 _ 1 16 Try.underlying24 hi hz0 hz1 hz2 rfl (by decide) _ ws.length _ (by rfl) hown.out [.string x] (by rfl) rfl (by simp [Value.oneCell']) (by unfold maxLen; omega) (by omega) w hbw.out hso ?_; intro v8 w8 hown8 hb8)
              have Hown8 : Hid (w8.ownsRow w.heap.size 9 1 v8 (ws ++ [x]).length ((ws ++ [x]).map Value.string)) := by
                show World.ownsRow _ _ _ _ _ _ _
                rw [List.length_append, List.map_append]; exact hown8
              have Hb8 := Lib.hid hb8
              have hwl3 : Hid ((ws ++ [x]).length = j + 1) := by show _ = _; rw [List.length_append, HWl.out]; rfl
              clear hown8 hb8
              go_wp2_with fail
              go_roundw
              case rel => exact ⟨j + 1, ws ++ [x], nx, by omega, by go_num, rfl, hwl3.out, by omega, HR, Hown8, Hb8⟩
              case measure => simp [intOf]; omega
          · have hz1' : (e1 != 0) = true := by simp [he1]
            have HR := Lib.hid (HSt.out (.inl he1))
            clear HSt HGo he1
            go_wp2_with fail
            refine (G1 _).out.mono ?_
            rintro e w' ⟨rfl, rfl⟩
            go_wp2_with fail
            go_ret3
            exact ⟨_, by rw [HR.out]; rfl, by rw [HR.out]; exact own_nil _ _ _ _, hbw.out⟩
        · have hwd := wd_done hlt hrel.out
          have HP2 := Lib.hid (fun h => H2.out ws a' hwd h)
          have HP3 := Lib.hid (fun l c u h hu => H3.out ws l a' c u hwd h hu)
          have HP4 := Lib.hid (fun l c u h hu => H4.out ws l a' c u hwd h hu)
          obtain rfl : j = k := by omega
          have Hrw := Lib.hid hrw
          clear hrel H1 H2 H3 H4 hwd hrw
          go_wp2_with fail
          go_loopw [10, 13, 18, 19, 20, 21, 22] (fun vt vo vu i _ _ _ wr => ∃ (q used : Nat) (out : List ByteArray) (b' : Int), q ≤ n ∧ i = .int .i64 (q : Int) ∧ vt = .int .i64 b' ∧ vu = .int .i64 (used : Int) ∧ used ≤ q ∧ out.length ≤ q ∧ (-9223372036854775808 ≤ b' ∧ b' ≤ 9223372036854775807) ∧ Hid (Cl.rdPlaces s.data.toList ws n 0 a' = (Cl.rdPlaces s.data.toList ws (n - q) used b').map fun r => (out ++ r.1, r.2)) ∧ Hid (wr.ownsRow Wo.heap.size 9 1 vo out.length (out.map Value.string)) ∧ Hid (Below Wo.heap.size Wo wr)) (fun _ _ _ i _ _ _ _ => n - (intOf i).toNat)
          case atStart => exact ⟨0, 0, [], a', Nat.zero_le _, rfl, rfl, rfl, Nat.le_refl _, by simp, ha', Lib.hid (by simp), Lib.hid (own_nil _ _ _ _), Lib.hid (Below.refl _ _)⟩
          case round =>
            obtain ⟨q, used, out, b', hq, rfl, rfl, rfl, huq, hol, hb', hrel, howno, hbo⟩ := hrel
            have hsr := hbo.out.size
            by_cases hlt2 : q < n
            · have G1 := fun W => Lib.hid (rgetNum_any s b' W (by omega) hb')
              have hbd := getN_bd' s b' hs
              have HSt := Lib.hid (fun h => HP2.out (pl_stop hlt2 hrel.out h))
              have HGo := Lib.hid (fun (x : Nat) nx h (h1 : x < ws.length) h2 => pl_step (x := x) (nx := nx) hlt2 hrel.out h h1 h2)
              clear hrel HP2 HP3 HP4
              generalize Wr.getN s.data.toList b' = Y at *
              obtain ⟨xI, nx, e2⟩ := Y
              simp only [gnV] at G1 hbd HSt
              obtain ⟨hb3, hb4⟩ := hbd
              have hWk := HWl.out
              have hWk2 : ws.length ≤ j ∧ j ≤ ws.length := by omega
              clear hWk
              by_cases hbad : e2 ≠ 0 ∨ xI < 0 ∨ (ws.length : Int) ≤ xI ∨ (used : Int) < xI
              · have HR := Lib.hid (HSt.out hbad)
                clear HSt HGo
                by_cases g1 : e2 = 0
                · have hz : (e2 != 0) = false := by simp [g1]
                  have g2 : xI < 0 ∨ (ws.length : Int) ≤ xI ∨ (used : Int) < xI := by
                    rcases hbad with h | h
                    · exact absurd g1 h
                    · exact h
                  clear g1 hbad
                  by_cases g3 : xI < 0
                  · clear g2
                    go_wp2_with fail
                    refine (G1 _).out.mono ?_
                    rintro e w' ⟨rfl, rfl⟩
                    go_wp2_with fail
                    go_ret3
                    exact ⟨_, by rw [HR.out]; rfl, by rw [HR.out]; exact own_nil _ _ _ _, hbw.out.trans (hbo.out.mono hso)⟩
                  · by_cases g4 : (j : Int) ≤ xI
                    · clear g2
                      go_wp2_with fail
                      refine (G1 _).out.mono ?_
                      rintro e w' ⟨rfl, rfl⟩
                      go_wp2_with fail
                      go_ret3
                      exact ⟨_, by rw [HR.out]; rfl, by rw [HR.out]; exact own_nil _ _ _ _, hbw.out.trans (hbo.out.mono hso)⟩
                    · have g5 : (used : Int) < xI := by omega
                      clear g2
                      go_wp2_with fail
                      refine (G1 _).out.mono ?_
                      rintro e w' ⟨rfl, rfl⟩
                      go_wp2_with fail
                      go_ret3
                      exact ⟨_, by rw [HR.out]; rfl, by rw [HR.out]; exact own_nil _ _ _ _, hbw.out.trans (hbo.out.mono hso)⟩
                · have hz : (e2 != 0) = true := by simp [g1]
                  clear g1 hbad
                  go_wp2_with fail
                  refine (G1 _).out.mono ?_
                  rintro e w' ⟨rfl, rfl⟩
                  go_wp2_with fail
                  go_ret3
                  exact ⟨_, by rw [HR.out]; rfl, by rw [HR.out]; exact own_nil _ _ _ _, hbw.out.trans (hbo.out.mono hso)⟩
              · obtain rfl : e2 = 0 := by
                  by_cases h : e2 = 0
                  · exact h
                  · exact absurd (.inl h) hbad
                obtain ⟨x, rfl⟩ : ∃ x : Nat, xI = x := ⟨xI.toNat, by omega⟩
                have hxw : x < ws.length := by omega
                have hxu : x ≤ used := by omega
                have q0 : decide ((x : Int) < 0) = false := decide_eq_false (by omega)
                have q1 : decide ((j : Int) ≤ (x : Int)) = false := decide_eq_false (by omega)
                have q2 : decide (j ≤ x) = false := decide_eq_false (by omega)
                have q3 : decide ((used : Int) < (x : Int)) = false := decide_eq_false (by omega)
                have q4 : decide (used < x) = false := decide_eq_false (by omega)
                have HR := Lib.hid (HGo.out x nx rfl hxw hxu)
                obtain ⟨bw, ow, rfl, hbw2, hcw⟩ := Hrw.out.2 (by omega)
                have hcellw := map_cell (wr := wr) (B := Wo.heap.size) hxw hcw (fun p hp => hbo.out.cell (p := p) hp) hbw2
                clear HSt HGo hbad hcw
                generalize ws[x] = y at *
                by_cases heq : x = used
                · subst heq
                  rw [if_pos rfl] at HR
                  have hzz : ((x : Int) == (x : Int)) = true := by simp
                  go_wp2_with fail
                  refine (G1 _).out.mono ?_
                  rintro e w' ⟨rfl, rfl⟩
                  go_wp2_with (at_builtin; refine wpList_push _ rfl _ _ 24 rfl Wo.heap.size 9 i0 _ 1 16 Try.underlying24 hi hz0 hz1 hz2 rfl (by decide) _ out.length _ (by rfl) howno.out [.string y] (by rfl) rfl (by simp [Value.oneCell']) (by unfold maxLen; omega) (by omega) Wo hbo.out hsr ?_; intro v8 w8 hown8 hb8)
                  have Hown8 : Hid (w8.ownsRow Wo.heap.size 9 1 v8 (out ++ [y]).length ((out ++ [y]).map Value.string)) := by
                    show World.ownsRow _ _ _ _ _ _ _
                    rw [List.length_append, List.map_append]; exact hown8
                  have Hb8 := Lib.hid hb8
                  have hol2 : (out ++ [y]).length ≤ q + 1 := by simp; omega
                  clear hown8 hb8
                  go_wp2_with fail
                  go_roundw
                  case rel => exact ⟨q + 1, x + 1, out ++ [y], nx, by omega, by go_num, rfl, by go_num, by omega, hol2, hb3, HR, Hown8, Hb8⟩
                  case measure => simp [intOf]; omega
                · rw [if_neg heq] at HR
                  have hzz : ((x : Int) == (used : Int)) = false := by simp; omega
                  clear heq
                  go_wp2_with fail
                  refine (G1 _).out.mono ?_
                  rintro e w' ⟨rfl, rfl⟩
                  go_wp2_with (at_builtin; refine wpList_push _ rfl _ _ 24 rfl Wo.heap.size 9 i0 _ 1 16 Try.underlying24 hi hz0 hz1 hz2 rfl (by decide) _ out.length _ (by rfl) howno.out [.string y] (by rfl) rfl (by simp [Value.oneCell']) (by unfold maxLen; omega) (by omega) Wo hbo.out hsr ?_; intro v8 w8 hown8 hb8)
                  have Hown8 : Hid (w8.ownsRow Wo.heap.size 9 1 v8 (out ++ [y]).length ((out ++ [y]).map Value.string)) := by
                    show World.ownsRow _ _ _ _ _ _ _
                    rw [List.length_append, List.map_append]; exact hown8
                  have Hb8 := Lib.hid hb8
                  have hol2 : (out ++ [y]).length ≤ q + 1 := by simp; omega
                  clear hown8 hb8
                  go_wp2_with fail
                  go_roundw
                  case rel => exact ⟨q + 1, used, out ++ [y], nx, by omega, by go_num, rfl, rfl, by omega, hol2, hb3, HR, Hown8, Hb8⟩
                  case measure => simp [intOf]; omega
            · have hpd := pl_done hlt2 hrel.out
              by_cases hu : used = ws.length
              · have HR := Lib.hid (HP4.out out b' used hpd hu)
                have hzz : ((used : Int) != (j : Int)) = false := by have := HWl.out; simp; omega
                clear hrel HP2 HP3 HP4 hpd hu
                obtain ⟨Ao, co, rfl, hno, _⟩ := own_slice howno.out
                go_wp2_with fail
                go_ret3
                exact ⟨_, by rw [HR.out]; rfl, by rw [HR.out]; exact own_down howno.out hso, hbw.out.trans (hbo.out.mono hso)⟩
              · have HR := Lib.hid (HP3.out out b' used hpd hu)
                have hzz : ((used : Int) != (j : Int)) = true := by have := HWl.out; simp; omega
                clear hrel HP2 HP3 HP4 hpd hu
                go_wp2_with fail
                go_ret3
                exact ⟨_, by rw [HR.out]; rfl, by rw [HR.out]; exact own_nil _ _ _ _, hbw.out.trans (hbo.out.mono hso)⟩
end Go.Proofs.Ythdbmgjlegpbaaa
