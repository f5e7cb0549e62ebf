/- Joined texts: ClTexts3, ClTexts4, ClGet, SgPutGo. -/
import Derived.Test.YtapdlmiioljpgaaK8
import Derived.Test.YtapdlmiioljpgaaK9
/- The walks through GetTexts of column and of its reference. -/
namespace Go.Proofs.Ytapdlmiioljpgaa
open Go.RowKit
set_option linter.unusedVariables false

abbrev noTexts : List ByteArray × Int × Int := ([], 0, 1200)
theorem getTexts_no {s : ByteArray} {a many : Int} (h : many < 0 ∨ 65536 < many ∨ a < 0 ∨ (s.size : Int) < a) : Cl.getTexts s a many = noTexts := by
  unfold Cl.getTexts; rw [if_pos h]
theorem getTexts_head {s : ByteArray} {a many : Int} (h : (Wr.getN s.data.toList a).2.2 ≠ 0 ∨ (Wr.getN s.data.toList a).1 < 0 ∨ many < (Wr.getN s.data.toList a).1) : Cl.getTexts s a many = noTexts := by
  unfold Cl.getTexts
  by_cases h1 : many < 0 ∨ 65536 < many ∨ a < 0 ∨ (s.size : Int) < a
  · rw [if_pos h1]
  · rw [if_neg h1, if_pos h]
section
variable {s : ByteArray} {a to : Int} {n k : Nat} (hn : n ≤ 65536) (ha : 0 ≤ a ∧ a ≤ (s.size : Int)) (hg : Wr.getN s.data.toList a = ((k : Int), to, 0)) (hk : k ≤ n)
include hn ha hg hk
theorem getTexts_wn (h : Cl.rdWords s k [] to = none) : Cl.getTexts s a (n : Int) = noTexts := by
  unfold Cl.getTexts
  rw [if_neg (by omega), hg, if_neg (by simp; omega)]
  simp only [Int.toNat_natCast, h]
theorem getTexts_pn {ws : List ByteArray} {b : Int} (h : Cl.rdWords s k [] to = some (ws, b)) (h2 : Cl.rdPlaces s.data.toList ws n 0 b = none) : Cl.getTexts s a (n : Int) = noTexts := by
  unfold Cl.getTexts
  rw [if_neg (by omega), hg, if_neg (by simp; omega)]
  simp only [Int.toNat_natCast, h, h2]
theorem getTexts_un {ws l : List ByteArray} {b c : Int} {u : Nat} (h : Cl.rdWords s k [] to = some (ws, b)) (h2 : Cl.rdPlaces s.data.toList ws n 0 b = some (l, u, c)) (hu : u ≠ ws.length) : Cl.getTexts s a (n : Int) = noTexts := by
  unfold Cl.getTexts
  rw [if_neg (by omega), hg, if_neg (by simp; omega)]
  simp only [Int.toNat_natCast, h, h2, if_neg hu]
theorem getTexts_ok {ws l : List ByteArray} {b c : Int} {u : Nat} (h : Cl.rdWords s k [] to = some (ws, b)) (h2 : Cl.rdPlaces s.data.toList ws n 0 b = some (l, u, c)) (hu : u = ws.length) : Cl.getTexts s a (n : Int) = (l, c, 0) := by
  unfold Cl.getTexts
  rw [if_neg (by omega), hg, if_neg (by simp; omega)]
  simp only [Int.toNat_natCast, h, h2, if_pos hu]
end
theorem wd_step {s : ByteArray} {k j : Nat} {ws : List ByteArray} {a nx : Int} {x : ByteArray} {r : Option (List ByteArray × Int)} (hj : j < k) (hrel : r = Cl.rdWords s (k - j) ws a) (h : Wr.getT s a 12 = (x, nx, 0)) (hni : ¬ Cl.idx ws x < ws.length) : r = Cl.rdWords s (k - (j + 1)) (ws ++ [x]) nx := by
  rw [hrel, show k - j = (k - (j + 1)) + 1 from by omega, Cl.rdWords, h, if_pos ⟨rfl, hni⟩]
theorem wd_stop {s : ByteArray} {k j : Nat} {ws : List ByteArray} {a : Int} {r : Option (List ByteArray × Int)} (hj : j < k) (hrel : r = Cl.rdWords s (k - j) ws a) (h : (Wr.getT s a 12).2.2 ≠ 0 ∨ Cl.idx ws (Wr.getT s a 12).1 < ws.length) : r = none := by
  rw [hrel, show k - j = (k - (j + 1)) + 1 from by omega, Cl.rdWords, if_neg]
  rintro ⟨h1, h2⟩
  rcases h with h | h
  · exact h h1
  · exact h2 h
theorem wd_done {s : ByteArray} {k j : Nat} {ws : List ByteArray} {a : Int} {r : Option (List ByteArray × Int)} (hj : ¬ j < k) (hrel : r = Cl.rdWords s (k - j) ws a) : r = some (ws, a) := by
  rw [hrel, show k - j = 0 from by omega, Cl.rdWords]
theorem pl_step {l : List UInt8} {ws out : List ByteArray} {n j used : Nat} {a nx : Int} {x : Nat} {r : Option (List ByteArray × Nat × Int)} (hj : j < n) (hrel : r = (Cl.rdPlaces l ws (n - j) used a).map fun q => (out ++ q.1, q.2)) (h : Wr.getN l a = ((x : Int), nx, 0)) (hx : x < ws.length) (hu : x ≤ used) :
    r = (Cl.rdPlaces l ws (n - (j + 1)) (if x = used then used + 1 else used) nx).map fun q => ((out ++ [ws[x]]) ++ q.1, q.2) := by
  rw [hrel, show n - j = (n - (j + 1)) + 1 from by omega, Cl.rdPlaces, h, if_pos ⟨rfl, by simp, by simp; omega, by simp; omega⟩, Option.map_map]
  have e : (if ((x : Int), nx, (0 : Int)).1 = (used : Int) then used + 1 else used) = (if x = used then used + 1 else used) := by
    by_cases h : x = used
    · rw [if_pos h, if_pos (by simp [h])]
    · rw [if_neg h, if_neg (by simp; omega)]
  rw [e]
  congr 1
  funext q
  simp [List.getD_eq_getElem?_getD, List.getElem?_eq_getElem hx]
theorem pl_stop {l : List UInt8} {ws out : List ByteArray} {n j used : Nat} {a : Int} {r : Option (List ByteArray × Nat × Int)} (hj : j < n) (hrel : r = (Cl.rdPlaces l ws (n - j) used a).map fun q => (out ++ q.1, q.2)) (h : (Wr.getN l a).2.2 ≠ 0 ∨ (Wr.getN l a).1 < 0 ∨ (ws.length : Int) ≤ (Wr.getN l a).1 ∨ (used : Int) < (Wr.getN l a).1) : r = none := by
  rw [hrel, show n - j = (n - (j + 1)) + 1 from by omega, Cl.rdPlaces, if_neg]
  · rfl
  · rintro ⟨h1, h2, h3, h4⟩
    rcases h with h | h | h | h
    · exact h h1
    · omega
    · omega
    · omega
theorem pl_done {l : List UInt8} {ws out : List ByteArray} {n j used : Nat} {a : Int} {r : Option (List ByteArray × Nat × Int)} (hj : ¬ j < n) (hrel : r = (Cl.rdPlaces l ws (n - j) used a).map fun q => (out ++ q.1, q.2)) : r = some (out, used, a) := by
  rw [hrel, show n - j = 0 from by omega, Cl.rdPlaces]; simp
def TextsPost (w : World) (r : List ByteArray × Int × Int) (e : Ending) (w' : World) : Prop :=
  ∃ v, e = .returned (.tuple #[v, .int .i64 r.2.1, .int .i64 r.2.2]) ∧ w'.ownsRow w.heap.size 9 1 v r.1.length (r.1.map Value.string) ∧ Below w.heap.size w w'

set_option maxRecDepth 100000 in
set_option maxHeartbeats 2000000 in
theorem rgetTexts_any (s : ByteArray) (a many : Int) (w : World) (hs : s.size ≤ 4611686018427387904) (ha : -9223372036854775808 ≤ a ∧ a ≤ 9223372036854775807) :
    Calls Try.prog 69 #[.string s, .int .i64 a, .int .i64 many] w (TextsPost w (Cl.getTexts s a many)) := by
  obtain ⟨i0, hi, hz0, hz1, hz2⟩ := info_parts info_string
  have H0 := fun W => Lib.hid (rgetNum_any s a W (by omega) ha)
  have hbd := getN_bd' s a hs
  have hcs := Wr.getN_cases s.data.toList a
  have HH := @getTexts_head s a many
  by_cases hm : many < 0 ∨ 65536 < many
  · have HR := Lib.hid (getTexts_no (s := s) (a := a) (many := many) (by omega))
    generalize Cl.getTexts s a many = res at *
    generalize Wr.getN s.data.toList a = X at *
    obtain ⟨k, to, e0⟩ := X
    simp only [gnV] at H0
    clear HH hcs hbd
    by_cases h1 : many < 0
    · clear hm
      go_enter Try.func69, Try.ntmps69
      go_wp2_with fail
      refine (H0 _).out.mono ?_
      rintro e w' ⟨rfl, rfl⟩
      go_wp2_with fail
      go_ret3
      exact ⟨_, by rw [HR.out]; rfl, by rw [HR.out]; exact own_nil _ _ _ _, Below.refl _ _⟩
    · have h2 : 65536 < many := by omega
      clear hm
      go_enter Try.func69, Try.ntmps69
      go_wp2_with fail
      refine (H0 _).out.mono ?_
      rintro e w' ⟨rfl, rfl⟩
      go_wp2_with fail
      go_ret3
      exact ⟨_, by rw [HR.out]; rfl, by rw [HR.out]; exact own_nil _ _ _ _, Below.refl _ _⟩
  · obtain ⟨n, rfl⟩ : ∃ n : Nat, many = n := ⟨many.toNat, by omega⟩
    have hm0 : ¬ (n : Int) < 0 := by omega
    have hm1 : ¬ 65536 < (n : Int) := by omega
    have hn : n ≤ 65536 := by omega
    have hat : (Wr.getN s.data.toList a).2.2 = 0 → 0 ≤ a ∧ a ≤ (s.size : Int) := by
      intro h
      rcases hcs with ⟨e, hg, he⟩ | ⟨x, b, k, rfl, hg, _, _, hle, _⟩
      · rw [hg] at h; rcases he with rfl | rfl <;> simp at h
      · rw [Wr.len_list] at hle; omega
    have W1 := fun (k : Nat) (to : Int) (ha : 0 ≤ a ∧ a ≤ (s.size : Int)) (hg : Wr.getN s.data.toList a = ((k : Int), to, 0)) (hk : k ≤ n) => @getTexts_wn s a to n k hn ha hg hk
    have W2 := fun (k : Nat) (to : Int) (ha : 0 ≤ a ∧ a ≤ (s.size : Int)) (hg : Wr.getN s.data.toList a = ((k : Int), to, 0)) (hk : k ≤ n) => @getTexts_pn s a to n k hn ha hg hk
    have W3 := fun (k : Nat) (to : Int) (ha : 0 ≤ a ∧ a ≤ (s.size : Int)) (hg : Wr.getN s.data.toList a = ((k : Int), to, 0)) (hk : k ≤ n) => @getTexts_un s a to n k hn ha hg hk
    have W4 := fun (k : Nat) (to : Int) (ha : 0 ≤ a ∧ a ≤ (s.size : Int)) (hg : Wr.getN s.data.toList a = ((k : Int), to, 0)) (hk : k ≤ n) => @getTexts_ok s a to n k hn ha hg hk
    clear hcs hm
    generalize Cl.getTexts s a (n : Int) = res at *
    generalize Wr.getN s.data.toList a = X at *
    obtain ⟨kI, to, e0⟩ := X
    simp only [gnV] at H0 hbd HH hat
    obtain ⟨hb1, hb2⟩ := hbd
    by_cases hbad : e0 ≠ 0 ∨ kI < 0 ∨ (n : Int) < kI
    · have HR : Hid (res = noTexts) := HH hbad
      clear HH W1 W2 W3 W4 hat
      by_cases h1 : e0 = 0
      · have hz : (e0 != 0) = false := by simp [h1]
        have h2 : kI < 0 ∨ (n : Int) < kI := by
          rcases hbad with h | h | h
          · exact absurd h1 h
          · exact .inl h
          · exact .inr h
        clear h1 hbad
        by_cases h3 : kI < 0
        · clear h2
          go_enter Try.func69, Try.ntmps69
          go_wp2_with fail
          refine (H0 _).out.mono ?_
          rintro e w' ⟨rfl, rfl⟩
          go_wp2_with fail
          go_ret3
          exact ⟨_, by rw [HR.out]; rfl, by rw [HR.out]; exact own_nil _ _ _ _, Below.refl _ _⟩
        · have h4 : (n : Int) < kI := by omega
          clear h2
          go_enter Try.func69, Try.ntmps69
          go_wp2_with fail
          refine (H0 _).out.mono ?_
          rintro e w' ⟨rfl, rfl⟩
          go_wp2_with fail
          go_ret3
          exact ⟨_, by rw [HR.out]; rfl, by rw [HR.out]; exact own_nil _ _ _ _, Below.refl _ _⟩
      · have hz : (e0 != 0) = true := by simp [h1]
        clear h1 hbad
        go_enter Try.func69, Try.ntmps69
        go_wp2_with fail
        refine (H0 _).out.mono ?_
        rintro e w' ⟨rfl, rfl⟩
        go_wp2_with fail
        go_ret3
        exact ⟨_, by rw [HR.out]; rfl, by rw [HR.out]; exact own_nil _ _ _ _, Below.refl _ _⟩
    · obtain rfl : e0 = 0 := by
        by_cases h : e0 = 0
        · exact h
        · exact absurd (.inl h) hbad
      obtain ⟨k, rfl⟩ : ∃ k : Nat, kI = k := ⟨kI.toNat, by omega⟩
      have hkn : k ≤ n := by omega
      have H1 := Lib.hid (W1 k to (hat rfl) rfl hkn)
      have H2 := Lib.hid (fun ws b => @W2 k to (hat rfl) rfl hkn ws b)
      have H3 := Lib.hid (fun ws l b c u => @W3 k to (hat rfl) rfl hkn ws l b c u)
      have H4 := Lib.hid (fun ws l b c u => @W4 k to (hat rfl) rfl hkn ws l b c u)
      have d0 : decide ((n : Int) < 0) = false := decide_eq_false (by omega)
      have d1 : decide (65536 < (n : Int)) = false := decide_eq_false (by omega)
      have d2 : decide ((k : Int) < 0) = false := decide_eq_false (by omega)
      have d3 : decide ((n : Int) < (k : Int)) = false := decide_eq_false (by omega)
      have d4 : decide (n < k) = false := decide_eq_false (by omega)
      clear hbad HH W1 W2 W3 W4 hat hm0 hm1
      go_enter Try.func69, Try.ntmps69
      go_wp2_with fail
      refine (H0 _).out.mono ?_
      rintro e w' ⟨rfl, rfl⟩
      go_wp2_with fail
      go_loopw [10, 12, 14, 15, 16, 17] (fun vt vw i _ _ _ wr => ∃ (j : Nat) (ws : List ByteArray) (a' : Int), j ≤ k ∧ i = .int .i64 (j : Int) ∧ vt = .int .i64 a' ∧ ws.length = j ∧ (-9223372036854775808 ≤ a' ∧ a' ≤ 9223372036854775807) ∧ Hid (Cl.rdWords s k [] to = Cl.rdWords s (k - j) ws a') ∧ Hid (wr.ownsRow w.heap.size 9 1 vw ws.length (ws.map Value.string)) ∧ Hid (Below w.heap.size w wr)) (fun _ _ i _ _ _ _ => k - (intOf i).toNat)
      case atStart => exact ⟨0, [], to, Nat.zero_le _, rfl, rfl, rfl, hb1, Lib.hid (by simp), Lib.hid (own_nil _ _ _ _), Lib.hid (Below.refl _ _)⟩
      case round =>
        obtain ⟨j, ws, a', hj, rfl, rfl, hwl, ha', hrel, hown, hbw⟩ := hrel
        have HWl := Lib.hid hwl
        have hwl2 : ws.length ≤ j := by omega
        clear hwl
        obtain ⟨Wo, hWo⟩ : ∃ Wo, Wo = wr := ⟨_, rfl⟩
        subst hWo
        have hso := hbw.out.size
        obtain ⟨Aw, cw, rfl, hnc, hrw⟩ := own_slice hown.out
        by_cases hlt : j < k
        · have G1 := fun W => Lib.hid (rgetText_any s a' 12 W hs ha' (by omega))
          have hT := Pt.getT_at s a' 12
          have HSt := Lib.hid (fun h => H1.out (wd_stop hlt hrel.out h))
          have HGo := Lib.hid (fun x nx h h2 => wd_step (x := x) (nx := nx) hlt hrel.out h h2)
          clear hrel H1 H2 H3 H4
          generalize Wr.getT s a' 12 = T at *
          obtain ⟨x, nx, e1⟩ := T
          simp only [gtV] at G1 hT HSt
          by_cases he1 : e1 = 0
          · subst he1
            have G2 := Lib.hid (place_any Aw cw ws x Wo Wo.heap.size hrw (by omega))
            clear hrw
            by_cases hix : Cl.idx ws x < ws.length
            · have HR := Lib.hid (HSt.out (.inr hix))
              have hpl : Cl.placeI ws x = (Cl.idx ws x : Int) := by unfold Cl.placeI; rw [if_pos hix]
              rw [hpl] at G2
              clear HSt HGo hpl
              go_wp2_with fail
              refine (G1 _).out.mono ?_
              rintro e w' ⟨rfl, rfl⟩
              go_wp2_with fail
              refine G2.out.mono ?_
              rintro e w' ⟨rfl, rfl⟩
              go_wp2_with fail
              go_ret3
              exact ⟨_, by rw [HR.out]; rfl, by rw [HR.out]; exact own_nil _ _ _ _, hbw.out⟩
            · have HR := Lib.hid (HGo.out x nx rfl hix)
              have hpl : Cl.placeI ws x = -1 := by unfold Cl.placeI; rw [if_neg hix]
              rw [hpl] at G2
              clear HSt HGo hpl hix
              go_wp2_with fail
              refine (G1 _).out.mono ?_
              rintro e w' ⟨rfl, rfl⟩
              go_wp2_with fail
              refine G2.out.mono ?_
              rintro e w' ⟨rfl, rfl⟩
              go_wp2_with (at_builtin; refine wpList_push _ rfl _ _ 95 rfl w.heap.size 9 i0 _ 1 16 Try.underlying95 hi hz0 hz1 hz2 rfl (by decide) _ ws.length _ (by rfl) hown.out [.string x] (by rfl) rfl (by simp [Value.oneCell']) (by unfold maxLen; omega) (by omega) w hbw.out hso ?_; intro v8 w8 hown8 hb8)
              have Hown8 : Hid (w8.ownsRow w.heap.size 9 1 v8 (ws ++ [x]).length ((ws ++ [x]).map Value.string)) := by
                show World.ownsRow _ _ _ _ _ _ _
                rw [List.length_append, List.map_append]; exact hown8
              have Hb8 := Lib.hid hb8
              have hwl3 : Hid ((ws ++ [x]).length = j + 1) := by show _ = _; rw [List.length_append, HWl.out]; rfl
              clear hown8 hb8
              go_wp2_with fail
              go_roundw
              case rel => exact ⟨j + 1, ws ++ [x], nx, by omega, by go_num, rfl, hwl3.out, by omega, HR, Hown8, Hb8⟩
              case measure => simp [intOf]; omega
          · have hz1' : (e1 != 0) = true := by simp [he1]
            have HR := Lib.hid (HSt.out (.inl he1))
            clear HSt HGo he1
            go_wp2_with fail
            refine (G1 _).out.mono ?_
            rintro e w' ⟨rfl, rfl⟩
            go_wp2_with fail
            go_ret3
            exact ⟨_, by rw [HR.out]; rfl, by rw [HR.out]; exact own_nil _ _ _ _, hbw.out⟩
        · have hwd := wd_done hlt hrel.out
          have HP2 := Lib.hid (fun h => H2.out ws a' hwd h)
          have HP3 := Lib.hid (fun l c u h hu => H3.out ws l a' c u hwd h hu)
          have HP4 := Lib.hid (fun l c u h hu => H4.out ws l a' c u hwd h hu)
          obtain rfl : j = k := by omega
          have Hrw := Lib.hid hrw
          clear hrel H1 H2 H3 H4 hwd hrw
          go_wp2_with fail
          go_loopw [10, 13, 18, 19, 20, 21, 22] (fun vt vo vu i _ _ _ wr => ∃ (q used : Nat) (out : List ByteArray) (b' : Int), q ≤ n ∧ i = .int .i64 (q : Int) ∧ vt = .int .i64 b' ∧ vu = .int .i64 (used : Int) ∧ used ≤ q ∧ out.length ≤ q ∧ (-9223372036854775808 ≤ b' ∧ b' ≤ 9223372036854775807) ∧ Hid (Cl.rdPlaces s.data.toList ws n 0 a' = (Cl.rdPlaces s.data.toList ws (n - q) used b').map fun r => (out ++ r.1, r.2)) ∧ Hid (wr.ownsRow Wo.heap.size 9 1 vo out.length (out.map Value.string)) ∧ Hid (Below Wo.heap.size Wo wr)) (fun _ _ _ i _ _ _ _ => n - (intOf i).toNat)
          case atStart => exact ⟨0, 0, [], a', Nat.zero_le _, rfl, rfl, rfl, Nat.le_refl _, by simp, ha', Lib.hid (by simp), Lib.hid (own_nil _ _ _ _), Lib.hid (Below.refl _ _)⟩
          case round =>
            obtain ⟨q, used, out, b', hq, rfl, rfl, rfl, huq, hol, hb', hrel, howno, hbo⟩ := hrel
            have hsr := hbo.out.size
            by_cases hlt2 : q < n
            · have G1 := fun W => Lib.hid (rgetNum_any s b' W (by omega) hb')
              have hbd := getN_bd' s b' hs
              have HSt := Lib.hid (fun h => HP2.out (pl_stop hlt2 hrel.out h))
              have HGo := Lib.hid (fun (x : Nat) nx h (h1 : x < ws.length) h2 => pl_step (x := x) (nx := nx) hlt2 hrel.out h h1 h2)
              clear hrel HP2 HP3 HP4
              generalize Wr.getN s.data.toList b' = Y at *
              obtain ⟨xI, nx, e2⟩ := Y
              simp only [gnV] at G1 hbd HSt
              obtain ⟨hb3, hb4⟩ := hbd
              have hWk := HWl.out
              have hWk2 : ws.length ≤ j ∧ j ≤ ws.length := by omega
              clear hWk
              by_cases hbad : e2 ≠ 0 ∨ xI < 0 ∨ (ws.length : Int) ≤ xI ∨ (used : Int) < xI
              · have HR := Lib.hid (HSt.out hbad)
                clear HSt HGo
                by_cases g1 : e2 = 0
                · have hz : (e2 != 0) = false := by simp [g1]
                  have g2 : xI < 0 ∨ (ws.length : Int) ≤ xI ∨ (used : Int) < xI := by
                    rcases hbad with h | h
                    · exact absurd g1 h
                    · exact h
                  clear g1 hbad
                  by_cases g3 : xI < 0
                  · clear g2
                    go_wp2_with fail
                    refine (G1 _).out.mono ?_
                    rintro e w' ⟨rfl, rfl⟩
                    go_wp2_with fail
                    go_ret3
                    exact ⟨_, by rw [HR.out]; rfl, by rw [HR.out]; exact own_nil _ _ _ _, hbw.out.trans (hbo.out.mono hso)⟩
                  · by_cases g4 : (j : Int) ≤ xI
                    · clear g2
                      go_wp2_with fail
                      refine (G1 _).out.mono ?_
                      rintro e w' ⟨rfl, rfl⟩
                      go_wp2_with fail
                      go_ret3
                      exact ⟨_, by rw [HR.out]; rfl, by rw [HR.out]; exact own_nil _ _ _ _, hbw.out.trans (hbo.out.mono hso)⟩
                    · have g5 : (used : Int) < xI := by omega
                      clear g2
                      go_wp2_with fail
                      refine (G1 _).out.mono ?_
                      rintro e w' ⟨rfl, rfl⟩
                      go_wp2_with fail
                      go_ret3
                      exact ⟨_, by rw [HR.out]; rfl, by rw [HR.out]; exact own_nil _ _ _ _, hbw.out.trans (hbo.out.mono hso)⟩
                · have hz : (e2 != 0) = true := by simp [g1]
                  clear g1 hbad
                  go_wp2_with fail
                  refine (G1 _).out.mono ?_
                  rintro e w' ⟨rfl, rfl⟩
                  go_wp2_with fail
                  go_ret3
                  exact ⟨_, by rw [HR.out]; rfl, by rw [HR.out]; exact own_nil _ _ _ _, hbw.out.trans (hbo.out.mono hso)⟩
              · obtain rfl : e2 = 0 := by
                  by_cases h : e2 = 0
                  · exact h
                  · exact absurd (.inl h) hbad
                obtain ⟨x, rfl⟩ : ∃ x : Nat, xI = x := ⟨xI.toNat, by omega⟩
                have hxw : x < ws.length := by omega
                have hxu : x ≤ used := by omega
                have q0 : decide ((x : Int) < 0) = false := decide_eq_false (by omega)
                have q1 : decide ((j : Int) ≤ (x : Int)) = false := decide_eq_false (by omega)
                have q2 : decide (j ≤ x) = false := decide_eq_false (by omega)
                have q3 : decide ((used : Int) < (x : Int)) = false := decide_eq_false (by omega)
                have q4 : decide (used < x) = false := decide_eq_false (by omega)
                have HR := Lib.hid (HGo.out x nx rfl hxw hxu)
                obtain ⟨bw, ow, rfl, hbw2, hcw⟩ := Hrw.out.2 (by omega)
                have hcellw := map_cell (wr := wr) (B := Wo.heap.size) hxw hcw (fun p hp => hbo.out.cell (p := p) hp) hbw2
                clear HSt HGo hbad hcw
                generalize ws[x] = y at *
                by_cases heq : x = used
                · subst heq
                  rw [if_pos rfl] at HR
                  have hzz : ((x : Int) == (x : Int)) = true := by simp
                  go_wp2_with fail
                  refine (G1 _).out.mono ?_
                  rintro e w' ⟨rfl, rfl⟩
                  go_wp2_with (at_builtin; refine wpList_push _ rfl _ _ 95 rfl Wo.heap.size 9 i0 _ 1 16 Try.underlying95 hi hz0 hz1 hz2 rfl (by decide) _ out.length _ (by rfl) howno.out [.string y] (by rfl) rfl (by simp [Value.oneCell']) (by unfold maxLen; omega) (by omega) Wo hbo.out hsr ?_; intro v8 w8 hown8 hb8)
                  have Hown8 : Hid (w8.ownsRow Wo.heap.size 9 1 v8 (out ++ [y]).length ((out ++ [y]).map Value.string)) := by
                    show World.ownsRow _ _ _ _ _ _ _
                    rw [List.length_append, List.map_append]; exact hown8
                  have Hb8 := Lib.hid hb8
                  have hol2 : (out ++ [y]).length ≤ q + 1 := by simp; omega
                  clear hown8 hb8
                  go_wp2_with fail
                  go_roundw
                  case rel => exact ⟨q + 1, x + 1, out ++ [y], nx, by omega, by go_num, rfl, by go_num, by omega, hol2, hb3, HR, Hown8, Hb8⟩
                  case measure => simp [intOf]; omega
                · rw [if_neg heq] at HR
                  have hzz : ((x : Int) == (used : Int)) = false := by simp; omega
                  clear heq
                  go_wp2_with fail
                  refine (G1 _).out.mono ?_
                  rintro e w' ⟨rfl, rfl⟩
                  go_wp2_with (at_builtin; refine wpList_push _ rfl _ _ 95 rfl Wo.heap.size 9 i0 _ 1 16 Try.underlying95 hi hz0 hz1 hz2 rfl (by decide) _ out.length _ (by rfl) howno.out [.string y] (by rfl) rfl (by simp [Value.oneCell']) (by unfold maxLen; omega) (by omega) Wo hbo.out hsr ?_; intro v8 w8 hown8 hb8)
                  have Hown8 : Hid (w8.ownsRow Wo.heap.size 9 1 v8 (out ++ [y]).length ((out ++ [y]).map Value.string)) := by
                    show World.ownsRow _ _ _ _ _ _ _
                    rw [List.length_append, List.map_append]; exact hown8
                  have Hb8 := Lib.hid hb8
                  have hol2 : (out ++ [y]).length ≤ q + 1 := by simp; omega
                  clear hown8 hb8
                  go_wp2_with fail
                  go_roundw
                  case rel => exact ⟨q + 1, used, out ++ [y], nx, by omega, by go_num, rfl, rfl, by omega, hol2, hb3, HR, Hown8, Hb8⟩
                  case measure => simp [intOf]; omega
            · have hpd := pl_done hlt2 hrel.out
              by_cases hu : used = ws.length
              · have HR := Lib.hid (HP4.out out b' used hpd hu)
                have hzz : ((used : Int) != (j : Int)) = false := by have := HWl.out; simp; omega
                clear hrel HP2 HP3 HP4 hpd hu
                obtain ⟨Ao, co, rfl, hno, _⟩ := own_slice howno.out
                go_wp2_with fail
                go_ret3
                exact ⟨_, by rw [HR.out]; rfl, by rw [HR.out]; exact own_down howno.out hso, hbw.out.trans (hbo.out.mono hso)⟩
              · have HR := Lib.hid (HP3.out out b' used hpd hu)
                have hzz : ((used : Int) != (j : Int)) = true := by have := HWl.out; simp; omega
                clear hrel HP2 HP3 HP4 hpd hu
                go_wp2_with fail
                go_ret3
                exact ⟨_, by rw [HR.out]; rfl, by rw [HR.out]; exact own_nil _ _ _ _, hbw.out.trans (hbo.out.mono hso)⟩
end Go.Proofs.Ytapdlmiioljpgaa
/- The walk through column.GetTexts. -/
namespace Go.Proofs.Ytapdlmiioljpgaa
open Go.RowKit
set_option linter.unusedVariables false

set_option maxRecDepth 100000 in
set_option maxHeartbeats 2000000 in
theorem getTexts_any (s : ByteArray) (a many : Int) (w : World) (hs : s.size ≤ 4611686018427387904) (ha : -9223372036854775808 ≤ a ∧ a ≤ 9223372036854775807) :
    Calls Try.prog 108 #[.string s, .int .i64 a, .int .i64 many] w (TextsPost w (Cl.getTexts s a many)) := by
  obtain ⟨i0, hi, hz0, hz1, hz2⟩ := info_parts info_string
  by_cases hno : many < 0 ∨ 65536 < many ∨ a < 0 ∨ (s.size : Int) < a
  · have HR := Lib.hid (getTexts_no hno)
    generalize Cl.getTexts s a many = res at *
    by_cases h1 : many < 0
    · clear hno
      go_enter Try.func108, Try.ntmps108
      go_wp2_with fail
      go_ret3
      exact ⟨_, by rw [HR.out]; rfl, by rw [HR.out]; exact own_nil _ _ _ _, Below.refl _ _⟩
    · by_cases h2 : 65536 < many
      · clear hno
        go_enter Try.func108, Try.ntmps108
        go_wp2_with fail
        go_ret3
        exact ⟨_, by rw [HR.out]; rfl, by rw [HR.out]; exact own_nil _ _ _ _, Below.refl _ _⟩
      · by_cases h3 : a < 0
        · clear hno
          go_enter Try.func108, Try.ntmps108
          go_wp2_with fail
          go_ret3
          exact ⟨_, by rw [HR.out]; rfl, by rw [HR.out]; exact own_nil _ _ _ _, Below.refl _ _⟩
        · have h4 : (s.size : Int) < a := by omega
          clear hno
          go_enter Try.func108, Try.ntmps108
          go_wp2_with fail
          go_ret3
          exact ⟨_, by rw [HR.out]; rfl, by rw [HR.out]; exact own_nil _ _ _ _, Below.refl _ _⟩
  · obtain ⟨n, rfl⟩ : ∃ n : Nat, many = n := ⟨many.toNat, by omega⟩
    have hn : n ≤ 65536 := by omega
    have haa : 0 ≤ a ∧ a ≤ (s.size : Int) := by omega
    have HH := @getTexts_head s a (n : Int)
    have W1 := fun (k : Nat) (to : Int) (hg : Wr.getN s.data.toList a = ((k : Int), to, 0)) (hk : k ≤ n) => @getTexts_wn s a to n k hn haa hg hk
    have W2 := fun (k : Nat) (to : Int) (hg : Wr.getN s.data.toList a = ((k : Int), to, 0)) (hk : k ≤ n) => @getTexts_pn s a to n k hn haa hg hk
    have W3 := fun (k : Nat) (to : Int) (hg : Wr.getN s.data.toList a = ((k : Int), to, 0)) (hk : k ≤ n) => @getTexts_un s a to n k hn haa hg hk
    have W4 := fun (k : Nat) (to : Int) (hg : Wr.getN s.data.toList a = ((k : Int), to, 0)) (hk : k ≤ n) => @getTexts_ok s a to n k hn haa hg hk
    have d0 : decide ((n : Int) < 0) = false := decide_eq_false (by omega)
    have d1 : decide (65536 < (n : Int)) = false := decide_eq_false (by omega)
    have d2 : decide (a < 0) = false := decide_eq_false (by omega)
    have d3 : decide ((s.size : Int) < a) = false := decide_eq_false (by omega)
    have HR0 := Lib.hid (RdAt.new w s a)
    have Hb0 : Hid (Below w.heap.size w (w.alloc (.cells #[.string s, .int .i64 a, .bool false] 125))) := (Below.refl _ _).alloc (Nat.le_refl _) _
    have Hz : Hid ((w.alloc (.cells #[.string s, .int .i64 a, .bool false] 125)).heap.size = w.heap.size + 1) := by simp [Hid]
    have hbd := getN_bd' s a hs
    have hdef : Pt.rdNum s 0 (n : Int) (a, false) = if (Wr.getN s.data.toList a).2.2 ≠ 0 ∨ (Wr.getN s.data.toList a).1 < 0 ∨ (n : Int) < (Wr.getN s.data.toList a).1 ∨ false = true then (0, (a, true)) else ((Wr.getN s.data.toList a).1, ((Wr.getN s.data.toList a).2.1, false)) := rfl
    have H0 := Lib.hid (readerNum_any s a false 0 (n : Int) _ w.heap.size HR0.out (by omega) ha)
    clear hno
    generalize Cl.getTexts s a (n : Int) = res at *
    generalize Pt.rdNum s 0 (n : Int) (a, false) = Y at *
    generalize Wr.getN s.data.toList a = X at *
    obtain ⟨kI, to, e0⟩ := X
    simp only at HH hbd hdef
    obtain ⟨hb1, hb2⟩ := hbd
    by_cases hbad : e0 ≠ 0 ∨ kI < 0 ∨ (n : Int) < kI
    · have HR : Hid (res = noTexts) := HH hbad
      rw [if_pos (by rcases hbad with h | h | h; exact .inl h; exact .inr (.inl h); exact .inr (.inr (.inl h)))] at hdef
      subst hdef
      clear HH W1 W2 W3 W4 hbad
      go_enter Try.func108, Try.ntmps108
      go_wp2_with fail
      refine H0.out.mono ?_
      rintro e w1 ⟨rfl, hR1, ho1⟩
      have HR1 := Lib.hid hR1
      have Hb1 : Hid (Below w.heap.size w w1) := Hb0.out.trans (ho1.below (fun j hj e => by omega) (by have := Hz.out; omega))
      clear hR1 ho1 H0 HR0 Hb0 Hz
      generalize hgg : w.heap.size = g at *
      have Hgg := Lib.hid hgg
      clear hgg
      go_wp2_with fail
      go_loop [10, 12, 38] (fun vw _ i => vw = .slice none 0 0 ∧ i = .int .i64 0) (fun _ _ _ => 0)
      case atStart => exact ⟨rfl, rfl⟩
      case round =>
        obtain ⟨rfl, rfl⟩ := hrel
        go_wp2_with fail
        go_loop [11, 13, 14, 57] (fun vo vc _ i => vo = .slice none 0 0 ∧ vc = .int .i64 0 ∧ i = .int .i64 0) (fun _ _ _ _ => 0)
        case atStart => exact ⟨rfl, rfl, rfl⟩
        case round =>
          obtain ⟨rfl, rfl, rfl⟩ := hrel
          have hc2 := HR1.out.cell2
          simp only at hc2
          by_cases hn0 : 0 < n
          · have hnn : (0 : Int) < (n : Int) := by omega
            go_wp2_with fail
            refine (readerNum_any s a true 0 _ w1 g HR1.out (by omega) ha).mono ?_
            rintro e w2 ⟨rfl, hR2, ho2⟩
            rw [Pt.rdNum_bad] at hR2
            have hc3 := hR2.cell2
            have Hb2 : Hid (Below g w w2) := Hb1.out.trans (ho2.below (fun j hj e => by omega) (by have := HR1.out.lt; omega))
            simp only at hc3
            clear hR2 ho2 hc2
            go_wp2_with fail
            go_ret3
            exact ⟨_, by rw [HR.out]; rfl, by rw [HR.out]; exact own_nil _ _ _ _, by rw [Hgg.out]; exact Hb2.out⟩
          · have hnn : ¬ (0 : Int) < (n : Int) := by omega
            go_wp2_with fail
            go_ret3
            exact ⟨_, by rw [HR.out]; rfl, by rw [HR.out]; exact own_nil _ _ _ _, by rw [Hgg.out]; exact Hb1.out⟩
    · obtain rfl : e0 = 0 := by
        by_cases h : e0 = 0
        · exact h
        · exact absurd (.inl h) hbad
      rw [if_neg (by simp; omega)] at hdef
      subst hdef
      obtain ⟨k, rfl⟩ : ∃ k : Nat, kI = k := ⟨kI.toNat, by omega⟩
      have hkn : k ≤ n := by omega
      have H1 := Lib.hid (W1 k to rfl hkn)
      have H2 := Lib.hid (fun ws b => @W2 k to rfl hkn ws b)
      have H3 := Lib.hid (fun ws l b c u => @W3 k to rfl hkn ws l b c u)
      have H4 := Lib.hid (fun ws l b c u => @W4 k to rfl hkn ws l b c u)
      clear hbad HH W1 W2 W3 W4
      go_enter Try.func108, Try.ntmps108
      go_wp2_with fail
      refine H0.out.mono ?_
      rintro e w1 ⟨rfl, hR1, ho1⟩
      have HR1 := Lib.hid hR1
      have Hb1 : Hid (Below w.heap.size w w1) := Hb0.out.trans (ho1.below (fun j hj e => by omega) (by have := Hz.out; omega))
      clear hR1 ho1 H0 HR0 Hb0 Hz
      generalize hgg : w.heap.size = g at *
      have Hgg := Lib.hid hgg
      clear hgg
      go_wp2_with fail
      go_loopw [10, 12, 38] (fun vw _ i wr => ∃ (j : Nat) (ws : List ByteArray) (a' : Int), j ≤ k ∧ i = .int .i64 (j : Int) ∧ ws.length ≤ j ∧ Hid (ws.length = j) ∧ (-9223372036854775808 ≤ a' ∧ a' ≤ 9223372036854775807) ∧ Hid (Cl.rdWords s k [] to = Cl.rdWords s (k - j) ws a') ∧ Hid (RdAt wr g s (a', false)) ∧ Hid (wr.ownsRow (g + 1) 9 1 vw ws.length (ws.map Value.string)) ∧ Hid (Below g w wr)) (fun _ _ i _ => k - (intOf i).toNat)
      case atStart => exact ⟨0, [], to, Nat.zero_le _, rfl, Nat.le_refl _, Lib.hid rfl, hb1, Lib.hid (by simp), HR1, Lib.hid (own_nil _ _ _ _), Hb1⟩
      case round =>
        obtain ⟨j, ws, a', hj, rfl, hwl2, HWl, ha', hrel, hR, hown, hbw⟩ := hrel
        obtain ⟨Wo, hWo⟩ : ∃ Wo, Wo = wr := ⟨_, rfl⟩
        subst hWo
        have hgl := hR.out.lt
        obtain ⟨Aw, cw, rfl, hnc, hrw⟩ := own_slice hown.out
        by_cases hlt : j < k
        · have G1 := Lib.hid (readerText_any s a' false 12 Wo g hR.out hs ha' (by omega))
          have hT := Pt.getT_at s a' 12
          have HSt := Lib.hid (fun h => H1.out (wd_stop hlt hrel.out h))
          have HGo := Lib.hid (fun x nx h h2 => wd_step (x := x) (nx := nx) hlt hrel.out h h2)
          have hdef : Pt.rdText s 12 (a', false) = if (Wr.getT s a' 12).2.2 ≠ 0 ∨ false = true then (⟨#[]⟩, (a', true)) else ((Wr.getT s a' 12).1, ((Wr.getT s a' 12).2.1, false)) := rfl
          clear hrel H1 H2 H3 H4
          generalize Pt.rdText s 12 (a', false) = Y at *
          generalize Wr.getT s a' 12 = T at *
          obtain ⟨x, nx, e1⟩ := T
          simp only at hT HSt hdef
          by_cases he1 : e1 = 0
          · subst he1
            rw [if_neg (by simp)] at hdef
            subst hdef
            have hxs : x.size ≤ s.size := hT.2.2
            by_cases hix : Cl.idx ws x < ws.length
            · have HR := Lib.hid (HSt.out (.inr hix))
              have hdx : decide (Cl.idx ws x < ws.length) = true := decide_eq_true hix
              clear HSt HGo hrw
              go_wp2_with fail
              refine G1.out.mono ?_
              rintro e w2 ⟨rfl, hR2, ho2⟩
              have hc2 := hR2.cell2
              have Ho2 := Lib.hid (own_only hown.out ho2 (fun g' hg' e => own_ne_lt hown.out (Nat.lt_succ_self g) (by rw [hg', e])))
              have Hb2 : Hid (Below g w w2) := hbw.out.trans (ho2.below (fun j hj e => by omega) (by omega))
              have G2 := Lib.hid (contains_any Aw cw ws x w2 w2.heap.size (Reads.of_own Ho2.out) (by omega))
              rw [hdx] at G2
              simp only at hc2
              clear hR2 ho2 hdx hix
              go_wp2_with fail
              refine G2.out.mono ?_
              rintro e w' ⟨rfl, rfl⟩
              go_wp2_with fail
              go_ret3
              exact ⟨_, by rw [HR.out]; rfl, by rw [HR.out]; exact own_nil _ _ _ _, by rw [Hgg.out]; exact Hb2.out⟩
            · have HR := Lib.hid (HGo.out x nx rfl hix)
              have hdx : decide (Cl.idx ws x < ws.length) = false := decide_eq_false hix
              clear HSt HGo hrw hix
              go_wp2_with fail
              refine G1.out.mono ?_
              rintro e w2 ⟨rfl, hR2, ho2⟩
              have hc2 := hR2.cell2
              have HR2 := Lib.hid hR2
              have Ho2 := Lib.hid (own_only hown.out ho2 (fun g' hg' e => own_ne_lt hown.out (Nat.lt_succ_self g) (by rw [hg', e])))
              have Hb2 : Hid (Below g w w2) := hbw.out.trans (ho2.below (fun j hj e => by omega) (by omega))
              have G2 := Lib.hid (contains_any Aw cw ws x w2 w2.heap.size (Reads.of_own Ho2.out) (by omega))
              rw [hdx] at G2
              have hs2 := HR2.out.lt
              simp only at hc2
              clear hR2 ho2 hdx
              go_wp2_with fail
              refine G2.out.mono ?_
              rintro e w' ⟨rfl, rfl⟩
              go_wp2_with (at_builtin; refine wpList_push_only _ rfl _ _ 95 rfl (g + 1) 9 i0 _ 1 16 Try.underlying95 hi hz0 hz1 hz2 rfl (by decide) _ ws.length _ (by rfl) Ho2.out [.string x] (by rfl) rfl (by simp [Value.oneCell']) (by unfold maxLen; omega) (by omega) (by omega) ?_; intro v8 w8 hown8 ho8 _)
              have Hown8 : Hid (w8.ownsRow (g + 1) 9 1 v8 (ws ++ [x]).length ((ws ++ [x]).map Value.string)) := by
                show World.ownsRow _ _ _ _ _ _ _
                rw [List.length_append, List.map_append]; exact hown8
              have HR8 : Hid (RdAt w8 g s (nx, false)) := HR2.out.only ho8 (own_ne_lt Ho2.out (Nat.lt_succ_self g))
              have Hb8 : Hid (Below g w w8) := Hb2.out.trans (ho8.below (fun j hj e => own_ne_lt Ho2.out (by omega) e) (by omega))
              have hwl3 : Hid ((ws ++ [x]).length = j + 1) := by show _ = _; rw [List.length_append, HWl.out]; rfl
              have hwl4 : (ws ++ [x]).length ≤ j + 1 := by simp; omega
              clear hown8 ho8
              go_wp2_with fail
              go_roundw
              case rel => exact ⟨j + 1, ws ++ [x], nx, by omega, by go_num, hwl4, hwl3, by omega, HR, HR8, Hown8, Hb8⟩
              case measure => simp [intOf]; omega
          · rw [if_pos (.inl he1)] at hdef
            subst hdef
            have HR := Lib.hid (HSt.out (.inl he1))
            clear HSt HGo he1 hrw
            go_wp2_with fail
            refine G1.out.mono ?_
            rintro e w2 ⟨rfl, hR2, ho2⟩
            have hc2 := hR2.cell2
            have Hb2 : Hid (Below g w w2) := hbw.out.trans (ho2.below (fun j hj e => by omega) (by omega))
            simp only at hc2
            clear hR2 ho2
            go_wp2_with fail
            go_ret3
            exact ⟨_, by rw [HR.out]; rfl, by rw [HR.out]; exact own_nil _ _ _ _, by rw [Hgg.out]; exact Hb2.out⟩
        · have hwd := wd_done hlt hrel.out
          have HP2 := Lib.hid (fun h => H2.out ws a' hwd h)
          have HP3 := Lib.hid (fun l c u h hu => H3.out ws l a' c u hwd h hu)
          have HP4 := Lib.hid (fun l c u h hu => H4.out ws l a' c u hwd h hu)
          clear hrel H1 H2 H3 H4 hwd
          have Hrw := Lib.hid hrw
          clear hrw
          go_wp2_with fail
          go_loopw [11, 13, 14, 57] (fun vo vc _ i wr => ∃ (q used : Nat) (out : List ByteArray) (b' : Int), q ≤ n ∧ i = .int .i64 (q : Int) ∧ vc = .int .i64 (used : Int) ∧ used ≤ q ∧ out.length ≤ q ∧ (-9223372036854775808 ≤ b' ∧ b' ≤ 9223372036854775807) ∧ Hid (Cl.rdPlaces s.data.toList ws n 0 a' = (Cl.rdPlaces s.data.toList ws (n - q) used b').map fun r => (out ++ r.1, r.2)) ∧ Hid (RdAt wr g s (b', false)) ∧ Hid (wr.ownsRow Wo.heap.size 9 1 vo out.length (out.map Value.string)) ∧ Hid (Only (fun k => k = g) Wo wr)) (fun _ _ _ i _ => n - (intOf i).toNat)
          case atStart => exact ⟨0, 0, [], a', Nat.zero_le _, rfl, rfl, Nat.le_refl _, by simp, ha', Lib.hid (by simp), hR, Lib.hid (own_nil _ _ _ _), Lib.hid (Only.refl _ _)⟩
          case round =>
            obtain ⟨q, used, out, b', hq, rfl, rfl, huq, hol, hb', hrel, hRq, howno, hoq⟩ := hrel
            have hgr := hRq.out.lt
            by_cases hlt2 : q < n
            · have G1 := Lib.hid (readerNum_any s b' false 0 (min (used : Int) ((ws.length : Int) - 1)) wr g hRq.out (by omega) hb')
              have hbd := getN_bd' s b' hs
              have HSt := Lib.hid (fun h => HP2.out (pl_stop hlt2 hrel.out h))
              have HGo := Lib.hid (fun (x : Nat) nx h (h1 : x < ws.length) h2 => pl_step (x := x) (nx := nx) hlt2 hrel.out h h1 h2)
              have hdef : Pt.rdNum s 0 (min (used : Int) ((ws.length : Int) - 1)) (b', false) = if (Wr.getN s.data.toList b').2.2 ≠ 0 ∨ (Wr.getN s.data.toList b').1 < 0 ∨ (min (used : Int) ((ws.length : Int) - 1)) < (Wr.getN s.data.toList b').1 ∨ false = true then (0, (b', true)) else ((Wr.getN s.data.toList b').1, ((Wr.getN s.data.toList b').2.1, false)) := rfl
              clear hrel HP2 HP3 HP4
              generalize Pt.rdNum s 0 (min (used : Int) ((ws.length : Int) - 1)) (b', false) = Y at *
              generalize Wr.getN s.data.toList b' = X at *
              obtain ⟨xI, nx, e2⟩ := X
              simp only at hbd HSt hdef
              obtain ⟨hb3, hb4⟩ := hbd
              by_cases hbad : e2 ≠ 0 ∨ xI < 0 ∨ (ws.length : Int) ≤ xI ∨ (used : Int) < xI
              · have HR := Lib.hid (HSt.out hbad)
                rw [if_pos (by
                  rcases hbad with h | h | h | h
                  · exact .inl h
                  · exact .inr (.inl h)
                  · exact .inr (.inr (.inl (by omega)))
                  · exact .inr (.inr (.inl (by omega))))] at hdef
                subst hdef
                clear HSt HGo hbad
                go_wp2_with fail
                refine G1.out.mono ?_
                rintro e w2 ⟨rfl, hR2, ho2⟩
                have hc2 := hR2.cell2
                have Hb2 : Hid (Below g w w2) := hbw.out.trans ((hoq.out.below (fun j hj e => by omega) (by omega)).trans (ho2.below (fun j hj e => by omega) (by omega)))
                simp only at hc2
                clear hR2 ho2
                go_wp2_with fail
                go_ret3
                exact ⟨_, by rw [HR.out]; rfl, by rw [HR.out]; exact own_nil _ _ _ _, by rw [Hgg.out]; exact Hb2.out⟩
              · obtain rfl : e2 = 0 := by
                  by_cases h : e2 = 0
                  · exact h
                  · exact absurd (.inl h) hbad
                rw [if_neg (by simp; omega)] at hdef
                subst hdef
                obtain ⟨x, rfl⟩ : ∃ x : Nat, xI = x := ⟨xI.toNat, by omega⟩
                have hxw : x < ws.length := by omega
                have hxu : x ≤ used := by omega
                have HR := Lib.hid (HGo.out x nx rfl hxw hxu)
                clear HSt HGo hbad
                go_wp2_with fail
                refine G1.out.mono ?_
                rintro e w2 ⟨rfl, hR2, ho2⟩
                have hc2 := hR2.cell2
                have HR2 := Lib.hid hR2
                have HO2 : Hid (Only (fun k => k = g) Wo w2) := hoq.out.trans ho2 (fun _ _ h => h)
                have Ho2 := Lib.hid (own_only howno.out ho2 (fun g' hg' e => own_ne_lt howno.out hgl (by rw [hg', e])))
                have hw2 := own_only hown.out HO2.out (fun g' hg' e => own_ne_lt hown.out (Nat.lt_succ_self g) (by rw [hg', e]))
                have hrw2 := Reads.of_own hw2
                obtain ⟨bw, ow, rfl, hbw2, hcw⟩ := hrw2.2 (by omega)
                have hcellw := map_cell (wr := w2) (B := w2.heap.size) hxw hcw (fun p hp => rfl) hbw2
                have hs2 := HO2.out.size
                simp only at hc2
                clear hR2 ho2 hw2 hrw2 hcw
                generalize ws[x] = y at *
                by_cases heq : x = used
                · subst heq
                  rw [if_pos rfl] at HR
                  go_wp2_with (at_builtin; refine wpList_push_only _ rfl _ _ 95 rfl Wo.heap.size 9 i0 _ 1 16 Try.underlying95 hi hz0 hz1 hz2 rfl (by decide) _ out.length _ (by rfl) Ho2.out [.string y] (by rfl) rfl (by simp [Value.oneCell']) (by unfold maxLen; omega) (by omega) (by omega) ?_; intro v8 w8 hown8 ho8 _)
                  have Hown8 : Hid (w8.ownsRow Wo.heap.size 9 1 v8 (out ++ [y]).length ((out ++ [y]).map Value.string)) := by
                    show World.ownsRow _ _ _ _ _ _ _
                    rw [List.length_append, List.map_append]; exact hown8
                  have HR8 : Hid (RdAt w8 g s (nx, false)) := HR2.out.only ho8 (own_ne_lt Ho2.out hgl)
                  have HO8 : Hid (Only (fun k => k = g) Wo w8) := HO2.out.trans ho8 (fun j hj e => absurd e (own_ne_lt Ho2.out hj))
                  have hol2 : (out ++ [y]).length ≤ q + 1 := by simp; omega
                  clear hown8 ho8
                  go_wp2_with fail
                  go_roundw
                  case rel => exact ⟨q + 1, x + 1, out ++ [y], nx, by omega, by go_num, by first | rfl | (show Value.int .i64 _ = Value.int .i64 _; congr 1; omega), by omega, hol2, hb3, HR, HR8, Hown8, HO8⟩
                  case measure => simp [intOf]; omega
                · rw [if_neg heq] at HR
                  have hlu : x < used := by omega
                  clear heq
                  go_wp2_with (at_builtin; refine wpList_push_only _ rfl _ _ 95 rfl Wo.heap.size 9 i0 _ 1 16 Try.underlying95 hi hz0 hz1 hz2 rfl (by decide) _ out.length _ (by rfl) Ho2.out [.string y] (by rfl) rfl (by simp [Value.oneCell']) (by unfold maxLen; omega) (by omega) (by omega) ?_; intro v8 w8 hown8 ho8 _)
                  have Hown8 : Hid (w8.ownsRow Wo.heap.size 9 1 v8 (out ++ [y]).length ((out ++ [y]).map Value.string)) := by
                    show World.ownsRow _ _ _ _ _ _ _
                    rw [List.length_append, List.map_append]; exact hown8
                  have HR8 : Hid (RdAt w8 g s (nx, false)) := HR2.out.only ho8 (own_ne_lt Ho2.out hgl)
                  have HO8 : Hid (Only (fun k => k = g) Wo w8) := HO2.out.trans ho8 (fun j hj e => absurd e (own_ne_lt Ho2.out hj))
                  have hol2 : (out ++ [y]).length ≤ q + 1 := by simp; omega
                  clear hown8 ho8
                  go_wp2_with fail
                  go_roundw
                  case rel => exact ⟨q + 1, used, out ++ [y], nx, by omega, by go_num, by first | rfl | (show Value.int .i64 _ = Value.int .i64 _; congr 1; omega), by omega, hol2, hb3, HR, HR8, Hown8, HO8⟩
                  case measure => simp [intOf]; omega
            · have hpd := pl_done hlt2 hrel.out
              have hc2 := hRq.out.cell2
              have hc1 := hRq.out.cell1
              have Hbf : Hid (Below g w wr) := hbw.out.trans (hoq.out.below (fun j hj e => by omega) (by omega))
              simp only at hc2 hc1
              by_cases hu : used = ws.length
              · have HR := Lib.hid (HP4.out out b' used hpd hu)
                have hzz : ((used : Int) != (ws.length : Int)) = false := by simp; omega
                clear hrel HP2 HP3 HP4 hpd hu
                obtain ⟨Ao, co, rfl, hno, _⟩ := own_slice howno.out
                go_wp2_with fail
                go_quiet (fail)
                go_wp2_with fail
                go_ret3
                exact ⟨_, by rw [HR.out]; rfl, by rw [HR.out, Hgg.out]; exact own_drewN (own_down howno.out (by omega)) _, by rw [Hgg.out]; exact below_drewN Hbf.out _⟩
              · have HR := Lib.hid (HP3.out out b' used hpd hu)
                have hzz : ((used : Int) != (ws.length : Int)) = true := by simp; omega
                clear hrel HP2 HP3 HP4 hpd hu
                go_wp2_with fail
                go_ret3
                exact ⟨_, by rw [HR.out]; rfl, by rw [HR.out]; exact own_nil _ _ _ _, by rw [Hgg.out]; exact Hbf.out⟩
end Go.Proofs.Ytapdlmiioljpgaa
/- The walk through column.GetInts. -/
namespace Go.Proofs.Ytapdlmiioljpgaa
open Go.RowKit
set_option linter.unusedVariables false

set_option maxRecDepth 100000 in
set_option maxHeartbeats 1600000 in
theorem getInts_any (s : ByteArray) (a many : Int) (w : World) (hs : s.size ≤ 4611686018427387904) (ha : -9223372036854775808 ≤ a ∧ a ≤ 9223372036854775807) :
    Calls Try.prog 109 #[.string s, .int .i64 a, .int .i64 many] w (IntsPost w (Cl.getInts s a many)) := by
  obtain ⟨i0, hi, hz0, hz1, hz2⟩ := info_parts info_int
  by_cases hno : many < 0 ∨ 65536 < many ∨ a < 0 ∨ (s.size : Int) < a
  · have HR := Lib.hid (getInts_no hno)
    generalize Cl.getInts s a many = res at *
    by_cases h1 : many < 0
    · clear hno
      go_enter Try.func109, Try.ntmps109
      go_wp2_with fail
      go_ret3
      exact ⟨_, by rw [HR.out]; rfl, by rw [HR.out]; exact own_nil _ _ _ _, Below.refl _ _⟩
    · by_cases h2 : 65536 < many
      · clear hno
        go_enter Try.func109, Try.ntmps109
        go_wp2_with fail
        go_ret3
        exact ⟨_, by rw [HR.out]; rfl, by rw [HR.out]; exact own_nil _ _ _ _, Below.refl _ _⟩
      · by_cases h3 : a < 0
        · clear hno
          go_enter Try.func109, Try.ntmps109
          go_wp2_with fail
          go_ret3
          exact ⟨_, by rw [HR.out]; rfl, by rw [HR.out]; exact own_nil _ _ _ _, Below.refl _ _⟩
        · have h4 : (s.size : Int) < a := by omega
          clear hno
          go_enter Try.func109, Try.ntmps109
          go_wp2_with fail
          go_ret3
          exact ⟨_, by rw [HR.out]; rfl, by rw [HR.out]; exact own_nil _ _ _ _, Below.refl _ _⟩
  · obtain ⟨n, rfl⟩ : ∃ n : Nat, many = n := ⟨many.toNat, by omega⟩
    have HN := Lib.hid (fun h => @getInts_none s a n h)
    have HO := Lib.hid (fun r h => @getInts_some s a n r (by omega) (by omega) h)
    have hm0 : ¬ (n : Int) < 0 := by omega
    have hm1 : ¬ 65536 < (n : Int) := by omega
    have ha0 : ¬ a < 0 := by omega
    have ha1 : ¬ (s.size : Int) < a := by omega
    clear hno
    generalize Cl.getInts s a (n : Int) = res at *
    go_enter Try.func109, Try.ntmps109
    go_wp2_with fail
    have hR0 := RdAt.new w s a
    have hb0 : Below w.heap.size w (w.alloc (.cells #[.string s, .int .i64 a, .bool false] 125)) := (Below.refl _ _).alloc (Nat.le_refl _) _
    have hz : (w.alloc (.cells #[.string s, .int .i64 a, .bool false] 125)).heap.size = w.heap.size + 1 := by simp
    have HR0 := Lib.hid hR0
    have Hb0 := Lib.hid hb0
    have Hz := Lib.hid hz
    clear hR0 hb0 hz
    generalize w.alloc (.cells #[.string s, .int .i64 a, .bool false] 125) = w1 at *
    generalize hgg : w.heap.size = g at *
    have Hgg := Lib.hid hgg
    clear hgg
    go_loopw [10, 11, 33] (fun vo vl i wr => ∃ (k : Nat) (out : List Int) (last a' : Int), k ≤ n ∧ i = .int .i64 (k : Int) ∧ vl = .int .i64 last ∧ (-2147483648 ≤ last ∧ last ≤ 2147483647) ∧ out.length ≤ k ∧ (-9223372036854775808 ≤ a' ∧ a' ≤ 9223372036854775807) ∧ Hid (Cl.goInts s.data.toList n 0 a = (Cl.goInts s.data.toList (n - k) last a').map fun r => (out ++ r.1, r.2)) ∧ Hid (RdAt wr g s (a', false)) ∧ Hid (wr.ownsRow (g + 1) 3 1 vo out.length (out.map (Value.int .i64))) ∧ Hid (Below g w wr)) (fun _ _ i _ => n - (intOf i).toNat)
    case atStart => exact ⟨0, [], 0, a, Nat.zero_le _, rfl, rfl, by omega, by simp, ha, Lib.hid (by simp), HR0, Lib.hid (own_nil _ _ _ _), Hb0⟩
    case round =>
      obtain ⟨k, out, last, a', hk, rfl, rfl, hlast, hol, ha', hrel, hR, hown, hbw⟩ := hrel
      have hgl := hR.out.lt
      by_cases hlt : k < n
      · have H1 := Lib.hid (readerNum_any s a' false (-8589934592) 8589934592 wr g hR.out (by omega) ha')
        have hbd := getN_bd' s a' hs
        have HSt := Lib.hid (fun h => HN.out (go_stop hlt hrel.out h))
        have HGo := Lib.hid (fun d to h h2 => go_step (d := d) (to := to) hlt hrel.out h h2)
        have hdef : Pt.rdNum s (-8589934592) 8589934592 (a', false) = if (Wr.getN s.data.toList a').2.2 ≠ 0 ∨ (Wr.getN s.data.toList a').1 < -8589934592 ∨ 8589934592 < (Wr.getN s.data.toList a').1 ∨ false = true then (0, (a', true)) else ((Wr.getN s.data.toList a').1, ((Wr.getN s.data.toList a').2.1, false)) := rfl
        clear hrel HN HO
        generalize Pt.rdNum s (-8589934592) 8589934592 (a', false) = Y at *
        generalize Wr.getN s.data.toList a' = X at *
        obtain ⟨d, to, e0⟩ := X
        simp only at hbd HSt hdef
        obtain ⟨hb1, hb2⟩ := hbd
        by_cases hbad : e0 ≠ 0 ∨ d < -8589934592 ∨ 8589934592 < d ∨ false = true
        · rw [if_pos hbad] at hdef
          subst hdef
          have HRf := Lib.hid (HSt.out (by
            rcases hbad with h | h | h | h
            · exact .inl h
            · exact .inr ((Pt.smallB_false _).2 (by omega))
            · exact .inr ((Pt.smallB_false _).2 (by omega))
            · cases h))
          clear HSt HGo hbad
          go_wp2_with fail
          refine H1.out.mono ?_
          rintro e w2 ⟨rfl, hR2, ho2⟩
          have hc2 := hR2.cell2
          simp only at hc2
          have Hb2 : Hid (Below g w w2) := hbw.out.trans (ho2.below (fun j hj e => by omega) (by omega))
          clear hR2 ho2
          go_wp2_with fail
          go_ret3
          exact ⟨_, by rw [HRf.out]; rfl, by rw [HRf.out]; exact own_nil _ _ _ _, by rw [Hgg.out]; exact Hb2.out⟩
        · rw [if_neg hbad] at hdef
          subst hdef
          obtain rfl : e0 = 0 := by
            by_cases h : e0 = 0
            · exact h
            · exact absurd (.inl h) hbad
          have hd1 : -8589934592 ≤ d ∧ d ≤ 8589934592 := by omega
          have HS := fun W => Lib.hid (small_any (last + d) W (by omega))
          clear hbad
          cases hs : Pt.smallB (last + d)
          · have HRf := Lib.hid (HSt.out (.inr hs))
            rw [hs] at HS
            clear hs HSt HGo
            go_wp2_with fail
            refine H1.out.mono ?_
            rintro e w2 ⟨rfl, hR2, ho2⟩
            have hc2 := hR2.cell2
            simp only at hc2
            have Hb2 : Hid (Below g w w2) := hbw.out.trans (ho2.below (fun j hj e => by omega) (by omega))
            clear hR2 ho2
            go_wp2_with fail
            refine (HS _).out.mono ?_
            rintro e w' ⟨rfl, rfl⟩
            go_wp2_with fail
            go_ret3
            exact ⟨_, by rw [HRf.out]; rfl, by rw [HRf.out]; exact own_nil _ _ _ _, by rw [Hgg.out]; exact Hb2.out⟩
          · have hsm := (Pt.smallB_iff _).1 hs
            have HRf := Lib.hid (HGo.out d to rfl hs)
            rw [hs] at HS
            clear hs HSt HGo
            go_wp2_with fail
            refine H1.out.mono ?_
            rintro e w2 ⟨rfl, hR2, ho2⟩
            have hc2 := hR2.cell2
            simp only at hc2
            have Hb2 : Hid (Below g w w2) := hbw.out.trans (ho2.below (fun j hj e => by omega) (by omega))
            have HR2 := Lib.hid hR2
            have Ho2 := Lib.hid (own_only hown.out ho2 (fun g' hg' e => own_ne_lt hown.out (Nat.lt_succ_self g) (by rw [hg', e])))
            have hs2 := HR2.out.lt
            clear hR2 ho2
            go_wp2_with fail
            refine (HS _).out.mono ?_
            rintro e w' ⟨rfl, rfl⟩
            go_wp2_with (at_builtin; refine wpList_push_only _ rfl _ _ 57 rfl (g + 1) 3 i0 _ 1 8 Try.underlying57 hi hz0 hz1 hz2 rfl (by decide) _ out.length _ (by rfl) Ho2.out [.int .i64 (last + d)] (by rfl) rfl (by simp [Value.oneCell']) (by unfold maxLen; omega) (by omega) (by omega) ?_; intro v8 w8 hown8 ho8 _)
            have Hown8 : Hid (w8.ownsRow (g + 1) 3 1 v8 (out ++ [last + d]).length ((out ++ [last + d]).map (Value.int .i64))) := by
              show World.ownsRow _ _ _ _ _ _ _
              rw [List.length_append, List.map_append]; exact hown8
            have HR8 : Hid (RdAt w8 g s (to, false)) := HR2.out.only ho8 (own_ne_lt Ho2.out (Nat.lt_succ_self g))
            have Hb8 : Hid (Below g w w8) := Hb2.out.trans (ho8.below (fun j hj e => own_ne_lt Ho2.out (by omega) e) (by omega))
            have hol2 : (out ++ [last + d]).length ≤ k + 1 := by simp; omega
            clear hown8 ho8
            go_wp2_with fail
            go_roundw
            case rel => exact ⟨k + 1, out ++ [last + d], last + d, to, by omega, by go_num, rfl, hsm, hol2, hb1, HRf, HR8, Hown8, Hb8⟩
            case measure => simp [intOf]; omega
      · have HRf := Lib.hid (HO.out _ (go_done (by omega) hrel.out))
        clear hrel HN HO
        obtain ⟨A, c, rfl, hnc, _⟩ := own_slice hown.out
        have hc1 := hR.out.cell1
        simp only at hc1
        go_wp2_with fail
        go_quiet (fail)
        go_wp2_with fail
        go_ret3
        exact ⟨_, by rw [HRf.out]; rfl, by rw [HRf.out, Hgg.out]; exact own_drewN (own_down hown.out (Nat.le_succ g)) _, by rw [Hgg.out]; exact below_drewN hbw.out _⟩
end Go.Proofs.Ytapdlmiioljpgaa
/- The walk through segment.Put. -/
namespace Go.Proofs.Ytapdlmiioljpgaa
open Go.RowKit
set_option linter.unusedVariables false

theorem sg_cell_keep {w : World} {p : Addr} {u : Value} (o : Obj) (h : w.cell? p = some u) : (w.alloc o).cell? p = some u := (World.cell?_alloc_lt w o p (World.block_lt_of_cell? w _ h)).trans h
theorem drew_cell (w : World) (p : Addr) : w.drew.cell? p = w.cell? p := rfl
theorem drew_size (w : World) : w.drew.heap.size = w.heap.size := rfl
set_option maxRecDepth 100000 in
set_option maxHeartbeats 4000000 in
theorem sgput_any (r : Int) (A : Option Addr) (c : Nat) (ps : List Pt.Point) (w : World) (B : Nat) (hr : Reads w B 3 A ps.length (ps.flatMap pointCells)) (hB : B ≤ w.heap.size) (hn : ps.length ≤ 140737488355328) (hwf : ∀ p ∈ ps, Pt.wf p) :
    Calls Try.prog 15 #[.int .i64 r, .slice A ps.length c] w fun e w' => e = .returned (.tuple #[.string (Sg.putR r ps).1, .int .i64 (Sg.putR r ps).2]) ∧ Below w.heap.size w w' := by
  obtain ⟨i0, hi, hz0, hz1, hz2⟩ := info_parts info_string
  obtain ⟨i1, hi', hy0, hy1, hy2⟩ := info_parts info_int
  have HRs := Lib.hid (sgmay_any A c ps w B hr hB hn hwf)
  have HRd := Lib.hid hr
  by_cases hrg : r < 1 ∨ 512 < r
  · have HR := Lib.hid (putR_range (ps := ps) hrg)
    generalize Sg.putR r ps = res at *
    clear HRs hr hwf
    by_cases h1 : r < 1
    · clear hrg
      go_enter Try.func15, Try.ntmps15
      go_wp2_with fail
      go_ret2
      exact ⟨by rw [HR.out]; rfl, Below.refl _ _⟩
    · have h2 : 512 < r := by omega
      clear hrg
      go_enter Try.func15, Try.ntmps15
      go_wp2_with fail
      go_ret2
      exact ⟨by rw [HR.out]; rfl, Below.refl _ _⟩
  · have hr1 : ¬ r < 1 := by omega
    have hr2 : ¬ 512 < r := by omega
    have d1 : decide (r < 1) = false := decide_eq_false hr1
    have d2 : decide (512 < r) = false := decide_eq_false hr2
    cases hrise : Sg.riseB ps
    · have HR := Lib.hid (putR_form hrg hrise)
      rw [hrise] at HRs
      generalize Sg.putR r ps = res at *
      clear hr hwf hrise hrg
      go_enter Try.func15, Try.ntmps15
      go_wp2_with fail
      refine HRs.out.mono ?_
      rintro e w1 ⟨rfl, hb1⟩
      go_wp2_with fail
      go_ret2
      exact ⟨by rw [HR.out]; rfl, hb1⟩
    · have HR := Lib.hid (putR_good hrg hrise)
      rw [hrise] at HRs
      have h64 := rise_len hrise
      have hmay := rise_may hrise
      have HM := Lib.hid hmay
      have hTl := textsB_le (names_short hmay) (by simp [Sg.names]; omega)
      have hI1 := intsB_le (times_small hmay)
      have hI2 := intsB_le (vals_small hmay)
      have hln : (Sg.names ps).length = ps.length := by simp [Sg.names]
      have hlt' : (Sg.times ps).length = ps.length := by simp [Sg.times]
      have hlv : (Sg.vals ps).length = ps.length := by simp [Sg.vals]
      have hpr := Wr.putL_len r
      have hpr' : (Wr.putB r).size ≤ 8 := by rw [Wr.putB_size]; exact hpr
      have hpn : (Wr.putB (ps.length : Int)).size ≤ 8 := by rw [Wr.putB_size]; exact Wr.putL_len _
      have HN1 := fun W => Lib.hid (putNum_any r W (by omega))
      have HN2 := fun W => Lib.hid (putNum_any (ps.length : Int) W (by omega))
      have htw : ∀ x ∈ Sg.times ps, -9223372036854775808 ≤ x ∧ x ≤ 9223372036854775807 := fun x hx => by have := (Pt.smallB_iff x).1 (times_small hmay x hx); omega
      have hvw : ∀ x ∈ Sg.vals ps, -9223372036854775808 ≤ x ∧ x ≤ 9223372036854775807 := fun x hx => by have := (Pt.smallB_iff x).1 (vals_small hmay x hx); omega
      have Htw := Lib.hid htw
      have Hvw := Lib.hid hvw
      have Hln := Lib.hid hln
      have Hlt := Lib.hid hlt'
      have Hlv := Lib.hid hlv
      have hqT : (Cl.textsB (Sg.names ps)).size ≤ 2000 := by omega
      have hqI : (Cl.intsB (Sg.times ps)).size ≤ 2000 := by omega
      have hqV : (Cl.intsB (Sg.vals ps)).size ≤ 2000 := by omega
      generalize Sg.putR r ps = res at *
      clear hr hwf hrise hrg hmay htw hvw hln hlt' hlv hTl hI1 hI2 hpr
      go_enter Try.func15, Try.ntmps15
      go_wp2_with fail
      refine HRs.out.mono ?_
      rintro e w1 ⟨rfl, hb1⟩
      have Hb1 := Lib.hid hb1
      have hs1 := hb1.size
      clear hb1 HRs
      go_wp2_with fail
      go_loopw [6, 7, 8, 10, 25] (fun vn vt vv _ i wr => ∃ k : Nat, k ≤ ps.length ∧ i = .int .i64 (k : Int) ∧ Hid (Rows3 w1.heap.size vn vt vv (Sg.names (ps.take k)) (Sg.times (ps.take k)) (Sg.vals (ps.take k)) wr) ∧ Hid (Below w1.heap.size w1 wr)) (fun _ _ _ _ i _ => ps.length - (intOf i).toNat)
      case atStart => exact ⟨0, Nat.zero_le _, rfl, Lib.hid (Rows3.nil _ _), Lib.hid (Below.refl _ _)⟩
      case round =>
        obtain ⟨k, hk, rfl, h3, hbw⟩ := hrel
        have hsw := hbw.out.size
        by_cases hlt : k < ps.length
        · obtain ⟨bb, off, rfl, hbb, hc⟩ := HRd.out.2 (by omega)
          have hcx := fun (W : World) (hb : Below w1.heap.size w1 W) => pt_cells (wr := W) hlt hc (fun p hp => (hb.cell (p := p) (by omega)).trans (Hb1.out.cell (p := p) (by omega))) hbb
          have Hcx := Lib.hid hcx
          obtain ⟨hc0, hc1, hc2⟩ := hcx wr hbw.out
          have Hn : Hid (Sg.names (ps.take (k + 1)) = Sg.names (ps.take k) ++ [ps[k].1]) := map_take_snoc _ ps k hlt
          have Ht : Hid (Sg.times (ps.take (k + 1)) = Sg.times (ps.take k) ++ [ps[k].2.1]) := map_take_snoc _ ps k hlt
          have Hv : Hid (Sg.vals (ps.take (k + 1)) = Sg.vals (ps.take k) ++ [ps[k].2.2]) := map_take_snoc _ ps k hlt
          have hl1 : (Sg.names (ps.take k)).length ≤ 64 := by simp [Sg.names]; omega
          have hl2 : (Sg.times (ps.take k)).length ≤ 64 := by simp [Sg.times]; omega
          have hl3 : (Sg.vals (ps.take k)).length ≤ 64 := by simp [Sg.vals]; omega
          clear hc hcx
          generalize Sg.names (ps.take k) = N at *
          generalize Sg.times (ps.take k) = T at *
          generalize Sg.vals (ps.take k) = V at *
          generalize ps[k].1 = nm at *
          generalize ps[k].2.1 = t at *
          generalize ps[k].2.2 = v at *
          go_wp2_with fail
          have H0 : Hid (Rows3 w1.heap.size u6 u7 u8 N T V (wr.alloc (.cells #[.string nm, .int .i64 t, .int .i64 v] 88))) := h3.out.alloc _
          have HB0 : Hid (Below w1.heap.size w1 (wr.alloc (.cells #[.string nm, .int .i64 t, .int .i64 v] 88))) := hbw.out.alloc hsw _
          have hP := pt3_of (Blk.new wr 88 #[.string nm, .int .i64 t, .int .i64 v])
          have hz0' : (wr.alloc (.cells #[.string nm, .int .i64 t, .int .i64 v] 88)).heap.size = wr.heap.size + 1 := World.size_alloc _ _
          have fN : ∀ g, wr.heap.size ≤ g → u6.ownBlock ≠ some g := fun g hg e => by have := (own_lt h3.out.n e).2; omega
          have fT : ∀ g, wr.heap.size ≤ g → u7.ownBlock ≠ some g := fun g hg e => by have := (own_lt h3.out.t e).2; omega
          have fV : ∀ g, wr.heap.size ≤ g → u8.ownBlock ≠ some g := fun g hg e => by have := (own_lt h3.out.v e).2; omega
          have lN := Lib.hid (fun j (hj : u6.ownBlock = some j) => (own_lt h3.out.n hj).1)
          have lT := Lib.hid (fun j (hj : u7.ownBlock = some j) => (own_lt h3.out.t hj).1)
          have lV := Lib.hid (fun j (hj : u8.ownBlock = some j) => (own_lt h3.out.v hj).1)
          generalize wr.alloc (.cells #[.string nm, .int .i64 t, .int .i64 v] 88) = w0 at *
          have QN := Lib.hid (fun g (h : w0.heap.size ≤ g) => fN g (by omega))
          have QT := Lib.hid (fun g (h : w0.heap.size ≤ g) => fT g (by omega))
          have QV := Lib.hid (fun g (h : w0.heap.size ≤ g) => fV g (by omega))
          have eN := Ne.symm (fN _ (Nat.le_refl _))
          have eT := Ne.symm (fT _ (Nat.le_refl _))
          have eV := Ne.symm (fV _ (Nat.le_refl _))
          have hsp : w1.heap.size ≤ w0.heap.size := by omega
          have hpl : wr.heap.size < w0.heap.size := by omega
          clear fN fT fV hz0' h3 hbw hc0 hc1 hc2
          generalize wr.heap.size = pb at *
          obtain ⟨hp0, hp1, hp2⟩ := hP
          go_region_held3 (fun w' => w'.cell? ⟨pb, 0, none⟩ = some (.string nm) ∧ w'.cell? ⟨pb, 1, none⟩ = some (.int .i64 t) ∧ w'.cell? ⟨pb, 2, none⟩ = some (.int .i64 v))
            (first
              | (go_keep; done)
              | (refine ⟨?_, ?_, ?_⟩ <;> (repeat (first | assumption | with_reducible refine (drew_cell _ _).trans ?_ | with_reducible refine sg_cell_keep _ ?_ | with_reducible refine (hg9.cell_far _ (by first | omega | (simp <;> omega)) eV).trans ?_ | with_reducible refine (hg8.cell_far _ (by first | omega | (simp <;> omega)) eT).trans ?_ | with_reducible refine (hg7.cell_far _ (by first | omega | (simp <;> omega)) eN).trans ?_))))
            (first
              | (refine' step_pushN (o := ⟨some 33, _, _, _, _, _⟩) (base := w1.heap.size) (vn := u6) (vt := u7) (vv := u8) (N := N) (T := T) (V := V) _ rfl (.tmp 29) (.tmp 32) ?_ ?_ ?_ _ ?_ nm ?_ hl1 ?_ ?_; rotate_left 4; (· rfl); (· (repeat (first | with_reducible exact cell_new_at _ _ (by first | rfl | simp) _ _ | with_reducible refine (drew_cell _ _).trans ?_ | with_reducible refine (World.cell?_alloc_lt _ _ _ (by first | omega | (simp <;> omega))).trans ?_ | with_reducible refine (k7.out _ (by first | omega | (simp <;> omega)) (by first | omega | (simp <;> omega))).trans ?_ | with_reducible refine (k8.out _ (by first | omega | (simp <;> omega)) (by first | omega | (simp <;> omega))).trans ?_))); (· (first | omega | (simp <;> omega))); rotate_left 1; (· rfl); (· (repeat (first | with_reducible exact H0.out | with_reducible refine Rows3.drew ?_ | with_reducible refine Rows3.alloc ?_ _))); (· rfl); intro g7 c7 w7 h7 hg7; have k7 := Lib.hid (fun (p : Addr) (h1 : w0.heap.size ≤ p.block) h2 => hg7.cell_far p h2 (fun e => QN.out p.block h1 e.symm)); have b7 : Hid (Below w1.heap.size w1 w7) := Below.grown (by repeat (first | with_reducible exact Hid.out HB0 | with_reducible refine Below.drew ?_ | with_reducible refine Below.alloc ?_ (by first | omega | (simp <;> omega)) _)) hg7 (by first | omega | (simp <;> omega)) lN.out; have s7 := hg7.size; (try simp only [World.size_alloc, drew_size] at s7))
              | (refine' step_pushT (o := ⟨some 38, _, _, _, _, _⟩) (base := w1.heap.size) (vn := .slice (some ⟨g7, 0, none⟩) (N.length + 1) c7) (vt := u7) (vv := u8) (N := N ++ [nm]) (T := T) (V := V) _ rfl (.tmp 34) (.tmp 37) ?_ ?_ ?_ _ ?_ t ?_ hl2 ?_ ?_; rotate_left 4; (· rfl); (· (repeat (first | with_reducible exact cell_new_at _ _ (by first | rfl | simp) _ _ | with_reducible refine (drew_cell _ _).trans ?_ | with_reducible refine (World.cell?_alloc_lt _ _ _ (by first | omega | (simp <;> omega))).trans ?_ | with_reducible refine (k7.out _ (by first | omega | (simp <;> omega)) (by first | omega | (simp <;> omega))).trans ?_ | with_reducible refine (k8.out _ (by first | omega | (simp <;> omega)) (by first | omega | (simp <;> omega))).trans ?_))); (· (first | omega | (simp <;> omega))); rotate_left 1; (· rfl); (· (repeat (first | with_reducible exact h7 | with_reducible refine Rows3.drew ?_ | with_reducible refine Rows3.alloc ?_ _))); (· rfl); intro g8 c8 w8 h8 hg8; have k8 := Lib.hid (fun (p : Addr) (h1 : w0.heap.size ≤ p.block) h2 => hg8.cell_far p h2 (fun e => QT.out p.block h1 e.symm)); have b8 : Hid (Below w1.heap.size w1 w8) := Below.grown (by repeat (first | with_reducible exact Hid.out b7 | with_reducible refine Below.drew ?_ | with_reducible refine Below.alloc ?_ (by first | omega | (simp <;> omega)) _)) hg8 (by first | omega | (simp <;> omega)) lT.out; have s8 := hg8.size; (try simp only [World.size_alloc] at s8))
              | (refine' step_pushV (o := ⟨some 43, _, _, _, _, _⟩) (base := w1.heap.size) (vn := .slice (some ⟨g7, 0, none⟩) (N.length + 1) c7) (vt := .slice (some ⟨g8, 0, none⟩) (T.length + 1) c8) (vv := u8) (N := N ++ [nm]) (T := T ++ [t]) (V := V) _ rfl (.tmp 39) (.tmp 42) ?_ ?_ ?_ _ ?_ v ?_ hl3 ?_ ?_; rotate_left 4; (· rfl); (· (repeat (first | with_reducible exact cell_new_at _ _ (by first | rfl | simp) _ _ | with_reducible refine (drew_cell _ _).trans ?_ | with_reducible refine (World.cell?_alloc_lt _ _ _ (by first | omega | (simp <;> omega))).trans ?_ | with_reducible refine (k7.out _ (by first | omega | (simp <;> omega)) (by first | omega | (simp <;> omega))).trans ?_ | with_reducible refine (k8.out _ (by first | omega | (simp <;> omega)) (by first | omega | (simp <;> omega))).trans ?_))); (· (first | omega | (simp <;> omega))); rotate_left 1; (· rfl); (· (repeat (first | with_reducible exact h8 | with_reducible refine Rows3.drew ?_ | with_reducible refine Rows3.alloc ?_ _))); (· rfl); intro g9 c9 w9 h9 hg9; have k9 := Lib.hid (fun (p : Addr) (h1 : w0.heap.size ≤ p.block) h2 => hg9.cell_far p h2 (fun e => QV.out p.block h1 e.symm)); have b9 : Hid (Below w1.heap.size w1 w9) := Below.grown (by repeat (first | with_reducible exact Hid.out b8 | with_reducible refine Below.drew ?_ | with_reducible refine Below.alloc ?_ (by first | omega | (simp <;> omega)) _)) hg9 (by first | omega | (simp <;> omega)) lV.out; have s9 := hg9.size; (try simp only [World.size_alloc] at s9)))
          all_goals (
            rw [← Hn.out, ← Ht.out, ← Hv.out] at h9
            have H9 := Lib.hid h9
            clear h7 h8 h9 hg7 hg8 hg9 k7 k8 k9 s7 s8 s9
            go_wp2_with fail
            go_roundw
            case rel => exact ⟨k + 1, by omega, by go_num, H9, b9⟩
            case measure => simp [intOf]; omega)
        · have htk : ps.take k = ps := List.take_of_length_le (by omega)
          rw [htk] at h3
          obtain ⟨An, cn, rfl, hnn, hrn⟩ := own_slice h3.out.n
          obtain ⟨At, ct, rfl, hnt, hrt⟩ := own_slice h3.out.t
          obtain ⟨Av, cv, rfl, hnv, hrv⟩ := own_slice h3.out.v
          have HT := fun W (hb : Below wr.heap.size wr W) => Lib.hid (texts_any An cn (Sg.names ps) W wr.heap.size (hrn.below hb) hb.size (by rw [Hln.out]; omega))
          have HI := fun W (hb : Below wr.heap.size wr W) => Lib.hid (ints_any At ct (Sg.times ps) W wr.heap.size (hrt.below hb) hb.size (by rw [Hlt.out]; omega) Htw.out)
          have HV := fun W (hb : Below wr.heap.size wr W) => Lib.hid (ints_any Av cv (Sg.vals ps) W wr.heap.size (hrv.below hb) hb.size (by rw [Hlv.out]; omega) Hvw.out)
          have HRb : Hid (res = (Sg.fileB (Sg.mark ++ Wr.putB r ++ Wr.putB (ps.length : Int) ++ Cl.textsB (Sg.names ps) ++ Cl.intsB (Sg.times ps) ++ Cl.intsB (Sg.vals ps)), 0)) := HR.out
          clear htk h3 hrn hrt hrv HR HM
          generalize Cl.textsB (Sg.names ps) = TB at *
          generalize Cl.intsB (Sg.times ps) = IB at *
          generalize Cl.intsB (Sg.vals ps) = VB at *
          generalize Wr.putB r = RB at *
          generalize Wr.putB (ps.length : Int) = NB at *
          generalize Sg.names ps = NN at *
          generalize Sg.times ps = TT at *
          generalize Sg.vals ps = VV at *
          go_wp2_with fail
          refine (HN1 _).out.mono ?_
          rintro e w2 ⟨rfl, hb2⟩
          have Hb2 := Lib.hid hb2
          clear hb2
          go_wp2_with fail
          refine (HN2 _).out.mono ?_
          rintro e w3 ⟨rfl, hb3⟩
          have Hb3 : Hid (Below wr.heap.size wr w3) := Hb2.out.trans (hb3.mono Hb2.out.size)
          clear hb3
          go_wp2_with fail
          refine (HT _ Hb3.out).out.mono ?_
          rintro e w4 ⟨rfl, hb4⟩
          have Hb4 : Hid (Below wr.heap.size wr w4) := Hb3.out.trans (hb4.mono Hb3.out.size)
          clear hb4
          go_wp2_with fail
          refine (HI _ Hb4.out).out.mono ?_
          rintro e w5 ⟨rfl, hb5⟩
          have Hb5 : Hid (Below wr.heap.size wr w5) := Hb4.out.trans (hb5.mono Hb4.out.size)
          clear hb5
          go_wp2_with fail
          refine (HV _ Hb5.out).out.mono ?_
          rintro e w6 ⟨rfl, hb6⟩
          have Hb6 : Hid (Below wr.heap.size wr w6) := Hb5.out.trans (hb6.mono Hb5.out.size)
          clear hb6
          go_wp2_with fail
          have HRc : Hid (res = (Sg.fileB (⟨#[83, 69, 71, 49]⟩ ++ RB ++ NB ++ TB ++ IB ++ VB), 0)) := HRb.out
          have hbs : ((⟨#[83, 69, 71, 49]⟩ : ByteArray) ++ RB ++ NB ++ TB ++ IB ++ VB).size ≤ 10000 := by
            simp only [ByteArray.size_append]
            have : (⟨#[83, 69, 71, 49]⟩ : ByteArray).size = 4 := rfl
            omega
          clear HRb
          generalize (⟨#[83, 69, 71, 49]⟩ : ByteArray) ++ RB ++ NB ++ TB ++ IB ++ VB = BD at *
          refine (hash_any BD _ (by unfold maxLen; omega)).mono ?_
          rintro e w' ⟨rfl, rfl⟩
          have hhl := Sm.hashL_lt BD.data.toList
          have hts := Sg.tailB_size (Sm.hashL BD.data.toList)
          have hts' : (Sg.tailB (Sm.hashL BD.data.toList)).size ≤ 8 := by omega
          have HR8 := fun W => Lib.hid (tail_any (Sm.hashL BD.data.toList) W hhl)
          have HRd2 : Hid (res = (BD ++ Sg.tailB (Sm.hashL BD.data.toList), 0)) := HRc.out
          clear hts HRc hhl
          generalize Sm.hashL BD.data.toList = hh at *
          go_wp2_with fail
          refine (HR8 _).out.mono ?_
          rintro e w7 ⟨rfl, hb7⟩
          have Hb7 : Hid (Below wr.heap.size wr w7) := Hb6.out.trans (hb7.mono Hb6.out.size)
          clear hb7
          generalize Sg.tailB hh = TL at *
          go_wp2_with fail
          go_ret2
          exact ⟨by rw [HRd2.out]; rfl, Hb1.out.trans ((hbw.out.mono hs1).trans (Hb7.out.mono (Nat.le_trans hs1 hsw)))⟩
end Go.Proofs.Ytapdlmiioljpgaa
