/- The walk through the reference's GetPoints, and SpoilPoints. -/
import Derived.Test.YtjfdkjgmjjfmcaaPtRef
import Derived.Laws.BitsAllLaws
namespace Go.Proofs.Ytjfdkjgmjjfmcaa
open Go.RowKit
set_option linter.unusedVariables false

set_option maxRecDepth 100000 in
set_option maxHeartbeats 1600000 in
theorem rgetPoints_any (s : ByteArray) (a : Int) (w : World) (hs : s.size ≤ 4611686018427387904) (ha : -9223372036854775808 ≤ a ∧ a ≤ 9223372036854775807) :
    Calls Try.prog 60 #[.string s, .int .i64 a] w (GetPost w (Pt.getPts s a)) := by
  obtain ⟨i0, hi, hz0, hz1, hz2⟩ := info_parts info_point
  have H0 := fun W => Lib.hid (rgetNum_any s a W (by omega) ha)
  have hbd := getN_bd s a hs
  have HH := getPts_head s a
  have HO := fun (x m : Int) (h : Wr.getN s.data.toList a = (x, m, 0)) (h1 : 0 ≤ x) (h2 : x ≤ 8) => Pt.rdNum_ok s 0 8 a x m h h1 h2
  have HSt := Lib.hid (fun (n k : Nat) (to0 : Int) (out : List Pt.Point) (r : Pt.St) => @getPts_stop s a n k to0 out r)
  have HEn := Lib.hid (fun (n : Nat) (to0 to : Int) (out : List Pt.Point) => @getPts_end s a n to0 to out)
  generalize Pt.getPts s a = res at *
  generalize Wr.getN s.data.toList a = X at *
  obtain ⟨x, to0, e0⟩ := X
  simp only [gnV] at H0 hbd HH
  by_cases h0 : e0 = 0
  · by_cases h1 : x < 0
    · have HR : Hid (res = ([], 0, 300)) := HH (.inr (.inl h1))
      have hz : (e0 != 0) = false := by simp [h0]
      clear HH HO h0 HSt HEn
      go_enter Try.func60, Try.ntmps60
      go_wp2_with fail
      refine (H0 _).out.mono ?_
      rintro e w' ⟨rfl, rfl⟩
      go_wp2_with fail
      go_ret3
      exact ⟨_, by rw [HR.out]; rfl, by rw [HR.out]; exact own_nil _ _ _ _, Below.refl _ _⟩
    · by_cases h2 : 8 < x
      · have HR : Hid (res = ([], 0, 300)) := HH (.inr (.inr h2))
        have hz : (e0 != 0) = false := by simp [h0]
        clear HH HO h0 HSt HEn
        go_enter Try.func60, Try.ntmps60
        go_wp2_with fail
        refine (H0 _).out.mono ?_
        rintro e w' ⟨rfl, rfl⟩
        go_wp2_with fail
        go_ret3
        exact ⟨_, by rw [HR.out]; rfl, by rw [HR.out]; exact own_nil _ _ _ _, Below.refl _ _⟩
      · subst h0
        have HR0 := Lib.hid (HO x to0 rfl (by omega) (by omega))
        obtain ⟨n, rfl⟩ : ∃ n : Nat, x = n := ⟨x.toNat, by omega⟩
        obtain ⟨⟨hb1, hb2⟩, _⟩ := hbd
        clear HH HO
        go_enter Try.func60, Try.ntmps60
        go_wp2_with fail
        refine (H0 _).out.mono ?_
        rintro e w' ⟨rfl, rfl⟩
        go_wp2_with fail
        go_loopw [8, 10, 11, 12, 13, 14, 15, 16, 17, 18, 19, 20, 21] (fun vt vo i _ _ _ _ _ _ _ _ _ _ wr => ∃ (k : Nat) (out : List Pt.Point) (to : Int), k ≤ n ∧ i = .int .i64 (k : Int) ∧ vt = .int .i64 to ∧ Hid (Pt.rdPts s n (to0, false) = (out ++ (Pt.rdPts s (n - k) (to, false)).1, (Pt.rdPts s (n - k) (to, false)).2)) ∧ out.length ≤ k ∧ (-9223372036854775808 ≤ to ∧ to ≤ 9223372036854775807) ∧ Hid (wr.ownsRow w.heap.size 85 3 vo out.length (out.flatMap pointCells)) ∧ Hid (Below w.heap.size w wr)) (fun _ _ i _ _ _ _ _ _ _ _ _ _ _ => n - (intOf i).toNat)
        case atStart => exact ⟨0, [], to0, Nat.zero_le _, rfl, rfl, Lib.hid (by simp), by simp, ⟨hb1, hb2⟩, Lib.hid (own_nil _ _ _ _), Lib.hid (Below.refl _ _)⟩
        case round =>
          obtain ⟨k, out, to, hk, rfl, rfl, hrel, hol, hto, hown, hbw⟩ := hrel
          by_cases hlt : k < n
          · have Hgo : Hid (∀ p r, Pt.rdPt s (to, false) = (p, r) → Pt.rdPts s n (to0, false) = ((out ++ [p]) ++ (Pt.rdPts s (n - (k + 1)) r).1, (Pt.rdPts s (n - (k + 1)) r).2)) := by
              intro p r h
              rw [hrel.out, show n - k = (n - (k + 1)) + 1 from by omega, rdPts_more, h]; simp
            have Hst : Hid ((Pt.rdPt s (to, false)).2.2 = true → res = ([], 0, 300)) := fun h => HSt.out n k to0 out (to, false) HR0.out hrel.out hlt h
            clear hrel HSt HEn
            have H1 := fun W => Lib.hid (rgetText_any s to 12 W hs hto (by omega))
            have hT := Pt.getT_at s to 12
            have B1 := rdPt_ref_bad1 s to
            have B2 := @rdPt_ref_bad2 s to
            have B3 := @rdPt_ref_bad3 s to
            have B4 := @rdPt_ref_bad4 s to
            have OK := @rdPt_ref_ok s to
            generalize Wr.getT s to 12 = T at *
            obtain ⟨nm, a1, e1⟩ := T
            simp only [gtV] at H1 hT B1
            by_cases he1 : e1 = 0
            · subst he1
              have H2 := fun W => Lib.hid (rgetNum_any s a1 W (by omega) (by omega))
              have hN := getN_bd s a1 hs
              have B2' := B2 rfl
              have B3' := fun t a2 => @B3 nm t a1 a2 rfl
              have B4' := fun t v a2 a3 => @B4 nm t v a1 a2 a3 rfl
              have OK' := fun t v a2 a3 => @OK nm t v a1 a2 a3 rfl
              clear B1 B2 B3 B4 OK
              generalize Wr.getN s.data.toList a1 = Y at *
              obtain ⟨t, a2, e2⟩ := Y
              simp only [gnV] at H2 hN B2'
              obtain ⟨hN1, hN2⟩ := hN
              by_cases he2 : e2 = 0
              · subst he2
                have H3 := fun W => Lib.hid (rgetNum_any s a2 W (by omega) hN1)
                have hM := getN_bd s a2 hs
                have B3 := B3' t a2 rfl
                have B4 := fun v a3 => B4' t v a2 a3 rfl
                have OK := fun v a3 => OK' t v a2 a3 rfl
                clear B2' B3' B4' OK'
                generalize Wr.getN s.data.toList a2 = Z at *
                obtain ⟨v, a3, e3⟩ := Z
                simp only [gnV] at H3 hM B3
                obtain ⟨hM1, hM2⟩ := hM
                have hwf : Pt.wf (nm, t, v) := ⟨hN2, hM2⟩
                have HMay := fun W => Lib.hid (rmay_any (nm, t, v) W hwf)
                by_cases he3 : e3 = 0
                · subst he3
                  have B4' := B4 v a3 rfl
                  have OK' := OK v a3 rfl
                  have Hgo2 := Lib.hid (fun h => Hgo.out (nm, t, v) (a3, false) (OK' h))
                  have Hst2 := Lib.hid (fun h => Hst.out (B4' h))
                  clear B3 B4 OK OK' B4' Hgo Hst
                  have hsw := hbw.out.size
                  go_wp2_with fail
                  refine (H1 _).out.mono ?_
                  rintro e w' ⟨rfl, rfl⟩
                  go_wp2_with fail
                  refine (H2 _).out.mono ?_
                  rintro e w' ⟨rfl, rfl⟩
                  go_wp2_with fail
                  refine (H3 _).out.mono ?_
                  rintro e w' ⟨rfl, rfl⟩
                  go_wp2_with fail
                  have hPa := Blk.new wr 85 #[.string nm, .int .i64 t, .int .i64 v]
                  have hba := hbw.out.alloc hsw (.cells #[.string nm, .int .i64 t, .int .i64 v] 85)
                  have hoa := hown.out.alloc (.cells #[.string nm, .int .i64 t, .int .i64 v] 85)
                  refine (HMay _).out.mono ?_
                  rintro e w2 ⟨rfl, hb2⟩
                  obtain ⟨hp0, hp1, hp2⟩ := pt3_of (Blk.below hPa hb2 hPa.lt)
                  have Hb2 : Hid (Below w.heap.size w w2) := hba.trans (hb2.mono hba.size)
                  have Ho2 := Lib.hid (own_only hoa (Only.new (fun _ => False) hb2) (fun _ _ h => h))
                  have hs2 := Hb2.out.size
                  clear hPa hba hoa hb2
                  cases hm : Pt.mayB (nm, t, v)
                  · have HRf := Lib.hid (Hst2.out hm)
                    clear Hst2 Hgo2 hm
                    go_wp2_with fail
                    go_ret3
                    exact ⟨_, by rw [HRf.out]; rfl, by rw [HRf.out]; exact own_nil _ _ _ _, Hb2.out⟩
                  · have HRf := Lib.hid (Hgo2.out hm)
                    clear Hst2 Hgo2 hm
                    generalize wr.heap.size = h at *
                    go_wp2_with (at_builtin; refine wpList_push _ rfl _ _ 70 rfl w.heap.size 85 i0 _ 3 32 Try.underlying70 hi hz0 hz1 hz2 rfl (by decide) _ out.length _ (by rfl) Ho2.out [.string nm, .int .i64 t, .int .i64 v] (by rfl) rfl (by simp [Value.oneCell']) (by unfold maxLen; omega) (by omega) w Hb2.out hs2 ?_; intro v8 w8 hown8 hb8)
                    have Hown8 : Hid (w8.ownsRow w.heap.size 85 3 v8 (out ++ [(nm, t, v)]).length ((out ++ [(nm, t, v)]).flatMap pointCells)) := by
                      show World.ownsRow _ _ _ _ _ _ _
                      rw [List.length_append, List.flatMap_append]; exact hown8
                    have Hb8 := Lib.hid hb8
                    clear hown8 hb8
                    go_wp2_with fail
                    go_roundw
                    case rel => exact ⟨k + 1, out ++ [(nm, t, v)], a3, by omega, by go_num, rfl, HRf, by simp; omega, hM1, Hown8, Hb8⟩
                    case measure => simp [intOf]; omega
                · have hz3 : (e3 != 0) = true := by simp [he3]
                  have HRf := Lib.hid (Hst.out (B3 he3))
                  clear B3 B4 OK Hgo Hst he3
                  go_wp2_with fail
                  refine (H1 _).out.mono ?_
                  rintro e w' ⟨rfl, rfl⟩
                  go_wp2_with fail
                  refine (H2 _).out.mono ?_
                  rintro e w' ⟨rfl, rfl⟩
                  go_wp2_with fail
                  refine (H3 _).out.mono ?_
                  rintro e w' ⟨rfl, rfl⟩
                  go_wp2_with fail
                  go_ret3
                  exact ⟨_, by rw [HRf.out]; rfl, by rw [HRf.out]; exact own_nil _ _ _ _, hbw.out.alloc hbw.out.size _⟩
              · have hz2' : (e2 != 0) = true := by simp [he2]
                have HRf := Lib.hid (Hst.out (B2' he2))
                clear B2' B3' B4' OK' Hgo Hst he2
                go_wp2_with fail
                refine (H1 _).out.mono ?_
                rintro e w' ⟨rfl, rfl⟩
                go_wp2_with fail
                refine (H2 _).out.mono ?_
                rintro e w' ⟨rfl, rfl⟩
                go_wp2_with fail
                go_ret3
                exact ⟨_, by rw [HRf.out]; rfl, by rw [HRf.out]; exact own_nil _ _ _ _, hbw.out⟩
            · have hz1' : (e1 != 0) = true := by simp [he1]
              have HRf := Lib.hid (Hst.out (B1 he1))
              clear B1 B2 B3 B4 OK Hgo Hst he1
              go_wp2_with fail
              refine (H1 _).out.mono ?_
              rintro e w' ⟨rfl, rfl⟩
              go_wp2_with fail
              go_ret3
              exact ⟨_, by rw [HRf.out]; rfl, by rw [HRf.out]; exact own_nil _ _ _ _, hbw.out⟩
          · have hnk : n - k = 0 := by omega
            have HRf : Hid (res = (out, to, 0)) := HEn.out n to0 to out HR0.out (by rw [hrel.out, hnk]; simp [Pt.rdPts])
            clear hrel HSt HEn hnk
            obtain ⟨A, c, rfl, hnc, _⟩ := own_slice hown.out
            go_wp2_with fail
            go_ret3
            exact ⟨_, by rw [HRf.out]; rfl, by rw [HRf.out]; exact hown.out, hbw.out⟩
  · have HR : Hid (res = ([], 0, 300)) := HH (.inl h0)
    have hz : (e0 != 0) = true := by simp [h0]
    clear HH HO h0 HSt HEn
    go_enter Try.func60, Try.ntmps60
    go_wp2_with fail
    refine (H0 _).out.mono ?_
    rintro e w' ⟨rfl, rfl⟩
    go_wp2_with fail
    go_ret3
    exact ⟨_, by rw [HR.out]; rfl, by rw [HR.out]; exact own_nil _ _ _ _, Below.refl _ _⟩
end Go.Proofs.Ytjfdkjgmjjfmcaa
