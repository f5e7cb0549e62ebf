/- The walk through segment.columns. -/
import Derived.Test.YtfopbkgbegeffaaKSgCols
namespace Go.Proofs.Ytfopbkgbegeffaa
open Go.RowKit
set_option linter.unusedVariables false

def ColsPost (w : World) (q : Int × List Pt.Point × Bool) (e : Ending) (w' : World) : Prop :=
  ∃ v, e = .returned (.tuple #[.int .i64 q.1, v, .bool q.2.2]) ∧ w'.ownsRow w.heap.size 58 3 v q.2.1.length (q.2.1.flatMap pointCells) ∧ Below w.heap.size w w'
theorem info_pt : (Try.prog.info? 58).map (fun i => (i.zero, i.size, i.bytes)) = some (some (.agg #[.string ⟨#[]⟩, .int .i64 0, .int .i64 0]), 3, 32) := by kernel_rfl
theorem mark_ne {s : ByteArray} (h : s ≠ Sg.mark) : (s.toList == [83, 69, 71, 49]) = false := by
  have h1 := str_ne_of h
  have h2 : Sg.mark.toList = [83, 69, 71, 49] := by decide +kernel
  rwa [h2] at h1
attribute [local go_sem ↓] Go.wp_at_zero Go.wp_at_succ
set_option maxRecDepth 100000 in
set_option maxHeartbeats 3200000 in
theorem columns_any (s : ByteArray) (w : World) (hs : s.size ≤ 140737488355328) (h4 : 4 ≤ s.size) :
    Calls Try.prog 98 #[.string s] w (ColsPost w (Sg.colsR s)) := by
  obtain ⟨i0, hi, hz0, hz1, hz2⟩ := info_parts info_pt
  have HR0 := Lib.hid (RdAt.new w s 4)
  have Hb0 : Hid (Below w.heap.size w (w.alloc (.cells #[.string s, .int .i64 4, .bool false] 109))) := (Below.refl _ _).alloc (Nat.le_refl _) _
  have Hz : Hid ((w.alloc (.cells #[.string s, .int .i64 4, .bool false] 109)).heap.size = w.heap.size + 1) := by simp [Hid]
  have H0 := Lib.hid (readerNum_any s 4 false 1 512 _ w.heap.size HR0.out (by omega) (by omega))
  have CB := @cols_bad s
  have CN := @cols_no s
  have CY := @cols_yes s
  have hat1 := Pt.rdNum_at s 1 512 (4, false) (by simp) (by simp) (by omega)
  generalize Sg.colsR s = res at *
  generalize hX1 : Pt.rdNum s 1 512 (4, false) = X1 at *
  obtain ⟨r, a1, b1⟩ := X1
  simp only at hat1
  have hat2 := Pt.rdNum_at s 0 64 (a1, b1) hat1.2 hat1.1 (by omega)
  have hrn2 := Pt.rdNum_range s 0 64 (a1, b1) (by omega) (by omega)
  have H1 := fun W h => Lib.hid (readerNum_any s a1 b1 0 64 W w.heap.size h (by omega) hat1)
  generalize hX2 : Pt.rdNum s 0 64 (a1, b1) = X2 at *
  obtain ⟨nI, a2, b2⟩ := X2
  simp only at hat2 hrn2
  obtain ⟨n, rfl⟩ : ∃ n : Nat, nI = n := ⟨nI.toNat, by omega⟩
  have CB' := Lib.hid (fun h => CB rfl hX2 h)
  have HX2 := Lib.hid hX2
  have HX1 := Lib.hid hX1
  clear CB hX1 hX2
  go_enter Try.func98, Try.ntmps98
  go_wp2_with fail
  refine H0.out.mono ?_
  rintro e w1 ⟨rfl, hR1, ho1⟩
  have HR1 := Lib.hid hR1
  have Hb1 : Hid (Below w.heap.size w w1) := Hb0.out.trans (ho1.below (fun j hj e => by omega) (by have := Hz.out; omega))
  clear hR1 ho1 H0 HR0 Hb0 Hz
  go_wp2_with fail
  refine (H1 w1 HR1.out).out.mono ?_
  rintro e w2 ⟨rfl, hR2, ho2⟩
  have HR2 := Lib.hid hR2
  have Hb2 : Hid (Below w.heap.size w w2) := Hb1.out.trans (ho2.below (fun j hj e => by omega) Hb1.out.size)
  have hc1 := hR2.cell1
  have hc2 := hR2.cell2
  simp only at hc1 hc2
  have hs2 := Hb2.out.size
  clear hR2 ho2 H1 HR1 Hb1
  cases b2
  · by_cases hmk : s.extract 0 4 = Sg.mark
    · have hme : ((s.extract 0 4).toList == [83, 69, 71, 49]) = true := by rw [hmk]; decide +kernel
      have hme2 : ((s.extract 0 4).toList == (⟨#[83, 69, 71, 49]⟩ : ByteArray).toList) = true := by rw [hmk]; decide +kernel
      have H3 := fun W => Lib.hid (getTexts_any s a2 (n : Int) W (by omega) hat2)
      have hat3 := getTexts_at s a2 (n : Int) (by omega)
      have CN' := fun N T V b c d e f g => @CN r (a1, b1) n a2 N T V b c d e f g rfl HX2.out
      have CY' := fun N T V b c => @CY r (a1, b1) n a2 N T V b c rfl HX2.out hmk
      have GL := @getTexts_ok_len s a2 n
      clear CN CY CB' HX1
      generalize Cl.getTexts s a2 (n : Int) = Y1 at *
      obtain ⟨N, b, e3⟩ := Y1
      simp only at hat3
      have H4 := fun W => Lib.hid (getInts_any s b (n : Int) W (by omega) hat3)
      have hat4 := getInts_at s b (n : Int) (by omega) hat3
      have hwT := getInts_wf s b (n : Int)
      have GT := @getInts_ok_len s b n
      have CN2 := fun T V c d f g h4 h5 h => CN' N T V b c d e3 f g rfl h4 h5 h
      have CY2 := fun (he : e3 = 0) T V c h4 h5 => CY' N T V b c (by rw [he]) h4 h5
      clear CN' CY'
      generalize Cl.getInts s b (n : Int) = Y2 at *
      obtain ⟨T, c, e4⟩ := Y2
      simp only at hat4 hwT
      have H5 := fun W => Lib.hid (getInts_any s c (n : Int) W (by omega) hat4)
      have hwV := getInts_wf s c (n : Int)
      have GV := @getInts_ok_len s c n
      have CN3 := fun V d g h5 h => CN2 T V c d e4 g rfl h5 h
      have CY3 := fun (he : e3 = 0) (hf : e4 = 0) V h5 => CY2 he T V c (by rw [hf]) h5
      clear CN2 CY2
      generalize Cl.getInts s c (n : Int) = Y3 at *
      obtain ⟨V, d, e5⟩ := Y3
      simp only at hwV
      have CN4 := Lib.hid (fun h => CN3 V d e5 rfl h)
      have CY4 := Lib.hid (fun (he : e3 = 0) (hf : e4 = 0) (hg : e5 = 0) (hd : d = (s.size : Int)) => CY3 he hf V (by rw [hg, hd]))
      have HwT := Lib.hid hwT
      have HwV := Lib.hid hwV
      have GL' := Lib.hid (fun (h : e3 = 0) => GL (N := N) (c := b) (by rw [h]))
      have GT' := Lib.hid (fun (h : e4 = 0) => (GT (T := T) (c := c) (by rw [h])).1)
      have GV' := Lib.hid (fun (h : e5 = 0) => (GV (T := V) (c := d) (by rw [h])).1)
      clear CN3 CY3 hwT hwV GL GT GV hmk
      go_wp2_with fail
      refine (H3 w2).out.mono ?_
      rintro e w3 ⟨vN, rfl, hownN, hb3⟩
      have hs3 := hb3.size
      have Hb3 : Hid (Below w.heap.size w w3) := Hb2.out.trans (hb3.mono hs2)
      obtain ⟨AN, cN, rfl, hcapN, hrN⟩ := own_slice hownN
      have HrN := Lib.hid hrN
      clear H3 hownN hb3 hrN HR2 Hb2 hc1 hc2
      go_wp2_with fail
      refine (H4 w3).out.mono ?_
      rintro e w4 ⟨vT, rfl, hownT, hb4⟩
      have hs4 := hb4.size
      have Hb4 : Hid (Below w.heap.size w w4) := Hb3.out.trans (hb4.mono (by omega))
      obtain ⟨AT, cT, rfl, hcapT, hrT⟩ := own_slice hownT
      have HrT := Lib.hid hrT
      have HrN4 := Lib.hid (HrN.out.below hb4)
      clear H4 hownT hb4 hrT HrN Hb3
      go_wp2_with fail
      refine (H5 w4).out.mono ?_
      rintro e w5 ⟨vV, rfl, hownV, hb5⟩
      have hs5 := hb5.size
      have Hb5 : Hid (Below w.heap.size w w5) := Hb4.out.trans (hb5.mono (by omega))
      obtain ⟨AV, cV, rfl, hcapV, hrV⟩ := own_slice hownV
      have HrV := Lib.hid hrV
      have HrN5 := Lib.hid ((HrN4.out.below (hb5.mono hs4)).more (show w3.heap.size ≤ w5.heap.size by omega))
      have HrT5 := Lib.hid ((HrT.out.below hb5).more (show w4.heap.size ≤ w5.heap.size by omega))
      clear H5 hownV hb5 hrV HrN4 HrT Hb4
      simp only at HrN5 HrT5 HrV
      by_cases he3 : e3 = 0
      · by_cases he4 : e4 = 0
        · by_cases he5 : e5 = 0
          · by_cases hd : d = (s.size : Int)
            · have HR := Lib.hid (CY4.out he3 he4 he5 hd)
              have hlN := GL'.out he3
              have hlT := GT'.out he4
              have hlV := GV'.out he5
              subst he3 he4 he5
              subst hd
              have hwz := zip_wf (n := n) (N := N) HwT.out HwV.out
              have Hwz := Lib.hid hwz
              have HlN := Lib.hid hlN
              have HlT := Lib.hid hlT
              have HlV := Lib.hid hlV
              have l1 : n ≤ N.length := by omega
              have l2 : n ≤ T.length := by omega
              have l3 : n ≤ V.length := by omega
              clear hwz HwT HwV CY4 CN4 GL' GT' GV' hlN hlT hlV
              go_wp2_with fail
              go_loopw [3, 14, 75] (fun vp _ i wr => ∃ k : Nat, k ≤ n ∧ i = .int .i64 (k : Int) ∧ Hid (wr.ownsRow w5.heap.size 58 3 vp k ((Sg.zip k N T V).flatMap pointCells)) ∧ Hid (Below w5.heap.size w5 wr)) (fun _ _ i _ => n - (intOf i).toNat)
              case atStart => exact ⟨0, Nat.zero_le _, rfl, Lib.hid (own_nil _ _ _ _), Lib.hid (Below.refl _ _)⟩
              case round =>
                obtain ⟨k, hk, rfl, hown, hbw⟩ := hrel
                have hsw := hbw.out.size
                by_cases hlt : k < n
                · have g1 : k < N.length := by omega
                  have g2 : k < T.length := by omega
                  have g3 : k < V.length := by omega
                  obtain ⟨bN, oN, rfl, hbN, hxN⟩ := HrN5.out.2 (by omega)
                  obtain ⟨bT, oT, rfl, hbT, hxT⟩ := HrT5.out.2 (by omega)
                  obtain ⟨bV, oV, rfl, hbV, hxV⟩ := HrV.out.2 (by omega)
                  have cN' := map_cell (wr := wr) (B := w5.heap.size) g1 hxN (fun p hp => hbw.out.cell hp) hbN
                  have cT' := map_cell (wr := wr) (B := w5.heap.size) g2 hxT (fun p hp => hbw.out.cell hp) hbT
                  have cV' := map_cell (wr := wr) (B := w5.heap.size) g3 hxV (fun p hp => hbw.out.cell hp) hbV
                  have Hz := Lib.hid (zip_snoc k N T V g1 g2 g3)
                  have nN := Ne.symm (own_ne_lt hown.out hbN)
                  have nT := Ne.symm (own_ne_lt hown.out hbT)
                  have nV := Ne.symm (own_ne_lt hown.out hbV)
                  have k0 : (0 : Int) ≤ (k : Int) := Int.natCast_nonneg _
                  have k1 : (k : Int) < (N.length : Int) := by omega
                  have k2 : (k : Int) < (T.length : Int) := by omega
                  have k3 : (k : Int) < (V.length : Int) := by omega
                  clear hxN hxT hxV HrN5 HrT5 HrV
                  go_wp2_with fail
                  have hm64 : k + 1 ≤ maxLen := by unfold maxLen; omega
                  have Hown := hown
                  go_region_held3 (fun w' => w'.cell? ⟨bN, oN + k, none⟩ = some (.string N[k]) ∧ w'.cell? ⟨bT, oT + k, none⟩ = some (.int .i64 T[k]) ∧ w'.cell? ⟨bV, oV + k, none⟩ = some (.int .i64 V[k]))
                    (first
                      | go_keep
                      | (go_split_ands
                         refine ⟨?_, ?_, ?_⟩
                         · (rw [hgrow.cell_far _ (by simp; omega) nN]; assumption)
                         · (rw [hgrow.cell_far _ (by simp; omega) nT]; assumption)
                         · (rw [hgrow.cell_far _ (by simp; omega) nV]; assumption)))
                    ((refine step_append_lies _ (by rfl) _ _ _ (by rfl) w5.heap.size 58 i0 _ 3 32 Try.underlying22 hi hz0 hz1 hz2 rfl (by omega) u3 k _ (by rfl) ((hown.out.alloc _).drew)
                        ⟨wr.heap.size, 0, none⟩ 1 1 [.string N[k], .int .i64 T[k], .int .i64 V[k]] (by rfl) (by rfl) (World.news_of_block (cs := #[.string N[k], .int .i64 T[k], .int .i64 V[k]]) (t := 58) (fr := (0, 0)) (heap_alloc_new wr _)) (by simp [Value.oneCell'])
                        (by omega) hm64 (by omega) (by simp; omega) (wr.heap.size + 1) (by simp) ?_; intro gg cap w1 hown1 hgrow hat hlt))
                  rename_i hlt0 _
                  have hbw1 : Hid (Below w5.heap.size w5 w1) := (((hbw.out.alloc hsw _).drew).grown hgrow (by simp; omega) (fun j hj => (own_lt hown.out hj).1))
                  have hown2 : Hid (w1.ownsRow w5.heap.size 58 3 (.slice (some ⟨gg, 0, none⟩) (k + 1) cap) (k + 1) ((Sg.zip (k + 1) N T V).flatMap pointCells)) := by
                    rw [Hz.out, List.flatMap_append]; exact hown1
                  clear hown1 hgrow hat hown Hown hbw Hz
                  go_wp2_with fail
                  go_roundw
                  case rel => exact ⟨k + 1, by omega, by go_num, hown2, hbw1⟩
                  case measure => simp [intOf]; omega
                · have hkn : k = n := by omega
                  subst hkn
                  obtain ⟨AP, cP, rfl, hcapP, hrP⟩ := own_slice hown.out
                  have HM := Lib.hid (sgmay_any AP cP (Sg.zip k N T V) wr wr.heap.size (by rw [zip_len]; exact hrP) (Nat.le_refl _) (by rw [zip_len]; omega) Hwz.out)
                  rw [zip_len] at HM
                  clear hrP Hwz
                  go_wp2_with fail
                  refine HM.out.mono ?_
                  rintro e w6 ⟨rfl, hb6⟩
                  have hown6 := own_only hown.out (Only.new (fun _ => False) hb6) (fun _ _ h => h)
                  go_wp2_with fail
                  go_ret3
                  exact ⟨_, by rw [HR.out]; rfl, by rw [HR.out]; simp only; rw [zip_len]; exact own_down hown6 (by omega), Hb5.out.trans ((hbw.out.trans (hb6.mono hsw)).mono (by omega))⟩
            · have HR := Lib.hid (CN4.out (.inr (.inr (.inr hd))))
              subst he3 he4 he5
              clear CY4 CN4 GL' GT' GV' HwT HwV
              go_wp2_with fail
              go_ret3
              exact ⟨_, by rw [HR.out]; rfl, by rw [HR.out]; exact own_nil _ _ _ _, Hb5.out⟩
          · have HR := Lib.hid (CN4.out (.inr (.inr (.inl he5))))
            subst he3 he4
            clear CY4 CN4 GL' GT' GV' HwT HwV
            go_wp2_with fail
            go_ret3
            exact ⟨_, by rw [HR.out]; rfl, by rw [HR.out]; exact own_nil _ _ _ _, Hb5.out⟩
        · have HR := Lib.hid (CN4.out (.inr (.inl he4)))
          subst he3
          clear CY4 CN4 GL' GT' GV' HwT HwV
          go_wp2_with fail
          go_ret3
          exact ⟨_, by rw [HR.out]; rfl, by rw [HR.out]; exact own_nil _ _ _ _, Hb5.out⟩
      · have HR := Lib.hid (CN4.out (.inl he3))
        clear CY4 CN4 GL' GT' GV' HwT HwV
        go_wp2_with fail
        go_ret3
        exact ⟨_, by rw [HR.out]; rfl, by rw [HR.out]; exact own_nil _ _ _ _, Hb5.out⟩
    · have hme : ((s.extract 0 4).toList == [83, 69, 71, 49]) = false := mark_ne hmk
      have hme2 : ((s.extract 0 4).toList == (⟨#[83, 69, 71, 49]⟩ : ByteArray).toList) = false := str_ne_of (b := Sg.mark) hmk
      have HR := Lib.hid (CB'.out (.inr hmk))
      clear CN CY CB' HX1 HX2 hmk
      go_wp2_with fail
      go_ret3
      exact ⟨_, by rw [HR.out]; rfl, by rw [HR.out]; exact own_nil _ _ _ _, Hb2.out⟩
  · have HR := Lib.hid (CB'.out (.inl rfl))
    clear CN CY CB' HX1 HX2
    go_wp2_with fail
    go_ret3
    exact ⟨_, by rw [HR.out]; rfl, by rw [HR.out]; exact own_nil _ _ _ _, Hb2.out⟩
end Go.Proofs.Ytfopbkgbegeffaa
