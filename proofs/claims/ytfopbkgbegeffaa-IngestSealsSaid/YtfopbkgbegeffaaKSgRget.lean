/- The walk through the reference's Get of a segment. -/
import Derived.Test.YtfopbkgbegeffaaKSgGet
namespace Go.Proofs.Ytfopbkgbegeffaa
open Go.RowKit
set_option linter.unusedVariables false

theorem rd_bad {s : ByteArray} {lo hi a x b e : Int} (h : Wr.getN s.data.toList a = (x, b, e)) (hb : e ≠ 0 ∨ x < lo ∨ hi < x) : Pt.rdNum s lo hi (a, false) = (0, (a, true)) := by
  unfold Pt.rdNum; simp only; rw [h]; simp only
  rw [if_pos (by rcases hb with k | k | k; exact .inl k; exact .inr (.inl k); exact .inr (.inr (.inl k)))]
theorem rd_good {s : ByteArray} {lo hi a x b : Int} (h : Wr.getN s.data.toList a = (x, b, 0)) (hb : lo ≤ x ∧ x ≤ hi) : Pt.rdNum s lo hi (a, false) = (x, (b, false)) := by
  unfold Pt.rdNum; simp only; rw [h]; simp only
  rw [if_neg (by rintro (k | k | k | k); exact k rfl; omega; omega; cases k)]
theorem rd_true {s : ByteArray} {lo hi a : Int} : Pt.rdNum s lo hi (a, true) = (0, (a, true)) := by
  unfold Pt.rdNum; rw [if_pos (.inr (.inr (.inr rfl)))]
section
variable {s : ByteArray} {x a y b e : Int}
theorem rc_mark (h : s.extract 0 4 ≠ Sg.mark) : Sg.colsR s = Sg.no := cols_bad (r := (Pt.rdNum s 1 512 (4, false)).1) (st1 := (Pt.rdNum s 1 512 (4, false)).2) rfl rfl (.inr h)
theorem rc_bad1 (h : Wr.getN s.data.toList 4 = (x, a, e)) (hb : e ≠ 0 ∨ x < 1 ∨ 512 < x) : Sg.colsR s = Sg.no := cols_bad (rd_bad h hb) rd_true (.inl rfl)
theorem rc_bad2 (h : Wr.getN s.data.toList 4 = (x, a, 0)) (h1 : 1 ≤ x ∧ x ≤ 512) (h2 : Wr.getN s.data.toList a = (y, b, e)) (hb : e ≠ 0 ∨ y < 0 ∨ 64 < y) : Sg.colsR s = Sg.no := cols_bad (rd_good h h1) (rd_bad h2 hb) (.inl rfl)
end
theorem getTexts_size (s : ByteArray) (a m : Int) : ∀ x ∈ (Cl.getTexts s a m).1, x.size ≤ s.size := by
  have key2 : ∀ (n : Nat) (ws : List ByteArray) (a : Int) (r : List ByteArray × Int), (∀ x ∈ ws, x.size ≤ s.size) → Cl.rdWords s n ws a = some r → ∀ x ∈ r.1, x.size ≤ s.size := by
    intro n
    induction n with
    | zero => intro ws a r ha h; simp [Cl.rdWords] at h; rw [← h]; exact ha
    | succ n ih =>
      intro ws a r ha h
      rw [Cl.rdWords] at h
      split at h
      · have := (Pt.getT_at s a 12).2.2
        exact ih _ _ r (fun x hx => by rcases List.mem_append.1 hx with k | k; exact ha x k; rw [List.mem_singleton.1 k]; exact this) h
      · cases h
  have key : ∀ (ws : List ByteArray) (n used : Nat) (a : Int) (r : List ByteArray × Nat × Int), (∀ x ∈ ws, x.size ≤ s.size) → Cl.rdPlaces s.data.toList ws n used a = some r → ∀ x ∈ r.1, x.size ≤ s.size := by
    intro ws n
    induction n with
    | zero => intro used a r ha h; simp [Cl.rdPlaces] at h; rw [← h]; simp
    | succ n ih =>
      intro used a r ha h
      rw [Cl.rdPlaces] at h
      split at h
      · rw [Option.map_eq_some_iff] at h
        obtain ⟨q, hq, rfl⟩ := h
        intro x hx
        rcases List.mem_cons.1 hx with rfl | hx
        · rw [List.getD_eq_getElem?_getD]
          generalize (Wr.getN s.data.toList a).1.toNat = i
          cases hi : ws[i]? with
          | none => exact Nat.zero_le _
          | some y => exact ha y (List.mem_of_getElem? hi)
        · exact ih _ _ q ha hq x hx
      · cases h
  unfold Cl.getTexts
  split
  · simp
  · split
    · simp
    · split
      · simp
      · rename_i hw
        split
        · simp
        · rename_i hr
          split
          · exact key _ _ _ _ _ (key2 _ _ _ _ (by simp) hw) hr
          · simp
theorem zip_size {n : Nat} {N : List ByteArray} {T V : List Int} (hN : ∀ x ∈ N, x.size ≤ 9223372036854775807) : ∀ p ∈ Sg.zip n N T V, p.1.size ≤ 9223372036854775807 := by
  intro p hp
  unfold Sg.zip at hp
  rw [List.mem_map] at hp
  obtain ⟨i, _, rfl⟩ := hp
  show (N.getD i ⟨#[]⟩).size ≤ _
  rw [List.getD_eq_getElem?_getD]
  cases h : N[i]? with
  | none => exact Nat.zero_le _
  | some y => exact hN y (List.mem_of_getElem? h)
set_option maxRecDepth 100000 in
set_option maxHeartbeats 3200000 in
theorem rsgget_any (s : ByteArray) (w : World) (hs : s.size ≤ 140737488355328) :
    Calls Try.prog 41 #[.string s] w (GetPost w (Sg.getR s)) := by
  obtain ⟨i0, hi, hz0, hz1, hz2⟩ := info_parts info_pt
  by_cases h12 : s.size < 12
  · have HR := Lib.hid (get_short h12)
    have HB := Lib.hid (Below.refl w.heap.size w)
    generalize Sg.getR s = res at *
    go_enter Try.func41, Try.ntmps41
    go_wp2_with fail
    go_ret3
    exact ⟨_, by rw [HR.out]; rfl, by rw [HR.out]; exact own_nil _ _ _ _, HB.out⟩
  · obtain ⟨m, hm⟩ : ∃ m, s.size = m + 8 := ⟨s.size - 8, by omega⟩
    have hm4 : 4 ≤ m := by omega
    have d12 : decide ((m : Int) + 8 < 12) = false := decide_eq_false (by omega)
    have d12' : decide (m + 8 < 12) = false := decide_eq_false (by omega)
    have hbs : (s.extract 0 m).size = m := by rw [ByteArray.size_extract]; omega
    have HTl := Lib.hid (get_tail (b := s.extract 0 m) (t := s.extract m (m + 8)) hm hm4 rfl rfl)
    have HCl := Lib.hid (get_cols (b := s.extract 0 m) (t := s.extract m (m + 8)) hm hm4 rfl rfl)
    have HGd := Lib.hid (get_good (b := s.extract 0 m) (t := s.extract m (m + 8)) hm hm4 rfl rfl)
    have HH := fun W => Lib.hid (rhash_any (s.extract 0 m) W (by unfold maxLen; omega))
    generalize Sg.getR s = res at *
    go_enter Try.func41, Try.ntmps41
    go_wp2_with fail
    have hhl := Sm.hashL_lt (s.extract 0 m).data.toList
    have HT := fun W => Lib.hid (reight_any (Sm.hashL (s.extract 0 m).data.toList) W hhl)
    have hsl : s.extract m s.size = s.extract m (m + 8) := by rw [hm]
    have hle : (m : Int) ≤ (m : Int) + 8 := by omega
    have hle2 : (m : Int) ≤ (s.size : Int) := by omega
    have hle3 : (0 : Int) ≤ (m : Int) := by omega
    have hw8 : IntKind.i64.wrap ((m : Int) + 8 - 8) = (m : Int) := by rw [show (m : Int) + 8 - 8 = (m : Int) from by omega]; exact IntWalk.i64_in _ (by omega)
    have hw9 : IntKind.i64.wrap ((s.size : Int) - 8) = (m : Int) := by rw [show (s.size : Int) - 8 = (m : Int) from by omega]; exact IntWalk.i64_in _ (by omega)
    generalize Sm.hashL (s.extract 0 m).data.toList = hh at *
    generalize Sg.tailB hh = TB at *
    by_cases htl : TB = s.extract m (m + 8)
    · have hz : (TB.toList == (s.extract m (m + 8)).toList) = true := str_eq_of htl
      have HCl' := Lib.hid (HCl.out htl)
      have HGd' := Lib.hid (HGd.out htl)
      clear htl HTl HCl HGd
      refine wp_region_aft w.heap.size w (by kernel_rfl) (by kernel_rfl) (Below.refl _ _) ?_
      repeat (go_big_quiet_step (first | (go_at_call 46; with_reducible exact aft_same (Hid.out (HH _))) | (go_at_call 60; with_reducible exact aft_new (Nat.le_refl _) (Hid.out (HT _)))))
      refine wpQuiet_nil ?_
      rintro _ ⟨x, rfl⟩
      have HB := Lib.hid x.below
      have hs3 := x.below.size
      generalize x.world = w3 at *
      generalize s.extract 0 m = bd at *
      have HNo := Lib.hid (fun h : Sg.colsR bd = Sg.no => HCl'.out (by rw [h]))
      have hb4 : 4 ≤ bd.size := by omega
      have hb5 : bd.size ≤ 140737488355328 := by omega
      clear HH HT hw8 hw9 hsl
      by_cases hmk : bd.extract 0 4 = Sg.mark
      · have hme : ((bd.extract 0 4).toList == [83, 69, 71, 49]) = true := by rw [hmk]; decide +kernel
        have hme2 : ((bd.extract 0 4).toList == (⟨#[83, 69, 71, 49]⟩ : ByteArray).toList) = true := by rw [hmk]; decide +kernel
        have Hmk := Lib.hid hmk
        have G1 := fun W => Lib.hid (rgetNum_any bd 4 W (by omega) (by omega))
        have hg1 := getN_bd' bd 4 (by omega)
        have B1 := @rc_bad1 bd
        have B2 := @rc_bad2 bd
        have Gd := @rd_good bd 1 512 4
        clear hmk
        generalize Wr.getN bd.data.toList 4 = X1 at *
        obtain ⟨x, a1, e1⟩ := X1
        simp only [gnV] at G1 hg1
        by_cases he1 : e1 = 0
        · subst he1
          by_cases hx1 : x < 1
          · clear B2 Gd
            have HR := Lib.hid (HNo.out (B1 rfl (.inr (.inl hx1))))
            clear B1 HNo HCl' HGd'
            go_wp2_with fail
            refine (G1 _).out.mono ?_
            rintro e w' ⟨rfl, rfl⟩
            clear G1
            go_wp2_with fail
            go_ret3
            exact ⟨_, by rw [HR.out]; rfl, by rw [HR.out]; exact own_nil _ _ _ _, HB.out⟩
          · by_cases hx2 : 512 < x
            · clear B2 Gd
              have HR := Lib.hid (HNo.out (B1 rfl (.inr (.inr hx2))))
              clear B1 HNo HCl' HGd'
              go_wp2_with fail
              refine (G1 _).out.mono ?_
              rintro e w' ⟨rfl, rfl⟩
              clear G1
              go_wp2_with fail
              go_ret3
              exact ⟨_, by rw [HR.out]; rfl, by rw [HR.out]; exact own_nil _ _ _ _, HB.out⟩
            · have dx1 : decide (x < 1) = false := decide_eq_false hx1
              have dx2 : decide (512 < x) = false := decide_eq_false hx2
              have Hd1 := Lib.hid (Gd rfl (by omega))
              have G2 := fun W => Lib.hid (rgetNum_any bd a1 W (by omega) hg1.1)
              have hg2 := getN_bd' bd a1 (by omega)
              have B2' := fun y b e h hb => @B2 x a1 y b e rfl (by omega) h hb
              have Gd2 := @rd_good bd 0 64 a1
              clear B1 B2 Gd
              generalize Wr.getN bd.data.toList a1 = X2 at *
              obtain ⟨y, a2, e2⟩ := X2
              simp only [gnV] at G2 hg2
              have HB2 := Lib.hid (fun hb => HNo.out (B2' y a2 e2 rfl hb))
              clear B2'
              go_wp2_with fail
              refine (G1 _).out.mono ?_
              rintro e w' ⟨rfl, rfl⟩
              clear G1
              go_wp2_with fail
              refine (G2 _).out.mono ?_
              rintro e w' ⟨rfl, rfl⟩
              clear G2
              by_cases he2 : e2 = 0
              · by_cases hy1 : y < 0
                · have HR := Lib.hid (HB2.out (.inr (.inl hy1)))
                  subst he2
                  clear HB2 Gd2 HNo HCl' HGd'
                  go_wp2_with fail
                  go_ret3
                  exact ⟨_, by rw [HR.out]; rfl, by rw [HR.out]; exact own_nil _ _ _ _, HB.out⟩
                · by_cases hy2 : 64 < y
                  · have HR := Lib.hid (HB2.out (.inr (.inr hy2)))
                    subst he2
                    clear HB2 Gd2 HNo HCl' HGd'
                    go_wp2_with fail
                    go_ret3
                    exact ⟨_, by rw [HR.out]; rfl, by rw [HR.out]; exact own_nil _ _ _ _, HB.out⟩
                  · subst he2
                    have Hd2 := Lib.hid (Gd2 rfl (by omega))
                    obtain ⟨n, rfl⟩ : ∃ n : Nat, y = n := ⟨y.toNat, by omega⟩
                    have dy1 : decide ((n : Int) < 0) = false := decide_eq_false hy1
                    have dy2 : decide (64 < (n : Int)) = false := decide_eq_false hy2
                    have dy3 : decide (64 < n) = false := decide_eq_false (by omega)
                    have hn64 : n ≤ 64 := by omega
                    have H3 := fun W => Lib.hid (rgetTexts_any bd a2 (n : Int) W (by omega) hg2.1)
                    have hat3 := getTexts_at bd a2 (n : Int) (by omega)
                    have hszN := getTexts_size bd a2 (n : Int)
                    have CN' := fun N T V b c d e f g => @cols_no bd x (a1, false) n a2 N T V b c d e f g Hd1.out Hd2.out
                    have CY' := fun N T V b c => @cols_yes bd x (a1, false) n a2 N T V b c Hd1.out Hd2.out Hmk.out
                    have GL := @getTexts_ok_len bd a2 n
                    clear HB2 Gd2 Hd1 Hd2
                    generalize Cl.getTexts bd a2 (n : Int) = Y1 at *
                    obtain ⟨N, b, e3⟩ := Y1
                    simp only at hat3 hszN
                    have H4 := fun W => Lib.hid (rgetInts_any bd b (n : Int) W (by omega) hat3)
                    have hat4 := getInts_at bd b (n : Int) (by omega) hat3
                    have hwT := getInts_wf bd b (n : Int)
                    have GT := @getInts_ok_len bd b n
                    have CN2 := fun T V c d f g h4 h5 h => CN' N T V b c d e3 f g rfl h4 h5 h
                    have CY2 := fun (he : e3 = 0) T V c h4 h5 => CY' N T V b c (by rw [he]) h4 h5
                    clear CN' CY'
                    generalize Cl.getInts bd b (n : Int) = Y2 at *
                    obtain ⟨T, c, e4⟩ := Y2
                    simp only at hat4 hwT
                    have H5 := fun W => Lib.hid (rgetInts_any bd c (n : Int) W (by omega) hat4)
                    have hwV := getInts_wf bd c (n : Int)
                    have GV := @getInts_ok_len bd c n
                    have CN3 := fun V d g h5 h => CN2 T V c d e4 g rfl h5 h
                    have CY3 := fun (he : e3 = 0) (hf : e4 = 0) V h5 => CY2 he T V c (by rw [hf]) h5
                    clear CN2 CY2
                    generalize Cl.getInts bd c (n : Int) = Y3 at *
                    obtain ⟨V, d, e5⟩ := Y3
                    simp only at hwV
                    have CN4 := Lib.hid (fun h => HNo.out (CN3 V d e5 rfl h))
                    have CY4 := Lib.hid (fun (he : e3 = 0) (hf : e4 = 0) (hg : e5 = 0) (hd : d = (bd.size : Int)) => CY3 he hf V (by rw [hg, hd]))
                    have HwT := Lib.hid hwT
                    have HwV := Lib.hid hwV
                    have HzN : Hid (∀ x ∈ N, x.size ≤ 9223372036854775807) := fun x hx => by have := hszN x hx; omega
                    have GL' := Lib.hid (fun (h : e3 = 0) => GL (N := N) (c := b) (by rw [h]))
                    have GT' := Lib.hid (fun (h : e4 = 0) => (GT (T := T) (c := c) (by rw [h])).1)
                    have GV' := Lib.hid (fun (h : e5 = 0) => (GV (T := V) (c := d) (by rw [h])).1)
                    clear CN3 CY3 hwT hwV GL GT GV hszN HNo
                    have hs2 := hs3
                    go_wp2_with fail
                    refine (H3 w3).out.mono ?_
                    rintro e w4 ⟨vN, rfl, hownN, hb4'⟩
                    have hs4 := hb4'.size
                    have HB4 : Hid (Below w.heap.size w w4) := HB.out.trans (hb4'.mono hs3)
                    obtain ⟨AN, cN, rfl, hcapN, hrN⟩ := own_slice hownN
                    have HrN := Lib.hid hrN
                    clear H3 hownN hb4' hrN HB
                    by_cases he3 : e3 = 0
                    · go_wp2_with fail
                      refine (H4 w4).out.mono ?_
                      rintro e w5 ⟨vT, rfl, hownT, hb5'⟩
                      have hs5 := hb5'.size
                      have HB5 : Hid (Below w.heap.size w w5) := HB4.out.trans (hb5'.mono (by omega))
                      obtain ⟨AT, cT, rfl, hcapT, hrT⟩ := own_slice hownT
                      have HrT := Lib.hid hrT
                      have HrN4 := Lib.hid (HrN.out.below hb5')
                      clear H4 hownT hb5' hrT HrN HB4
                      by_cases he4 : e4 = 0
                      · go_wp2_with fail
                        refine (H5 w5).out.mono ?_
                        rintro e w6 ⟨vV, rfl, hownV, hb6⟩
                        have hs6 := hb6.size
                        have HB : Hid (Below w.heap.size w w6) := HB5.out.trans (hb6.mono (by omega))
                        obtain ⟨AV, cV, rfl, hcapV, hrV⟩ := own_slice hownV
                        have HrV := Lib.hid hrV
                        have HrN5 := Lib.hid ((HrN4.out.below (hb6.mono hs5)).more (show w4.heap.size ≤ w6.heap.size by omega))
                        have HrT5 := Lib.hid ((HrT.out.below hb6).more (show w5.heap.size ≤ w6.heap.size by omega))
                        clear H5 hownV hb6 hrV HrN4 HrT HB5
                        simp only at HrN5 HrT5 HrV
                        by_cases he5 : e5 = 0
                        · by_cases hd : d = (bd.size : Int)
                          · have HQ := Lib.hid (CY4.out he3 he4 he5 hd)
                            have hlN := GL'.out he3
                            have hlT := GT'.out he4
                            have hlV := GV'.out he5
                            subst he3 he4 he5
                            subst hd
                            have HRn := Lib.hid (fun (h : Sg.riseB (Sg.zip n N T V) = false) => HCl'.out (by rw [HQ.out]; exact h))
                            have HRy := Lib.hid (fun (h : Sg.riseB (Sg.zip n N T V) = true) => (HGd'.out (by rw [HQ.out]; exact h)).trans (show _ = (x, Sg.zip n N T V, 0) by rw [HQ.out]))
                            have Hwz := Lib.hid (zip_wf (n := n) (N := N) HwT.out HwV.out)
                            have Hzz := Lib.hid (zip_size (n := n) (T := T) (V := V) HzN.out)
                            have l1 : n ≤ N.length := by omega
                            have l2 : n ≤ T.length := by omega
                            have l3 : n ≤ V.length := by omega
                            clear HwT HwV CY4 CN4 GL' GT' GV' hlN hlT hlV HQ HCl' HGd' HzN
                            go_wp2_with fail
                            go_loopw [21, 22] (fun vp i wr => ∃ k : Nat, k ≤ n ∧ i = .int .i64 (k : Int) ∧ Hid (wr.ownsRow w6.heap.size 58 3 vp k ((Sg.zip k N T V).flatMap pointCells)) ∧ Hid (Below w6.heap.size w6 wr)) (fun _ i _ => n - (intOf i).toNat)
                            case atStart => exact ⟨0, Nat.zero_le _, rfl, Lib.hid (own_nil _ _ _ _), Lib.hid (Below.refl _ _)⟩
                            case round =>
                              obtain ⟨k, hk, rfl, hown, hbw⟩ := hrel
                              have hsw := hbw.out.size
                              by_cases hlt : k < n
                              · have g1 : k < N.length := by omega
                                have g2 : k < T.length := by omega
                                have g3 : k < V.length := by omega
                                obtain ⟨bN, oN, rfl, hbN, hxN⟩ := HrN5.out.2 (by omega)
                                obtain ⟨bT, oT, rfl, hbT, hxT⟩ := HrT5.out.2 (by omega)
                                obtain ⟨bV, oV, rfl, hbV, hxV⟩ := HrV.out.2 (by omega)
                                have cN' := map_cell (wr := wr) (B := w6.heap.size) g1 hxN (fun p hp => hbw.out.cell hp) hbN
                                have cT' := map_cell (wr := wr) (B := w6.heap.size) g2 hxT (fun p hp => hbw.out.cell hp) hbT
                                have cV' := map_cell (wr := wr) (B := w6.heap.size) g3 hxV (fun p hp => hbw.out.cell hp) hbV
                                have Hz := Lib.hid (zip_snoc k N T V g1 g2 g3)
                                have nN := Ne.symm (own_ne_lt hown.out hbN)
                                have nT := Ne.symm (own_ne_lt hown.out hbT)
                                have nV := Ne.symm (own_ne_lt hown.out hbV)
                                have k0 : (0 : Int) ≤ (k : Int) := Int.natCast_nonneg _
                                have k1 : (k : Int) < (N.length : Int) := by omega
                                have k2 : (k : Int) < (T.length : Int) := by omega
                                have k3 : (k : Int) < (V.length : Int) := by omega
                                clear hxN hxT hxV HrN5 HrT5 HrV
                                go_wp2_with fail
                                have hm64 : k + 1 ≤ maxLen := by unfold maxLen; omega
                                go_region_held3 (fun w' => w'.cell? ⟨bN, oN + k, none⟩ = some (.string N[k]) ∧ w'.cell? ⟨bT, oT + k, none⟩ = some (.int .i64 T[k]) ∧ w'.cell? ⟨bV, oV + k, none⟩ = some (.int .i64 V[k]))
                                  (first
                                    | go_keep
                                    | (go_split_ands
                                       refine ⟨?_, ?_, ?_⟩
                                       · (rw [hgrow.cell_far _ (by simp; omega) nN]; assumption)
                                       · (rw [hgrow.cell_far _ (by simp; omega) nT]; assumption)
                                       · (rw [hgrow.cell_far _ (by simp; omega) nV]; assumption)))
                                  ((refine step_append_lies _ (by rfl) _ _ _ (by rfl) w6.heap.size 58 i0 _ 3 32 Try.underlying22 hi hz0 hz1 hz2 rfl (by omega) u21 k _ (by rfl) ((hown.out.alloc _).drew)
                                      ⟨wr.heap.size, 0, none⟩ 1 1 [.string N[k], .int .i64 T[k], .int .i64 V[k]] (by rfl) (by rfl) (World.news_of_block (cs := #[.string N[k], .int .i64 T[k], .int .i64 V[k]]) (t := 58) (fr := (0, 0)) (heap_alloc_new wr _)) (by simp [Value.oneCell'])
                                      (by omega) hm64 (by omega) (by simp; omega) (wr.heap.size + 1) (by simp) ?_; intro gg cap w1 hown1 hgrow hat hlt))
                                rename_i hlt0 _
                                have hbw1 : Hid (Below w6.heap.size w6 w1) := (((hbw.out.alloc hsw _).drew).grown hgrow (by simp; omega) (fun j hj => (own_lt hown.out hj).1))
                                have hown2 : Hid (w1.ownsRow w6.heap.size 58 3 (.slice (some ⟨gg, 0, none⟩) (k + 1) cap) (k + 1) ((Sg.zip (k + 1) N T V).flatMap pointCells)) := by
                                  rw [Hz.out, List.flatMap_append]; exact hown1
                                clear hown1 hgrow hat hown hbw Hz
                                go_wp2_with fail
                                go_roundw
                                case rel => exact ⟨k + 1, by omega, by go_num, hown2, hbw1⟩
                                case measure => simp [intOf]; omega
                              · have hkn : k = n := by omega
                                subst hkn
                                obtain ⟨AP, cP, rfl, hcapP, hrP⟩ := own_slice hown.out
                                have HM := Lib.hid (rrises_any AP cP (Sg.zip k N T V) wr wr.heap.size (by rw [zip_len]; exact hrP) (Nat.le_refl _) (by rw [zip_len]; omega) Hwz.out Hzz.out)
                                rw [zip_len] at HM
                                clear hrP Hwz Hzz
                                generalize hrb : Sg.riseB (Sg.zip k N T V) = ok at *
                                clear hrb
                                go_wp2_with fail
                                refine HM.out.mono ?_
                                rintro e w7 ⟨rfl, hb7⟩
                                have Hown7 := Lib.hid (own_only hown.out (Only.new (fun _ => False) hb7) (fun _ _ h => h))
                                have HB7 : Hid (Below w.heap.size w w7) := HB.out.trans ((hbw.out.trans (hb7.mono hsw)).mono (by omega))
                                clear hb7 HB
                                have HB := HB7
                                cases ok
                                · have HR := Lib.hid (HRn.out rfl)
                                  clear HRn HRy
                                  go_wp2_with fail
                                  go_ret3
                                  exact ⟨_, by rw [HR.out]; rfl, by rw [HR.out]; exact own_nil _ _ _ _, HB.out⟩
                                · have HR := Lib.hid (HRy.out rfl)
                                  clear HRn HRy
                                  go_wp2_with fail
                                  go_ret3
                                  exact ⟨_, by rw [HR.out]; rfl, by rw [HR.out]; simp only; rw [zip_len]; exact own_down Hown7.out (by omega), HB.out⟩
                          · have HR := Lib.hid (CN4.out (.inr (.inr (.inr hd))))
                            subst he3 he4 he5
                            clear CY4 CN4 GL' GT' GV' HwT HwV HCl' HGd'
                            go_wp2_with fail
                            go_ret3
                            exact ⟨_, by rw [HR.out]; rfl, by rw [HR.out]; exact own_nil _ _ _ _, HB.out⟩
                        · have HR := Lib.hid (CN4.out (.inr (.inr (.inl he5))))
                          subst he3 he4
                          clear CY4 CN4 GL' GT' GV' HwT HwV HCl' HGd'
                          go_wp2_with fail
                          go_ret3
                          exact ⟨_, by rw [HR.out]; rfl, by rw [HR.out]; exact own_nil _ _ _ _, HB.out⟩
                      · have HR := Lib.hid (CN4.out (.inr (.inl he4)))
                        have HB := HB5
                        subst he3
                        clear CY4 CN4 GL' GT' GV' HwT HwV HCl' HGd'
                        go_wp2_with fail
                        go_ret3
                        exact ⟨_, by rw [HR.out]; rfl, by rw [HR.out]; exact own_nil _ _ _ _, HB.out⟩
                    · have HR := Lib.hid (CN4.out (.inl he3))
                      have HB := HB4
                      clear CY4 CN4 GL' GT' GV' HwT HwV HCl' HGd'
                      go_wp2_with fail
                      go_ret3
                      exact ⟨_, by rw [HR.out]; rfl, by rw [HR.out]; exact own_nil _ _ _ _, HB.out⟩
              · have HR := Lib.hid (HB2.out (.inl he2))
                clear HB2 Gd2 HNo HCl' HGd'
                go_wp2_with fail
                go_ret3
                exact ⟨_, by rw [HR.out]; rfl, by rw [HR.out]; exact own_nil _ _ _ _, HB.out⟩
        · clear B2 Gd
          have HR := Lib.hid (HNo.out (B1 rfl (.inl he1)))
          clear B1 HNo HCl' HGd'
          go_wp2_with fail
          refine (G1 _).out.mono ?_
          rintro e w' ⟨rfl, rfl⟩
          clear G1
          go_wp2_with fail
          go_ret3
          exact ⟨_, by rw [HR.out]; rfl, by rw [HR.out]; exact own_nil _ _ _ _, HB.out⟩
      · have hme : ((bd.extract 0 4).toList == [83, 69, 71, 49]) = false := mark_ne hmk
        have hme2 : ((bd.extract 0 4).toList == (⟨#[83, 69, 71, 49]⟩ : ByteArray).toList) = false := str_ne_of (b := Sg.mark) hmk
        have HR := Lib.hid (HNo.out (rc_mark hmk))
        clear HNo HCl' HGd' hmk
        go_wp2_with fail
        go_ret3
        exact ⟨_, by rw [HR.out]; rfl, by rw [HR.out]; exact own_nil _ _ _ _, HB.out⟩
    · have hz : (TB.toList == (s.extract m (m + 8)).toList) = false := str_ne_of htl
      have HR := Lib.hid (HTl.out htl)
      clear htl HTl HCl HGd
      refine wp_region_aft w.heap.size w (by kernel_rfl) (by kernel_rfl) (Below.refl _ _) ?_
      repeat (go_big_quiet_step (first | (go_at_call 46; with_reducible exact aft_same (Hid.out (HH _))) | (go_at_call 60; with_reducible exact aft_new (Nat.le_refl _) (Hid.out (HT _)))))
      refine wpQuiet_nil ?_
      rintro _ ⟨x, rfl⟩
      have HB := Lib.hid x.below
      generalize x.world = w3 at *
      go_wp2_with fail
      go_ret3
      exact ⟨_, by rw [HR.out]; rfl, by rw [HR.out]; exact own_nil _ _ _ _, HB.out⟩
end Go.Proofs.Ytfopbkgbegeffaa
