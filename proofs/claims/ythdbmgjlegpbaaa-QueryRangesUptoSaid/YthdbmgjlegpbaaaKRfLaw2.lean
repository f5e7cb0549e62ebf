/- The walk through QueryRanges. -/
import Derived.Test.YthdbmgjlegpbaaaKRfCom
namespace Go.Proofs.Ythdbmgjlegpbaaa
open Go.RowKit
set_option linter.unusedVariables false

theorem range_len (X : List ByteArray) (o : List Pt.Point) (s : ByteArray) (f u : Int) (hX : X.length ≤ 513) (ho : o.length ≤ 2097152) : (Qm.rangeR X o s f u).1.length ≤ 2130000 := by
  have h := Rf.tot_len X o hX ho
  unfold Qm.rangeR
  split
  · rw [Qm.fold_flat]
    have h1 := Ig.setAll_len [] (Qm.keepL (Qm.gone s f u) (X.map Qr.ptsOf ++ [o]).flatten)
    have h2 := Qm.keepL_len (Qm.gone s f u) (X.map Qr.ptsOf ++ [o]).flatten
    rw [List.length_nil] at h1
    dsimp only
    omega
  · simp
theorem spoil_below {w w' : World} {base B : Nat} {e : TypeId} {size n : Nat} {v : Value} {xs : List Value} (hown : w.ownsRow base e size v n xs) (ho : Only (fun k => v.ownBlock = some k) w w') (hB : B ≤ base) (hb : B ≤ w.heap.size) : Below B w w' :=
  ho.below (fun k hk hs => by have := (hown.lt k hs).1; omega) hb
theorem spoil_other {w w1 w' : World} {base base' : Nat} {e e' : TypeId} {size n size' n' : Nat} {v v' : Value} {xs xs' : List Value} (hown : w1.ownsRow base e size v n xs) (h1 : w1.heap.size ≤ base') (hother : w.ownsRow base' e' size' v' n' xs') (ho : Only (fun k => v.ownBlock = some k) w w') : w'.ownsRow base' e' size' v' n' xs' :=
  own_only hother ho (fun g hg hs => by
    have h2 := (hother.lt g hg).1
    have h3 := (hown.lt g hs).2
    omega)
set_option maxRecDepth 100000 in
set_option maxHeartbeats 6000000 in
theorem queryRanges_go {w : World} (A0 : Option Addr) (c0 : Nat) (z0 : List Lay) (ok0 : ListsOk w A0 z0) (A1 : Option Addr) (c1 : Nat) (z1 : List Pt.Point) (rd1 : Reads w w.heap.size 3 A1 z1.length (z1.flatMap pointCells)) (nb1 : z1.length ≤ 1048576) (wf1 : ∀ q ∈ z1, q.1.size ≤ 9223372036854775807) (s : ByteArray) (f u : Int) (bad : Bool) :
    Calls Try.prog 8 #[.slice A0 z0.length c0, .slice A1 z1.length c1, .string s, .int .i64 f, .int .i64 u, .bool bad] w fun e w' => e = .returned (.bool true) ∧ Below w.heap.size w w' := by
  have HF := Lib.hid (files_of ok0 c0 bad w (Below.refl _ _))
  obtain ⟨X, hX⟩ : ∃ X, X = Rf.segsR (z0.map (·.2.2)) bad := ⟨_, rfl⟩
  have hXl : X.length ≤ 513 := by rw [hX]; exact Rf.segs_len _ _
  have hXs : ∀ s ∈ X, s.size ≤ 140737488355328 := fun s hs => by
    have := Rf.segs_size _ _ s (by rw [← hX]; exact hs)
    omega
  rw [← hX] at HF
  have htl := Rf.tot_len X z1 hXl (by omega)
  have htn := Rf.tot_names X z1 wf1
  have hul := range_len X z1 s f u hXl (by omega)
  have HRg := Lib.hid (fun (W : World) (Ax : Option Addr) (cx : Nat) (Ay : Option Addr) (cy : Nat) (hx : Reads W W.heap.size 1 Ax X.length (X.map Value.string)) (hy : Reads W W.heap.size 3 Ay z1.length (z1.flatMap pointCells)) => range_any Ax cx X (Ay, cy, z1) s f u W W.heap.size hx (Nat.le_refl _) (by omega) hXs hy (by dsimp only; omega))
  have HRr := Lib.hid (fun (W : World) (Ax : Option Addr) (cx : Nat) (hx : Reads W W.heap.size 1 Ax X.length (X.map Value.string)) (hb : Below w.heap.size w W) => rrange_any Ax A1 cx c1 X z1 s f u W W.heap.size hx ((rd1.below hb).more hb.size) (Nat.le_refl _) (by omega) hXs (by omega) htn)
  unfold layV RangePost at HRg
  unfold RangePost at HRr
  dsimp only at HRg HRr
  generalize Qm.rangeR X z1 s f u = U at *
  obtain ⟨U1, U2⟩ := U
  dsimp only at HRg HRr hul
  have Hrd1 := Lib.hid rd1
  have hee : (U2 != U2) = false := by simp
  have HW1 := Lib.hid wf1
  have HOk := Lib.hid ok0
  have hzl := ok0.len
  clear hX ok0 rd1 hXs htl htn wf1
  unfold TxtPost at HF
  go_enter Try.func8, Try.ntmps8
  go_wp2_with fail
  refine HF.out.mono ?_
  rintro e w1 ⟨v1, rfl, hown1, hb1⟩
  obtain ⟨Ax, cx, rfl, _, hrx⟩ := own_slice hown1
  have Hb1 := Lib.hid hb1
  have hs1 := hb1.size
  have Hrx := Lib.hid hrx
  have HLT := Lib.hid (lendTexts_any Ax cx X w1 w1.heap.size hrx (Nat.le_refl _) (by omega))
  clear hown1 hb1 hrx HF
  go_wp2_with fail
  refine HLT.out.mono ?_
  rintro e w2 ⟨g2, cap2, rfl, hg2, hcap2, hmax2, hown2, hb2⟩
  have Hb2 : Hid (Below w1.heap.size w1 w2) := hb2
  have hs2 := hb2.size
  have hw2 : Below w.heap.size w w2 := Hb1.out.trans (hb2.mono hs1)
  have HLP := Lib.hid (lendPoints_any A1 c1 z1 w2 w.heap.size (Hrd1.out.below hw2) hw2.size (by omega))
  have Hr2 := Lib.hid (Reads.of_own hown2)
  clear hb2 hown2 HLT hw2 hg2 hmax2
  go_wp2_with fail
  refine HLP.out.mono ?_
  rintro e w3 ⟨g3, cap3, rfl, hg3, hcap3, hmax3, hown3, hb3⟩
  have Hb3 : Hid (Below w1.heap.size w1 w3) := Hb2.out.trans (hb3.mono hs2)
  have hs3 := Hb3.out.size
  have Hr2' : Hid (Reads w3 w3.heap.size 1 (some ⟨g2, 0, none⟩) (X.length + 2) (X.map Value.string ++ roomTexts)) := (Hr2.out.below hb3).more hb3.size
  have Hr3 := Lib.hid (Reads.of_own hown3)
  have HL := Lib.hid (HRg.out w3 (some ⟨g2, 0, none⟩) cap2 (some ⟨g3, 0, none⟩) cap3 (Hr2'.out.head (by simp)) (Hr3.out.head (flat_length pointCells 3 (fun _ => rfl) z1)))
  clear hb3 hown3 HLP Hr2 hg3 hmax3 Hb2
  go_wp2_with fail
  refine HL.out.mono ?_
  rintro e w4 ⟨v4, rfl, hown4, hb4⟩
  have Hb4 : Hid (Below w3.heap.size w3 w4) := hb4
  have hs4 := hb4.size
  have HL5 := Lib.hid (HRg.out w4 (some ⟨g2, 0, none⟩) cap2 (some ⟨g3, 0, none⟩) cap3 (((Hr2'.out.head (by simp)).below hb4).more hs4) (((Hr3.out.head (flat_length pointCells 3 (fun _ => rfl) z1)).below hb4).more hs4))
  obtain ⟨A4, c4, rfl, _, _⟩ := own_slice hown4
  have Hown4 := Lib.hid hown4
  clear HL hb4 hown4 HRg
  go_wp2_with fail
  refine HL5.out.mono ?_
  rintro e w5 ⟨v5, rfl, hown5, hb5⟩
  have hs45 := hb5.size
  have Hb5 : Hid (Below w3.heap.size w3 w5) := Hb4.out.trans (hb5.mono hs4)
  have hs5 := Hb5.out.size
  obtain ⟨A5, c5, rfl, _, _⟩ := own_slice hown5
  have Hown5 := Lib.hid hown5
  have Hown45 := Lib.hid (own_only Hown4.out (Only.new (fun _ => False) hb5) (fun _ _ q => q))
  have hb15 : Below w1.heap.size w1 w5 := Hb3.out.trans (Hb5.out.mono hs3)
  have HL6 := Lib.hid (HRr.out w5 Ax cx ((Hrx.out.below hb15).more hb15.size) (Hb1.out.trans (hb15.mono hs1)))
  clear HL5 hb5 hown5 HRr hb15 Hb4
  go_wp2_with fail
  refine HL6.out.mono ?_
  rintro e w6 ⟨v6, rfl, hown6, hb6⟩
  have hs56 := hb6.size
  have Hb6 : Hid (Below w3.heap.size w3 w6) := Hb5.out.trans (hb6.mono hs5)
  have hs6 := Hb6.out.size
  obtain ⟨A6, c6, rfl, _, hr6⟩ := own_slice hown6
  have Hown6 := Lib.hid hown6
  have Hown46 := Lib.hid (own_only Hown45.out (Only.new (fun _ => False) hb6) (fun _ _ q => q))
  have Hown56 := Lib.hid (own_only Hown5.out (Only.new (fun _ => False) hb6) (fun _ _ q => q))
  have HSa := Lib.hid (samePoints_true A4 A6 c4 c6 U1 w6 w6.heap.size w6.heap.size (Reads.of_own Hown46.out) hr6 (by omega))
  have HKT := Lib.hid (fun W (h : Below w3.heap.size w3 W) => keptTexts_true Ax g2 cx cap2 X W w3.heap.size w1.heap.size (Hr2'.out.below h) (Hrx.out.below (Hb3.out.trans (h.mono hs3))) hcap2 (by omega))
  have HKP := Lib.hid (fun W (h : Below w3.heap.size w3 W) => keptPoints_true A1 g3 c1 cap3 z1 W w3.heap.size w.heap.size (Hr3.out.below h) (Hrd1.out.below (Hb1.out.trans ((Hb3.out.trans (h.mono hs3)).mono hs1))) hcap3 (by omega))
  clear HL6 hb6 hown6 hr6 Hown45 Hr2' Hr3 Hrx Hb5
  go_wp2_with fail
  refine HSa.out.mono ?_
  rintro e w7 ⟨rfl, n7, rfl⟩
  have hb7 : Below w3.heap.size w3 (w6.drewN n7) := below_drewN Hb6.out n7
  have H4 : Hid ((w6.drewN n7).ownsRow w3.heap.size 52 3 (.slice A4 U1.length c4) U1.length (U1.flatMap pointCells)) := own_drewN Hown46.out n7
  have H5 : Hid ((w6.drewN n7).ownsRow w4.heap.size 52 3 (.slice A5 U1.length c5) U1.length (U1.flatMap pointCells)) := own_drewN Hown56.out n7
  have H6 : Hid ((w6.drewN n7).ownsRow w5.heap.size 52 3 (.slice A6 U1.length c6) U1.length (U1.flatMap pointCells)) := own_drewN Hown6.out n7
  have hs7 : w5.heap.size ≤ (w6.drewN n7).heap.size := hs56
  have Hb7 := Lib.hid hb7
  clear HSa Hown46 Hown56 Hown6 Hb6 hb7 hs6 hs56
  generalize w6.drewN n7 = w7 at *
  have HKT7 := Lib.hid (HKT.out w7 Hb7.out)
  clear HKT
  go_wp2_with fail
  refine (errno_any _ _).mono ?_
  rintro e w' ⟨rfl, rfl⟩
  go_wp2_with fail
  refine (errno_any _ _).mono ?_
  rintro e w' ⟨rfl, rfl⟩
  go_wp2_with fail
  refine HKT7.out.mono ?_
  rintro e w8 ⟨rfl, n8, rfl⟩
  have hb8 : Below w3.heap.size w3 (w7.drewN n8) := below_drewN Hb7.out n8
  have H4' : Hid ((w7.drewN n8).ownsRow w3.heap.size 52 3 (.slice A4 U1.length c4) U1.length (U1.flatMap pointCells)) := own_drewN H4.out n8
  have H5' : Hid ((w7.drewN n8).ownsRow w4.heap.size 52 3 (.slice A5 U1.length c5) U1.length (U1.flatMap pointCells)) := own_drewN H5.out n8
  have H6' : Hid ((w7.drewN n8).ownsRow w5.heap.size 52 3 (.slice A6 U1.length c6) U1.length (U1.flatMap pointCells)) := own_drewN H6.out n8
  have hs8 : w5.heap.size ≤ (w7.drewN n8).heap.size := hs7
  have Hb8 := Lib.hid hb8
  clear HKT7 H4 H5 H6 Hb7 hb8 hs7
  generalize w7.drewN n8 = w8 at *
  have HKP8 := Lib.hid (HKP.out w8 Hb8.out)
  clear HKP
  go_wp2_with fail
  refine HKP8.out.mono ?_
  rintro e w9 ⟨rfl, n9, rfl⟩
  have hb9 : Below w3.heap.size w3 (w8.drewN n9) := below_drewN Hb8.out n9
  have H4 : Hid ((w8.drewN n9).ownsRow w3.heap.size 52 3 (.slice A4 U1.length c4) U1.length (U1.flatMap pointCells)) := own_drewN H4'.out n9
  have H5 : Hid ((w8.drewN n9).ownsRow w4.heap.size 52 3 (.slice A5 U1.length c5) U1.length (U1.flatMap pointCells)) := own_drewN H5'.out n9
  have H6 : Hid ((w8.drewN n9).ownsRow w5.heap.size 52 3 (.slice A6 U1.length c6) U1.length (U1.flatMap pointCells)) := own_drewN H6'.out n9
  have hs9 : w5.heap.size ≤ (w8.drewN n9).heap.size := hs8
  have Hb9 := Lib.hid hb9
  clear HKP8 H4' H5' H6' Hb8 hb9 hs8
  generalize w8.drewN n9 = w9 at *
  have HSp := Lib.hid (spoilPoints_any A4 c4 U1 w9 w3.heap.size H4.out (by omega))
  go_wp2_with fail
  refine HSp.out.mono ?_
  rintro e w10 ⟨rfl, ho10⟩
  have hb10 : Below w.heap.size w w10 := by
    have h1 : Below w.heap.size w w9 := Hb1.out.trans ((Hb3.out.trans (Hb9.out.mono hs3)).mono hs1)
    exact h1.trans (spoil_below H4.out ho10 (by omega) h1.size)
  have h5 : w10.ownsRow w4.heap.size 52 3 (.slice A5 U1.length c5) U1.length (U1.flatMap pointCells) := spoil_other Hown4.out (Nat.le_refl _) H5.out ho10
  have h6 : w10.ownsRow w5.heap.size 52 3 (.slice A6 U1.length c6) U1.length (U1.flatMap pointCells) := spoil_other Hown4.out (by omega) H6.out ho10
  have HSb := Lib.hid (fun W (h : Below w10.heap.size w10 W) => samePoints_true A5 A6 c5 c6 U1 W w10.heap.size w10.heap.size ((Reads.of_own h5).below h) ((Reads.of_own h6).below h) (by omega))
  have Hb10 := Lib.hid hb10
  have hs10 := hb10.size
  clear HSp ho10 hb10 h5 h6 H4 H5 H6 Hb9 Hown4 Hown5 Hb1 Hb3 hs9 hs5 hs45 hs4 hs3 hs2 hs1 hcap2 hcap3 hul
  go_wp2_with fail
  go_loopw [22, 23, 24, 25, 26, 27] (fun i _ _ _ _ _ wr => ∃ (k : Nat), k ≤ z0.length ∧ i = .int .i64 (k : Int) ∧ Hid (Below w10.heap.size w10 wr)) (fun i _ _ _ _ _ _ => z0.length - (intOf i).toNat)
  case atStart => exact ⟨0, Nat.zero_le _, rfl, Lib.hid (Below.refl _ _)⟩
  case round =>
    obtain ⟨k, hk, rfl, hbw⟩ := hrel
    have hsw := hbw.out.size
    have hend : ∀ W, Below w10.heap.size w10 W → Below w.heap.size w W := fun W h => Hb10.out.trans (h.mono hs10)
    have HSe := Lib.hid (HSb.out wr hbw.out)
    have Hend := Lib.hid hend
    clear hend
    by_cases hlt : k < z0.length
    · have hltI : (k : Int) < (z0.length : Int) := by omega
      have hk0 : (0 : Int) ≤ (k : Int) := by omega
      by_cases hk2 : k < 2
      · have hk2I : (k : Int) < 2 := by omega
        obtain ⟨y, hy⟩ : ∃ y, z0[k]? = some y := ⟨_, List.getElem?_eq_getElem hlt⟩
        have hye : z0[k] = y := (List.getElem?_eq_some_iff.1 hy).2
        have hmy := List.mem_of_getElem? hy
        obtain ⟨b, off, hA0, hbl, hc⟩ := HOk.out.reads.2 (by omega)
        subst hA0
        have hcy : ∀ W, Below w.heap.size w W → W.cell? ⟨b, off + k, none⟩ = some (layV y) := fun W h => (h.cell (p := ⟨b, off + k, none⟩) (show b < _ by omega)).trans (hc k _ (by simp [hlt, hye]))
        have hry := HOk.out.each y hmy
        have hyw := HOk.out.wf y hmy
        have hyl := HOk.out.short y hmy
        have Hcy := Lib.hid hcy
        have Hry := Lib.hid hry
        have Hyw := Lib.hid hyw
        clear hcy hry hyw hc hye hy hmy HSe
        obtain ⟨ya, yc, ps⟩ := y
        unfold layV at Hcy
        dsimp only at Hcy Hry Hyw hyl
        have hcr := Hcy.out wr (Hend.out wr hbw.out)
        have hwr := Hend.out wr hbw.out
        have HL1 := Lib.hid (lendPoints_any ya yc ps wr w.heap.size (Hry.out.below hwr) hwr.size (by omega))
        clear hwr
        go_wp2_with fail
        refine HL1.out.mono ?_
        rintro e w11 ⟨g11, cap11, rfl, hg11, hcap11, hmax11, hown11, hb11⟩
        have Hb11 : Hid (Below w10.heap.size w10 w11) := hbw.out.trans (hb11.mono hsw)
        have hs11 := Hb11.out.size
        have Hr11 := Lib.hid (Reads.of_own hown11)
        have hw11 := Hend.out w11 Hb11.out
        have HL2 := Lib.hid (lendPoints_any A1 c1 z1 w11 w.heap.size (Hrd1.out.below hw11) hw11.size (by omega))
        clear HL1 hown11 hb11 hg11 hmax11 hcr hw11 hbw hsw
        go_wp2_with fail
        refine HL2.out.mono ?_
        rintro e w12 ⟨g12, cap12, rfl, hg12, hcap12, hmax12, hown12, hb12⟩
        have Hb12 : Hid (Below w10.heap.size w10 w12) := Hb11.out.trans (hb12.mono hs11)
        have hs12 := Hb12.out.size
        have Hr1 : Hid (Reads w12 w12.heap.size 3 (some ⟨g11, 0, none⟩) (ps.length + 2) (ps.flatMap pointCells ++ roomPoints)) := (Hr11.out.below hb12).more hb12.size
        have Hr2 := Lib.hid (Reads.of_own hown12)
        have HM1 := Lib.hid (fun W (h : Below w12.heap.size w12 W) => merge_any (some ⟨g11, 0, none⟩, cap11, ps) (some ⟨g12, 0, none⟩, cap12, z1) w12.heap.size W ((Hr1.out.head (flat_length pointCells 3 (fun _ => rfl) ps)).below h) ((Hr2.out.head (flat_length pointCells 3 (fun _ => rfl) z1)).below h) h.size (by dsimp only; omega))
        have HMr := Lib.hid (fun W (h : Below w.heap.size w W) => rmerge_any ya A1 yc c1 ps z1 W w.heap.size (Hry.out.below h) (Hrd1.out.below h) h.size (by omega) (fun q hq => (Hyw.out q hq).2) HW1.out)
        have hMl := Qm.mergeP_len ps z1
        have HK1 := Lib.hid (fun W (h : Below w12.heap.size w12 W) => keptPoints_true ya g11 yc cap11 ps W w12.heap.size w.heap.size (Hr1.out.below h) (Hry.out.below (Hend.out W (Hb12.out.trans (h.mono hs12)))) hcap11 (by omega))
        have HK2 := Lib.hid (fun W (h : Below w12.heap.size w12 W) => keptPoints_true A1 g12 c1 cap12 z1 W w12.heap.size w.heap.size (Hr2.out.below h) (Hrd1.out.below (Hend.out W (Hb12.out.trans (h.mono hs12)))) hcap12 (by omega))
        unfold layV RowOf at HM1
        unfold PtsPost at HMr
        dsimp only at HM1 HMr
        generalize Qm.mergeP ps z1 = M at *
        have HM1a := Lib.hid (HM1.out w12 (Below.refl _ _))
        have Hg12 : Hid (Below w11.heap.size w11 w12) := hb12
        clear HL2 hown12 hb12 hg12 hmax12 Hr11 Hr1 Hr2 Hg12
        go_wp2_with fail
        refine HM1a.out.mono ?_
        rintro e w13 ⟨v13, rfl, hown13, hb13⟩
        have hs13 := hb13.size
        have Hb13 := Lib.hid hb13
        have HM1b := Lib.hid (HM1.out w13 hb13)
        obtain ⟨A13, c13, rfl, _, _⟩ := own_slice hown13
        have Hown13 := Lib.hid hown13
        clear HM1a HM1 hb13 hown13
        go_wp2_with fail
        refine HM1b.out.mono ?_
        rintro e w14 ⟨v14, rfl, hown14, hb14⟩
        have hs1314 := hb14.size
        have Hb14 : Hid (Below w12.heap.size w12 w14) := Hb13.out.trans (hb14.mono hs13)
        have hs14 := Hb14.out.size
        obtain ⟨A14, c14, rfl, _, _⟩ := own_slice hown14
        have Hown14 := Lib.hid hown14
        have Hc14 := Lib.hid (own_only Hown13.out (Only.new (fun _ => False) hb14) (fun _ _ q => q))
        have hw14 := Hend.out w14 (Hb12.out.trans (Hb14.out.mono hs12))
        have hcr14 := Hcy.out w14 hw14
        have HMr14 := Lib.hid (HMr.out w14 hw14)
        clear HM1b hb14 hown14 HMr hw14 Hb13
        go_wp2_with fail
        refine HMr14.out.mono ?_
        rintro e w15 ⟨v15, rfl, hown15, hb15⟩
        have hs1415 := hb15.size
        have Hb15 : Hid (Below w12.heap.size w12 w15) := Hb14.out.trans (hb15.mono hs14)
        have hs15 := Hb15.out.size
        obtain ⟨A15, c15, rfl, _, hr15⟩ := own_slice hown15
        have Hown15 := Lib.hid hown15
        have Hc15 := Lib.hid (own_only Hc14.out (Only.new (fun _ => False) hb15) (fun _ _ q => q))
        have Hd15 := Lib.hid (own_only Hown14.out (Only.new (fun _ => False) hb15) (fun _ _ q => q))
        have hw15 := Hend.out w15 (Hb12.out.trans (Hb15.out.mono hs12))
        have hcr15 := Hcy.out w15 hw15
        have HSc := Lib.hid (samePoints_true A13 A15 c13 c15 M w15 w15.heap.size w15.heap.size (Reads.of_own Hc15.out) hr15 (by omega))
        clear HMr14 hb15 hown15 hr15 hw15 hcr14 Hc14 Hb14
        go_wp2_with fail
        refine HSc.out.mono ?_
        rintro e w' ⟨rfl, n16, rfl⟩
        have hb16 : Below w12.heap.size w12 (w15.drewN n16) := below_drewN Hb15.out n16
        have Hc16 : Hid ((w15.drewN n16).ownsRow w12.heap.size 52 3 (.slice A13 M.length c13) M.length (M.flatMap pointCells)) := own_drewN Hc15.out n16
        have Hd16 : Hid ((w15.drewN n16).ownsRow w13.heap.size 52 3 (.slice A14 M.length c14) M.length (M.flatMap pointCells)) := own_drewN Hd15.out n16
        have He16 : Hid ((w15.drewN n16).ownsRow w14.heap.size 52 3 (.slice A15 M.length c15) M.length (M.flatMap pointCells)) := own_drewN Hown15.out n16
        have hs16 : w14.heap.size ≤ (w15.drewN n16).heap.size := hs1415
        have Hb16 := Lib.hid hb16
        have hcr16 : (w15.drewN n16).cell? ⟨b, off + k, none⟩ = some (.slice ya ps.length yc) := hcr15
        clear HSc Hc15 Hd15 Hown15 Hb15 hb16 hs1415 hcr15 hs15
        generalize w15.drewN n16 = w16 at *
        have HK1a := Lib.hid (HK1.out w16 Hb16.out)
        clear HK1
        go_wp2_with fail
        refine HK1a.out.mono ?_
        rintro e w' ⟨rfl, n17, rfl⟩
        have hb17 : Below w12.heap.size w12 (w16.drewN n17) := below_drewN Hb16.out n17
        have Hc17 : Hid ((w16.drewN n17).ownsRow w12.heap.size 52 3 (.slice A13 M.length c13) M.length (M.flatMap pointCells)) := own_drewN Hc16.out n17
        have Hd17 : Hid ((w16.drewN n17).ownsRow w13.heap.size 52 3 (.slice A14 M.length c14) M.length (M.flatMap pointCells)) := own_drewN Hd16.out n17
        have He17 : Hid ((w16.drewN n17).ownsRow w14.heap.size 52 3 (.slice A15 M.length c15) M.length (M.flatMap pointCells)) := own_drewN He16.out n17
        have hs17 : w14.heap.size ≤ (w16.drewN n17).heap.size := hs16
        have Hb17 := Lib.hid hb17
        clear HK1a Hc16 Hd16 He16 Hb16 hb17 hs16 hcr16
        generalize w16.drewN n17 = w17 at *
        have HK2a := Lib.hid (HK2.out w17 Hb17.out)
        clear HK2
        go_wp2_with fail
        refine HK2a.out.mono ?_
        rintro e w' ⟨rfl, n18, rfl⟩
        have hb18 : Below w12.heap.size w12 (w17.drewN n18) := below_drewN Hb17.out n18
        have Hc18 : Hid ((w17.drewN n18).ownsRow w12.heap.size 52 3 (.slice A13 M.length c13) M.length (M.flatMap pointCells)) := own_drewN Hc17.out n18
        have Hd18 : Hid ((w17.drewN n18).ownsRow w13.heap.size 52 3 (.slice A14 M.length c14) M.length (M.flatMap pointCells)) := own_drewN Hd17.out n18
        have He18 : Hid ((w17.drewN n18).ownsRow w14.heap.size 52 3 (.slice A15 M.length c15) M.length (M.flatMap pointCells)) := own_drewN He17.out n18
        have hs18 : w14.heap.size ≤ (w17.drewN n18).heap.size := hs17
        have Hb18 := Lib.hid hb18
        clear HK2a Hc17 Hd17 He17 Hb17 hb18 hs17
        generalize w17.drewN n18 = w18 at *
        have HSp := Lib.hid (spoilPoints_any A13 c13 M w18 w12.heap.size Hc18.out (by omega))
        go_wp2_with fail
        refine HSp.out.mono ?_
        rintro e w19 ⟨rfl, ho19⟩
        have hb19 : Below w10.heap.size w10 w19 := by
          have h1 : Below w10.heap.size w10 w18 := Hb12.out.trans (Hb18.out.mono hs12)
          exact h1.trans (spoil_below Hc18.out ho19 hs12 h1.size)
        have hd19 : w19.ownsRow w13.heap.size 52 3 (.slice A14 M.length c14) M.length (M.flatMap pointCells) := spoil_other Hown13.out (Nat.le_refl _) Hd18.out ho19
        have he19 : w19.ownsRow w14.heap.size 52 3 (.slice A15 M.length c15) M.length (M.flatMap pointCells) := spoil_other Hown13.out hs1314 He18.out ho19
        have HSd := Lib.hid (samePoints_true A14 A15 c14 c15 M w19 w19.heap.size w19.heap.size (Reads.of_own hd19) (Reads.of_own he19) (by omega))
        have Hb19 := Lib.hid hb19
        clear HSp ho19 hd19 he19 Hc18 Hd18 He18 Hb18 Hown13 Hown14 hb19 hs18
        go_wp2_with fail
        refine HSd.out.mono ?_
        rintro e w' ⟨rfl, n20, rfl⟩
        have Hb20 : Hid (Below w10.heap.size w10 (w19.drewN n20)) := below_drewN Hb19.out n20
        clear HSd Hb19
        go_wp2_with fail
        go_roundw
        case rel => exact ⟨k + 1, by omega, by go_num, Hb20⟩
        case measure => simp [intOf]; omega
      · have hk2I : ¬ (k : Int) < 2 := by omega
        go_wp2_with fail
        refine HSe.out.mono ?_
        rintro e w' ⟨rfl, n, rfl⟩
        have Hbn : Hid (Below w.heap.size w (wr.drewN n)) := Hend.out _ (below_drewN hbw.out n)
        clear HSe
        go_wp2_with fail
        refine (awake15 _).mono ?_
        rintro e w12 ⟨rfl, hb12⟩
        have Hb12 : Hid (Below w.heap.size w w12) := Hbn.out.trans (hb12.mono Hbn.out.size)
        clear hb12
        go_wp2_with fail
        go_ret
        exact ⟨rfl, Hb12.out⟩
    · have hltI : ¬ (k : Int) < (z0.length : Int) := by omega
      go_wp2_with fail
      refine HSe.out.mono ?_
      rintro e w' ⟨rfl, n, rfl⟩
      have Hbn : Hid (Below w.heap.size w (wr.drewN n)) := Hend.out _ (below_drewN hbw.out n)
      clear HSe
      go_wp2_with fail
      refine (awake15 _).mono ?_
      rintro e w12 ⟨rfl, hb12⟩
      have Hb12 : Hid (Below w.heap.size w w12) := Hbn.out.trans (hb12.mono Hbn.out.size)
      clear hb12
      go_wp2_with fail
      go_ret
      exact ⟨rfl, Hb12.out⟩
theorem queryRanges_walk {w : World} (A0 : Option Addr) (c0 : Nat) (z0 : List Lst) (A1 : Option Addr) (c1 : Nat) (z1 : List Pt.Point) (a2 : ByteArray) (a3 a4 : Int) (a5 : Bool) (rd0 : Reads w w.heap.size 1 A0 z0.length (z0.map lstV)) (ok0 : ∀ y ∈ z0, LstOk w y) (rd1 : Reads w w.heap.size 3 A1 z1.length (z1.flatMap pointCells)) (wf1 : ∀ f ∈ z1, (Lit.int .i64 f.2.1).wf = true ∧ (Lit.int .i64 f.2.2).wf = true ∧ f.1.size ≤ maxLen) (w2 : a2.size ≤ maxLen) (w3 : (Lit.int .i64 a3).wf = true) (w4 : (Lit.int .i64 a4).wf = true) (ub : (z0.map fun y : Lst => (y.2.2.map fun p : ByteArray × Int × Int => p.1.size + 4).sum).sum + (z1.map fun p : ByteArray × Int × Int => p.1.size + 4).sum + a2.size ≤ 1048576) (lb0 : z0.length ≤ 1048576) :
    Calls Try.prog 8 #[.slice A0 z0.length c0, .slice A1 z1.length c1, .string a2, .int .i64 a3, .int .i64 a4, .bool a5] w fun e w' => e = .returned (.bool true) ∧ Below w.heap.size w w' := by
  have h1 := sum_ge_length (fun p : ByteArray × Int × Int => p.1.size + 4) 4 (fun _ => by omega) z1
  exact queryRanges_go A0 c0 z0 (listsOk_of rd0 ok0 lb0 (by omega)) A1 c1 z1 rd1 (by omega) (fun q hq => (Rf.pts_wf wf1 q hq).2) a2 a3 a4 a5
end Go.Proofs.Ythdbmgjlegpbaaa
