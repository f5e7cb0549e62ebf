/- The walks through point.Read and point.Get. -/
import Derived.Test.YtjfdkjgmjjfmcaaPtMay
import Derived.Test.YtjfdkjgmjjfmcaaReader
import Derived.Test.YtjfdkjgmjjfmcaaFrame
namespace Go.Proofs.Ytjfdkjgmjjfmcaa
open Go.RowKit
set_option linter.unusedVariables false

theorem info_point : (Try.prog.info? 85).map (fun i => (i.zero, i.size, i.bytes)) = some (some (.agg #[.string ⟨#[]⟩, .int .i64 0, .int .i64 0]), 3, 32) := by kernel_rfl
def ReadPost (g : Nat) (s : ByteArray) (w : World) (r : List Pt.Point × Pt.St) (e : Ending) (w' : World) : Prop :=
  ∃ v, e = .returned v ∧ w'.ownsRow w.heap.size 85 3 v r.1.length (r.1.flatMap pointCells) ∧ RdAt w' g s r.2 ∧ Only (fun k => k = g) w w'
theorem rdPts_more (s : ByteArray) (n : Nat) (r : Pt.St) : Pt.rdPts s (n + 1) r = ((Pt.rdPt s r).1 :: (Pt.rdPts s n (Pt.rdPt s r).2).1, (Pt.rdPts s n (Pt.rdPt s r).2).2) := rfl
theorem rdPt_eq (s : ByteArray) (r : Pt.St) {nm : ByteArray} {t v : Int} {r1 r2 : Pt.St} {a3 : Int} {b3 : Bool} (h1 : Pt.rdText s 12 r = (nm, r1)) (h2 : Pt.rdNum s (-2147483648) 2147483647 r1 = (t, r2)) (h3 : Pt.rdNum s (-2147483648) 2147483647 r2 = (v, (a3, b3))) :
    Pt.rdPt s r = ((nm, t, v), (a3, b3 || !Pt.mayB (nm, t, v))) := by
  unfold Pt.rdPt; simp only [h1, h2, h3]
theorem own_ne_lt {w : World} {base : Nat} {e : TypeId} {size n : Nat} {v : Value} {xs : List Value} (h : w.ownsRow base e size v n xs) {g : Nat} (hg : g < base) : v.ownBlock ≠ some g := fun k => by have := (own_lt h k).1; omega
theorem only_ne {w w' : World} {g g' : Nat} (h : Only (fun k => k = g) w w') (hg : g' ≠ g) : Only (fun k => k ≠ g') w w' := h.mono fun j _ hj => by rw [hj]; exact fun k => hg k.symm

theorem pt3_of {w : World} {h : Nat} {n : ByteArray} {t v : Int} (hP : Blk w h 85 #[.string n, .int .i64 t, .int .i64 v]) :
    w.cell? ⟨h, 0, none⟩ = some (.string n) ∧ w.cell? ⟨h, 1, none⟩ = some (.int .i64 t) ∧ w.cell? ⟨h, 2, none⟩ = some (.int .i64 v) := ⟨hP.cell 0, hP.cell 1, hP.cell 2⟩
set_option maxRecDepth 100000 in
set_option maxHeartbeats 1000000 in
theorem read_any (s : ByteArray) (a0 : Int) (b0 : Bool) (w : World) (g : Nat) (hR : RdAt w g s (a0, b0)) (hs : s.size ≤ 4611686018427387904) (ha : -9223372036854775808 ≤ a0 ∧ a0 ≤ 9223372036854775807) :
    Calls Try.prog 79 #[.pointer (some ⟨g, 0, none⟩)] w (ReadPost g s w (Pt.readPts s (a0, b0))) := by
  obtain ⟨i0, hi, hz0, hz1, hz2⟩ := info_parts info_point
  have hg := hR.lt
  have H0 := Lib.hid (readerNum_any s a0 b0 0 8 w g hR (by omega) ha)
  have hrng := Pt.rdNum_range s 0 8 (a0, b0) (by omega) (by omega)
  have hat := Pt.rdNum_at s 0 8 (a0, b0) ha.2 ha.1 (by omega)
  have HD : Hid (Pt.readPts s (a0, b0) = (if (Pt.rdPts s (Pt.rdNum s 0 8 (a0, b0)).1.toNat (Pt.rdNum s 0 8 (a0, b0)).2).2.2 then [] else (Pt.rdPts s (Pt.rdNum s 0 8 (a0, b0)).1.toNat (Pt.rdNum s 0 8 (a0, b0)).2).1, (Pt.rdPts s (Pt.rdNum s 0 8 (a0, b0)).1.toNat (Pt.rdNum s 0 8 (a0, b0)).2).2)) := rfl
  generalize Pt.readPts s (a0, b0) = res at *
  generalize Pt.rdNum s 0 8 (a0, b0) = X at *
  obtain ⟨nI, ra, rb⟩ := X
  simp only at hrng hat HD H0
  obtain ⟨n, rfl⟩ : ∃ n : Nat, nI = n := ⟨nI.toNat, by omega⟩
  rw [Int.toNat_natCast] at HD
  clear hR ha
  go_enter Try.func79, Try.ntmps79
  go_wp2_with fail
  refine H0.out.mono ?_
  rintro e w1 ⟨rfl, hR1, ho1⟩
  have HR1 := Lib.hid hR1
  have Ho1 := Lib.hid ho1
  clear hR1 ho1 H0
  go_wp2_with fail
  go_loopw [3, 4, 7] (fun vo _ i wr => ∃ (k : Nat) (out : List Pt.Point) (r : Pt.St), k ≤ n ∧ i = .int .i64 (k : Int) ∧ Hid (Pt.rdPts s n (ra, rb) = (out ++ (Pt.rdPts s (n - k) r).1, (Pt.rdPts s (n - k) r).2)) ∧ out.length ≤ k ∧ (-9223372036854775808 ≤ r.1 ∧ r.1 ≤ 9223372036854775807) ∧ Hid (RdAt wr g s r) ∧ Hid (wr.ownsRow w.heap.size 85 3 vo out.length (out.flatMap pointCells)) ∧ Hid (Only (fun k => k = g) w wr)) (fun _ _ i _ => n - (intOf i).toNat)
  case atStart => exact ⟨0, [], (ra, rb), Nat.zero_le _, rfl, Lib.hid (by simp), by simp, hat, HR1, Lib.hid (own_nil _ _ _ _), Ho1⟩
  case round =>
    obtain ⟨k, out, r, hk, rfl, hrel, hol, hrb, hR, hown, ho⟩ := hrel
    obtain ⟨a1, b1⟩ := r
    clear HR1 Ho1
    by_cases hlt : k < n
    · have Hrel : Hid (Pt.rdPts s n (ra, rb) = ((out ++ [(Pt.rdPt s (a1, b1)).1]) ++ (Pt.rdPts s (n - (k + 1)) (Pt.rdPt s (a1, b1)).2).1, (Pt.rdPts s (n - (k + 1)) (Pt.rdPt s (a1, b1)).2).2)) := by
        show _ = _
        rw [hrel.out, show n - k = (n - (k + 1)) + 1 from by omega, rdPts_more]; simp
      have hrb2 := Pt.rdPt_at s (a1, b1) hrb (by omega)
      clear hrel
      have hT := Pt.rdText_at s 12 (a1, b1) hrb.2 hrb.1 (by omega)
      go_wp2_with fail
      refine (readerText_any s a1 b1 12 wr g hR.out (by omega) hrb (by omega)).mono ?_
      rintro e w2 ⟨rfl, hR2, ho2⟩
      generalize hX : Pt.rdText s 12 (a1, b1) = X at *
      obtain ⟨nm, a2, b2⟩ := X
      simp only at hR2 hT
      have HX := Lib.hid hX
      clear hX
      have HR2 := Lib.hid hR2
      have Ho2 := Lib.hid ho2
      have hN := Pt.rdNum_at s (-2147483648) 2147483647 (a2, b2) hT.2 hT.1 (by omega)
      have hNr := Pt.rdNum_range s (-2147483648) 2147483647 (a2, b2) (by omega) (by omega)
      clear hR2 ho2
      go_wp2_with fail
      refine (readerNum_any s a2 b2 (-2147483648) 2147483647 w2 g HR2.out (by omega) hT).mono ?_
      rintro e w3 ⟨rfl, hR3, ho3⟩
      generalize hY : Pt.rdNum s (-2147483648) 2147483647 (a2, b2) = Y at *
      obtain ⟨t, a3, b3⟩ := Y
      simp only at hR3 hN hNr
      have HY := Lib.hid hY
      clear hY
      have HR3 := Lib.hid hR3
      have Ho3 := Lib.hid ho3
      have hN2 := Pt.rdNum_range s (-2147483648) 2147483647 (a3, b3) (by omega) (by omega)
      clear hR3 ho3
      go_wp2_with fail
      refine (readerNum_any s a3 b3 (-2147483648) 2147483647 w3 g HR3.out (by omega) hN).mono ?_
      rintro e w4 ⟨rfl, hR4, ho4⟩
      generalize hZ : Pt.rdNum s (-2147483648) 2147483647 (a3, b3) = Z at *
      obtain ⟨v, a4, b4⟩ := Z
      simp only at hR4 hN2
      have HZ := Lib.hid hZ
      clear hZ
      have HR4 := Lib.hid hR4
      have Ho4 : Hid (Only (fun k => k = g) w w4) := ho.out.trans (Ho2.out.trans (Ho3.out.trans ho4 (fun _ _ h => h)) (fun _ _ h => h)) (fun _ _ h => h)
      have Hown4 : Hid (w4.ownsRow w.heap.size 85 3 u3 out.length (out.flatMap pointCells)) := own_only hown.out (Ho2.out.trans (Ho3.out.trans ho4 (fun _ _ h => h)) (fun _ _ h => h)) (fun g' hg' e => own_ne_lt hown.out hg (by rw [hg', e]))
      have HE := Lib.hid (rdPt_eq s (a1, b1) HX.out HY.out HZ.out)
      clear hR4 ho4 HX HY HZ Ho2 Ho3 HR2 HR3 hR ho hown
      rw [HE.out] at Hrel hrb2
      simp only at Hrel hrb2
      have hs4 := Ho4.out.size
      have hlt4 : g < w4.heap.size := by omega
      have hwf : Pt.wf (nm, t, v) := ⟨⟨by simp; omega, by simp; omega⟩, ⟨by simp; omega, by simp; omega⟩⟩
      have hA := Only.new (fun k => k = g) ((Below.refl w4.heap.size w4).alloc (Nat.le_refl _) (.cells #[.string nm, .int .i64 t, .int .i64 v] 85))
      have HRa := Lib.hid (HR4.out.alloc (.cells #[.string nm, .int .i64 t, .int .i64 v] 85))
      have HPa := Lib.hid (Blk.new w4 85 #[.string nm, .int .i64 t, .int .i64 v])
      have Hown5 := Lib.hid (Hown4.out.alloc (.cells #[.string nm, .int .i64 t, .int .i64 v] 85))
      have Ho5 : Hid (Only (fun k => k = g) w (w4.alloc (.cells #[.string nm, .int .i64 t, .int .i64 v] 85))) := Ho4.out.trans hA (fun _ _ h => h)
      have hc4 := HR4.out.cell2
      have hf4 := HR4.out.frozen 2
      have hgh : g ≠ w4.heap.size := by omega
      clear hA
      simp only at hc4
      cases b4
      · have HM := fun W => Lib.hid (may_any (nm, t, v) W hwf)
        go_wp2_with fail
        refine (HM _).out.mono ?_
        rintro e w6 ⟨rfl, hb6⟩
        have HR6 := Lib.hid (HRa.out.below hb6 HRa.out.lt)
        have hP6 := pt3_of (Blk.below HPa.out hb6 HPa.out.lt)
        obtain ⟨hp0, hp1, hp2⟩ := hP6
        have hc6 := HR6.out.cell2
        have hf6 := HR6.out.frozen 2
        have hO6 := Only.new (fun k => k = g) hb6
        have hR7 := HR6.out.bad (!Pt.mayB (nm, t, v))
        have hO7 := hO6.setCell (p := ⟨g, 2, none⟩) (fun _ => rfl) (.bool (!Pt.mayB (nm, t, v)))
        have hown7 := own_only Hown5.out hO7 (fun g' hg' e => own_ne_lt Hown5.out hg (by rw [hg', e]))
        have Ho7 := Lib.hid (Ho5.out.trans hO7 (fun _ _ h => h))
        have HR7 := Lib.hid hR7
        have Hown7 := Lib.hid hown7
        have hs7 := Ho7.out.size
        have hh : w4.heap.size ≠ g := fun e => hgh e.symm
        clear hb6 hO6 hO7 HR6 HRa HPa Hown5 Ho5 hR7 hown7 HM hc4 hf4 HR4 Hown4 Ho4
        simp only at hc6
        rw [Bool.false_or] at Hrel
        generalize Pt.mayB (nm, t, v) = m at *
        generalize w4.heap.size = h at *
        go_wp2_with (at_builtin; refine wpList_push_at _ rfl _ _ 70 rfl w.heap.size 85 i0 _ 3 32 Try.underlying70 hi hz0 hz1 hz2 rfl (by decide) _ out.length _ (by rfl) Hown7.out [.string nm, .int .i64 t, .int .i64 v] w6.heap.size (by simp) (by rfl) rfl (by simp [Value.oneCell']) (by unfold maxLen; omega) (by omega) (by omega) ?_; intro v8 w8 hown8 ho8 _)
        have HR8 : Hid (RdAt w8 g s (a4, !m)) := HR7.out.only ho8 (own_ne_lt Hown7.out hg)
        have Ho8 : Hid (Only (fun k => k = g) w w8) := Ho7.out.trans ho8 (fun j hj e => absurd e (own_ne_lt Hown7.out hj))
        have Hown8 : Hid (w8.ownsRow w.heap.size 85 3 v8 (out ++ [(nm, t, v)]).length ((out ++ [(nm, t, v)]).flatMap pointCells)) := by
          rw [List.length_append, List.flatMap_append]; exact hown8
        clear hown8 ho8
        go_wp2_with fail
        go_roundw
        case rel => exact ⟨k + 1, out ++ [(nm, t, v)], (a4, !m), by omega, by go_num, Hrel, by simp; omega, hrb2, HR8, Hown8, Ho8⟩
        case measure => simp [intOf]; omega
      · have hR7 := (HR4.out.bad true).alloc (.cells #[.string nm, .int .i64 t, .int .i64 v] 85)
        have hO7 := ((Only.refl (fun k => k = g) w4).setCell (p := ⟨g, 2, none⟩) (fun _ => rfl) (.bool true)).alloc (.cells #[.string nm, .int .i64 t, .int .i64 v] 85)
        have hown7 := own_only Hown4.out hO7 (fun g' hg' e => own_ne_lt Hown4.out hg (by rw [hg', e]))
        have Ho7 := Lib.hid (Ho4.out.trans hO7 (fun _ _ h => h))
        have HR7 := Lib.hid hR7
        have Hown7 := Lib.hid hown7
        have hs7 := Ho7.out.size
        clear hO7 HRa HPa Hown5 Ho5 hR7 hown7 HR4 Hown4 Ho4
        rw [Bool.true_or] at Hrel
        go_wp2_with (at_builtin; refine wpList_push_at _ rfl _ _ 70 rfl w.heap.size 85 i0 _ 3 32 Try.underlying70 hi hz0 hz1 hz2 rfl (by decide) _ out.length _ (by rfl) Hown7.out [.string nm, .int .i64 t, .int .i64 v] (w4.heap.size + 1) (by simp) (by rfl) rfl (by simp [Value.oneCell']) (by unfold maxLen; omega) (by omega) hs7 ?_; intro v8 w8 hown8 ho8 _)
        have HR8 : Hid (RdAt w8 g s (a4, true)) := HR7.out.only ho8 (own_ne_lt Hown7.out hg)
        have Ho8 : Hid (Only (fun k => k = g) w w8) := Ho7.out.trans ho8 (fun j hj e => absurd e (own_ne_lt Hown7.out hj))
        have Hown8 : Hid (w8.ownsRow w.heap.size 85 3 v8 (out ++ [(nm, t, v)]).length ((out ++ [(nm, t, v)]).flatMap pointCells)) := by
          rw [List.length_append, List.flatMap_append]; exact hown8
        clear hown8 ho8
        go_wp2_with fail
        go_roundw
        case rel => exact ⟨k + 1, out ++ [(nm, t, v)], (a4, true), by omega, by go_num, Hrel, by simp; omega, hrb2, HR8, Hown8, Ho8⟩
        case measure => simp [intOf]; omega
    · have hnk : n - k = 0 := by omega
      rw [hnk] at hrel
      have Hrel : Hid (Pt.rdPts s n (ra, rb) = (out, (a1, b1))) := by show _ = _; rw [hrel.out]; simp [Pt.rdPts]
      clear hrel hnk
      rw [Hrel.out] at HD
      simp only at HD
      have hc := hR.out.cell2
      have hlt4 : g < wr.heap.size := hR.out.lt
      simp only at hc
      cases b1
      · go_wp2_with fail
        go_ret
        exact ⟨_, rfl, by rw [HD.out]; exact hown.out, by rw [HD.out]; exact hR.out, ho.out⟩
      · go_wp2_with fail
        go_ret
        exact ⟨_, rfl, by rw [HD.out]; exact own_nil _ _ _ _, by rw [HD.out]; exact hR.out, ho.out⟩

def GetPost (w : World) (r : List Pt.Point × Int × Int) (e : Ending) (w' : World) : Prop :=
  ∃ v, e = .returned (.tuple #[v, .int .i64 r.2.1, .int .i64 r.2.2]) ∧ w'.ownsRow w.heap.size 85 3 v r.1.length (r.1.flatMap pointCells) ∧ Below w.heap.size w w'
theorem own_down {w : World} {base base' : Nat} {e : TypeId} {size n : Nat} {v : Value} {xs : List Value} (h : w.ownsRow base e size v n xs) (hb : base' ≤ base) : w.ownsRow base' e size v n xs :=
  ⟨h.1, by
    rcases h.2 with h0 | ⟨g, cap, cur, e1, e2, e3⟩
    · exact .inl h0
    · exact .inr ⟨g, cap, cur, e1, Nat.le_trans hb e2, e3⟩⟩

set_option maxRecDepth 100000 in
set_option maxHeartbeats 400000 in
theorem get_any (s : ByteArray) (a : Int) (w : World) (hs : s.size ≤ 4611686018427387904) (ha : -9223372036854775808 ≤ a ∧ a ≤ 9223372036854775807) :
    Calls Try.prog 59 #[.string s, .int .i64 a] w (GetPost w (Pt.getPts s a)) := by
  have HD : Hid (Pt.getPts s a = if (Pt.readPts s (a, false)).2.2 then ([], 0, 300) else ((Pt.readPts s (a, false)).1, (Pt.readPts s (a, false)).2.1, 0)) := rfl
  have HC := Lib.hid (read_any s a false (w.alloc (.cells #[.string s, .int .i64 a, .bool false] 102)) w.heap.size (RdAt.new w s a) hs ha)
  have hb0 := (Below.refl w.heap.size w).alloc (Nat.le_refl _) (.cells #[.string s, .int .i64 a, .bool false] 102)
  generalize Pt.getPts s a = res at *
  generalize Pt.readPts s (a, false) = X at *
  obtain ⟨ps, a1, b1⟩ := X
  simp only at HD
  go_enter Try.func59, Try.ntmps59
  go_wp2_with fail
  refine HC.out.mono ?_
  rintro e w1 ⟨v, rfl, hown, hR, ho⟩
  obtain ⟨A, c, rfl, hnc, _⟩ := own_slice hown
  have hc1 := hR.cell1
  have hc2 := hR.cell2
  have Hown := Lib.hid (own_down hown (by simp : w.heap.size ≤ _))
  have Hb : Hid (Below w.heap.size w w1) := hb0.trans (ho.below (fun k hk e => by omega) (by simp))
  simp only at hc1 hc2
  clear hown hR ho HC hb0
  cases b1
  · go_wp2_with fail
    go_quiet (fail)
    go_wp2_with fail
    go_ret3
    exact ⟨_, by rw [HD.out]; rfl, by rw [HD.out]; exact own_drewN Hown.out _, below_drewN Hb.out _⟩
  · go_wp2_with fail
    go_ret3
    exact ⟨_, by rw [HD.out]; rfl, by rw [HD.out]; exact own_nil _ _ _ _, Hb.out⟩
end Go.Proofs.Ytjfdkjgmjjfmcaa
