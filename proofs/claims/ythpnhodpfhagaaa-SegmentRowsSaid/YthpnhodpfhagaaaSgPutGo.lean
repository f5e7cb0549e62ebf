/- The walk through segment.Put. -/
import Derived.Test.YthpnhodpfhagaaaSgPush
import Derived.Test.YthpnhodpfhagaaaClTexts4
import Derived.Test.YthpnhodpfhagaaaClGet
namespace Go.Proofs.Ythpnhodpfhagaaa
open Go.RowKit
set_option linter.unusedVariables false

theorem cell_keep {w : World} {p : Addr} {u : Value} (o : Obj) (h : w.cell? p = some u) : (w.alloc o).cell? p = some u := (World.cell?_alloc_lt w o p (World.block_lt_of_cell? w _ h)).trans h
theorem drew_cell (w : World) (p : Addr) : w.drew.cell? p = w.cell? p := rfl
theorem drew_size (w : World) : w.drew.heap.size = w.heap.size := rfl
set_option maxRecDepth 100000 in
set_option maxHeartbeats 4000000 in
theorem sgput_any (r : Int) (A : Option Addr) (c : Nat) (ps : List Pt.Point) (w : World) (B : Nat) (hr : Reads w B 3 A ps.length (ps.flatMap pointCells)) (hB : B ≤ w.heap.size) (hn : ps.length ≤ 140737488355328) (hwf : ∀ p ∈ ps, Pt.wf p) :
    Calls Try.prog 34 #[.int .i64 r, .slice A ps.length c] w fun e w' => e = .returned (.tuple #[.string (Sg.putR r ps).1, .int .i64 (Sg.putR r ps).2]) ∧ Below w.heap.size w w' := by
  obtain ⟨i0, hi, hz0, hz1, hz2⟩ := info_parts info_string
  obtain ⟨i1, hi', hy0, hy1, hy2⟩ := info_parts info_int
  have HRs := Lib.hid (sgmay_any A c ps w B hr hB hn hwf)
  have HRd := Lib.hid hr
  by_cases hrg : r < 1 ∨ 512 < r
  · have HR := Lib.hid (putR_range (ps := ps) hrg)
    generalize Sg.putR r ps = res at *
    clear HRs hr hwf
    by_cases h1 : r < 1
    · clear hrg
      go_enter Try.func34, Try.ntmps34
      go_wp2_with fail
      go_ret2
      exact ⟨by rw [HR.out]; rfl, Below.refl _ _⟩
    · have h2 : 512 < r := by omega
      clear hrg
      go_enter Try.func34, Try.ntmps34
      go_wp2_with fail
      go_ret2
      exact ⟨by rw [HR.out]; rfl, Below.refl _ _⟩
  · have hr1 : ¬ r < 1 := by omega
    have hr2 : ¬ 512 < r := by omega
    have d1 : decide (r < 1) = false := decide_eq_false hr1
    have d2 : decide (512 < r) = false := decide_eq_false hr2
    cases hrise : Sg.riseB ps
    · have HR := Lib.hid (putR_form hrg hrise)
      rw [hrise] at HRs
      generalize Sg.putR r ps = res at *
      clear hr hwf hrise hrg
      go_enter Try.func34, Try.ntmps34
      go_wp2_with fail
      refine HRs.out.mono ?_
      rintro e w1 ⟨rfl, hb1⟩
      go_wp2_with fail
      go_ret2
      exact ⟨by rw [HR.out]; rfl, hb1⟩
    · have HR := Lib.hid (putR_good hrg hrise)
      rw [hrise] at HRs
      have h64 := rise_len hrise
      have hmay := rise_may hrise
      have HM := Lib.hid hmay
      have hTl := textsB_le (names_short hmay) (by simp [Sg.names]; omega)
      have hI1 := intsB_le (times_small hmay)
      have hI2 := intsB_le (vals_small hmay)
      have hln : (Sg.names ps).length = ps.length := by simp [Sg.names]
      have hlt' : (Sg.times ps).length = ps.length := by simp [Sg.times]
      have hlv : (Sg.vals ps).length = ps.length := by simp [Sg.vals]
      have hpr := Wr.putL_len r
      have hpr' : (Wr.putB r).size ≤ 8 := by rw [Wr.putB_size]; exact hpr
      have hpn : (Wr.putB (ps.length : Int)).size ≤ 8 := by rw [Wr.putB_size]; exact Wr.putL_len _
      have HN1 := fun W => Lib.hid (putNum_any r W (by omega))
      have HN2 := fun W => Lib.hid (putNum_any (ps.length : Int) W (by omega))
      have htw : ∀ x ∈ Sg.times ps, -9223372036854775808 ≤ x ∧ x ≤ 9223372036854775807 := fun x hx => by have := (Pt.smallB_iff x).1 (times_small hmay x hx); omega
      have hvw : ∀ x ∈ Sg.vals ps, -9223372036854775808 ≤ x ∧ x ≤ 9223372036854775807 := fun x hx => by have := (Pt.smallB_iff x).1 (vals_small hmay x hx); omega
      have Htw := Lib.hid htw
      have Hvw := Lib.hid hvw
      have Hln := Lib.hid hln
      have Hlt := Lib.hid hlt'
      have Hlv := Lib.hid hlv
      have hqT : (Cl.textsB (Sg.names ps)).size ≤ 2000 := by omega
      have hqI : (Cl.intsB (Sg.times ps)).size ≤ 2000 := by omega
      have hqV : (Cl.intsB (Sg.vals ps)).size ≤ 2000 := by omega
      generalize Sg.putR r ps = res at *
      clear hr hwf hrise hrg hmay htw hvw hln hlt' hlv hTl hI1 hI2 hpr
      go_enter Try.func34, Try.ntmps34
      go_wp2_with fail
      refine HRs.out.mono ?_
      rintro e w1 ⟨rfl, hb1⟩
      have Hb1 := Lib.hid hb1
      have hs1 := hb1.size
      clear hb1 HRs
      go_wp2_with fail
      go_loopw [6, 7, 8, 10, 25] (fun vn vt vv _ i wr => ∃ k : Nat, k ≤ ps.length ∧ i = .int .i64 (k : Int) ∧ Hid (Rows3 w1.heap.size vn vt vv (Sg.names (ps.take k)) (Sg.times (ps.take k)) (Sg.vals (ps.take k)) wr) ∧ Hid (Below w1.heap.size w1 wr)) (fun _ _ _ _ i _ => ps.length - (intOf i).toNat)
      case atStart => exact ⟨0, Nat.zero_le _, rfl, Lib.hid (Rows3.nil _ _), Lib.hid (Below.refl _ _)⟩
      case round =>
        obtain ⟨k, hk, rfl, h3, hbw⟩ := hrel
        have hsw := hbw.out.size
        by_cases hlt : k < ps.length
        · obtain ⟨bb, off, rfl, hbb, hc⟩ := HRd.out.2 (by omega)
          have hcx := fun (W : World) (hb : Below w1.heap.size w1 W) => pt_cells (wr := W) hlt hc (fun p hp => (hb.cell (p := p) (by omega)).trans (Hb1.out.cell (p := p) (by omega))) hbb
          have Hcx := Lib.hid hcx
          obtain ⟨hc0, hc1, hc2⟩ := hcx wr hbw.out
          have Hn : Hid (Sg.names (ps.take (k + 1)) = Sg.names (ps.take k) ++ [ps[k].1]) := map_take_snoc _ ps k hlt
          have Ht : Hid (Sg.times (ps.take (k + 1)) = Sg.times (ps.take k) ++ [ps[k].2.1]) := map_take_snoc _ ps k hlt
          have Hv : Hid (Sg.vals (ps.take (k + 1)) = Sg.vals (ps.take k) ++ [ps[k].2.2]) := map_take_snoc _ ps k hlt
          have hl1 : (Sg.names (ps.take k)).length ≤ 64 := by simp [Sg.names]; omega
          have hl2 : (Sg.times (ps.take k)).length ≤ 64 := by simp [Sg.times]; omega
          have hl3 : (Sg.vals (ps.take k)).length ≤ 64 := by simp [Sg.vals]; omega
          clear hc hcx
          generalize Sg.names (ps.take k) = N at *
          generalize Sg.times (ps.take k) = T at *
          generalize Sg.vals (ps.take k) = V at *
          generalize ps[k].1 = nm at *
          generalize ps[k].2.1 = t at *
          generalize ps[k].2.2 = v at *
          go_wp2_with fail
          have H0 : Hid (Rows3 w1.heap.size u6 u7 u8 N T V (wr.alloc (.cells #[.string nm, .int .i64 t, .int .i64 v] 70))) := h3.out.alloc _
          have HB0 : Hid (Below w1.heap.size w1 (wr.alloc (.cells #[.string nm, .int .i64 t, .int .i64 v] 70))) := hbw.out.alloc hsw _
          have hP := pt3_of (Blk.new wr 70 #[.string nm, .int .i64 t, .int .i64 v])
          have hz0' : (wr.alloc (.cells #[.string nm, .int .i64 t, .int .i64 v] 70)).heap.size = wr.heap.size + 1 := World.size_alloc _ _
          have fN : ∀ g, wr.heap.size ≤ g → u6.ownBlock ≠ some g := fun g hg e => by have := (own_lt h3.out.n e).2; omega
          have fT : ∀ g, wr.heap.size ≤ g → u7.ownBlock ≠ some g := fun g hg e => by have := (own_lt h3.out.t e).2; omega
          have fV : ∀ g, wr.heap.size ≤ g → u8.ownBlock ≠ some g := fun g hg e => by have := (own_lt h3.out.v e).2; omega
          have lN := Lib.hid (fun j (hj : u6.ownBlock = some j) => (own_lt h3.out.n hj).1)
          have lT := Lib.hid (fun j (hj : u7.ownBlock = some j) => (own_lt h3.out.t hj).1)
          have lV := Lib.hid (fun j (hj : u8.ownBlock = some j) => (own_lt h3.out.v hj).1)
          generalize wr.alloc (.cells #[.string nm, .int .i64 t, .int .i64 v] 70) = w0 at *
          have QN := Lib.hid (fun g (h : w0.heap.size ≤ g) => fN g (by omega))
          have QT := Lib.hid (fun g (h : w0.heap.size ≤ g) => fT g (by omega))
          have QV := Lib.hid (fun g (h : w0.heap.size ≤ g) => fV g (by omega))
          have eN := Ne.symm (fN _ (Nat.le_refl _))
          have eT := Ne.symm (fT _ (Nat.le_refl _))
          have eV := Ne.symm (fV _ (Nat.le_refl _))
          have hsp : w1.heap.size ≤ w0.heap.size := by omega
          have hpl : wr.heap.size < w0.heap.size := by omega
          clear fN fT fV hz0' h3 hbw hc0 hc1 hc2
          generalize wr.heap.size = pb at *
          obtain ⟨hp0, hp1, hp2⟩ := hP
          go_region_held3 (fun w' => w'.cell? ⟨pb, 0, none⟩ = some (.string nm) ∧ w'.cell? ⟨pb, 1, none⟩ = some (.int .i64 t) ∧ w'.cell? ⟨pb, 2, none⟩ = some (.int .i64 v))
            (first
              | (go_keep; done)
              | (refine ⟨?_, ?_, ?_⟩ <;> (repeat (first | assumption | with_reducible refine (drew_cell _ _).trans ?_ | with_reducible refine cell_keep _ ?_ | with_reducible refine (hg9.cell_far _ (by first | omega | (simp <;> omega)) eV).trans ?_ | with_reducible refine (hg8.cell_far _ (by first | omega | (simp <;> omega)) eT).trans ?_ | with_reducible refine (hg7.cell_far _ (by first | omega | (simp <;> omega)) eN).trans ?_))))
            (first
              | (refine' step_pushN (o := ⟨some 33, _, _, _, _, _⟩) (base := w1.heap.size) (vn := u6) (vt := u7) (vv := u8) (N := N) (T := T) (V := V) _ rfl (.tmp 29) (.tmp 32) ?_ ?_ ?_ _ ?_ nm ?_ hl1 ?_ ?_; rotate_left 4; (· rfl); (· (repeat (first | with_reducible exact cell_new_at _ _ (by first | rfl | simp) _ _ | with_reducible refine (drew_cell _ _).trans ?_ | with_reducible refine (World.cell?_alloc_lt _ _ _ (by first | omega | (simp <;> omega))).trans ?_ | with_reducible refine (k7.out _ (by first | omega | (simp <;> omega)) (by first | omega | (simp <;> omega))).trans ?_ | with_reducible refine (k8.out _ (by first | omega | (simp <;> omega)) (by first | omega | (simp <;> omega))).trans ?_))); (· (first | omega | (simp <;> omega))); rotate_left 1; (· rfl); (· (repeat (first | with_reducible exact H0.out | with_reducible refine Rows3.drew ?_ | with_reducible refine Rows3.alloc ?_ _))); (· rfl); intro g7 c7 w7 h7 hg7; have k7 := Lib.hid (fun (p : Addr) (h1 : w0.heap.size ≤ p.block) h2 => hg7.cell_far p h2 (fun e => QN.out p.block h1 e.symm)); have b7 : Hid (Below w1.heap.size w1 w7) := Below.grown (by repeat (first | with_reducible exact Hid.out HB0 | with_reducible refine Below.drew ?_ | with_reducible refine Below.alloc ?_ (by first | omega | (simp <;> omega)) _)) hg7 (by first | omega | (simp <;> omega)) lN.out; have s7 := hg7.size; (try simp only [World.size_alloc, drew_size] at s7))
              | (refine' step_pushT (o := ⟨some 38, _, _, _, _, _⟩) (base := w1.heap.size) (vn := .slice (some ⟨g7, 0, none⟩) (N.length + 1) c7) (vt := u7) (vv := u8) (N := N ++ [nm]) (T := T) (V := V) _ rfl (.tmp 34) (.tmp 37) ?_ ?_ ?_ _ ?_ t ?_ hl2 ?_ ?_; rotate_left 4; (· rfl); (· (repeat (first | with_reducible exact cell_new_at _ _ (by first | rfl | simp) _ _ | with_reducible refine (drew_cell _ _).trans ?_ | with_reducible refine (World.cell?_alloc_lt _ _ _ (by first | omega | (simp <;> omega))).trans ?_ | with_reducible refine (k7.out _ (by first | omega | (simp <;> omega)) (by first | omega | (simp <;> omega))).trans ?_ | with_reducible refine (k8.out _ (by first | omega | (simp <;> omega)) (by first | omega | (simp <;> omega))).trans ?_))); (· (first | omega | (simp <;> omega))); rotate_left 1; (· rfl); (· (repeat (first | with_reducible exact h7 | with_reducible refine Rows3.drew ?_ | with_reducible refine Rows3.alloc ?_ _))); (· rfl); intro g8 c8 w8 h8 hg8; have k8 := Lib.hid (fun (p : Addr) (h1 : w0.heap.size ≤ p.block) h2 => hg8.cell_far p h2 (fun e => QT.out p.block h1 e.symm)); have b8 : Hid (Below w1.heap.size w1 w8) := Below.grown (by repeat (first | with_reducible exact Hid.out b7 | with_reducible refine Below.drew ?_ | with_reducible refine Below.alloc ?_ (by first | omega | (simp <;> omega)) _)) hg8 (by first | omega | (simp <;> omega)) lT.out; have s8 := hg8.size; (try simp only [World.size_alloc] at s8))
              | (refine' step_pushV (o := ⟨some 43, _, _, _, _, _⟩) (base := w1.heap.size) (vn := .slice (some ⟨g7, 0, none⟩) (N.length + 1) c7) (vt := .slice (some ⟨g8, 0, none⟩) (T.length + 1) c8) (vv := u8) (N := N ++ [nm]) (T := T ++ [t]) (V := V) _ rfl (.tmp 39) (.tmp 42) ?_ ?_ ?_ _ ?_ v ?_ hl3 ?_ ?_; rotate_left 4; (· rfl); (· (repeat (first | with_reducible exact cell_new_at _ _ (by first | rfl | simp) _ _ | with_reducible refine (drew_cell _ _).trans ?_ | with_reducible refine (World.cell?_alloc_lt _ _ _ (by first | omega | (simp <;> omega))).trans ?_ | with_reducible refine (k7.out _ (by first | omega | (simp <;> omega)) (by first | omega | (simp <;> omega))).trans ?_ | with_reducible refine (k8.out _ (by first | omega | (simp <;> omega)) (by first | omega | (simp <;> omega))).trans ?_))); (· (first | omega | (simp <;> omega))); rotate_left 1; (· rfl); (· (repeat (first | with_reducible exact h8 | with_reducible refine Rows3.drew ?_ | with_reducible refine Rows3.alloc ?_ _))); (· rfl); intro g9 c9 w9 h9 hg9; have k9 := Lib.hid (fun (p : Addr) (h1 : w0.heap.size ≤ p.block) h2 => hg9.cell_far p h2 (fun e => QV.out p.block h1 e.symm)); have b9 : Hid (Below w1.heap.size w1 w9) := Below.grown (by repeat (first | with_reducible exact Hid.out b8 | with_reducible refine Below.drew ?_ | with_reducible refine Below.alloc ?_ (by first | omega | (simp <;> omega)) _)) hg9 (by first | omega | (simp <;> omega)) lV.out; have s9 := hg9.size; (try simp only [World.size_alloc] at s9)))
          all_goals (
            rw [← Hn.out, ← Ht.out, ← Hv.out] at h9
            have H9 := Lib.hid h9
            clear h7 h8 h9 hg7 hg8 hg9 k7 k8 k9 s7 s8 s9
            go_wp2_with fail
            go_roundw
            case rel => exact ⟨k + 1, by omega, by go_num, H9, b9⟩
            case measure => simp [intOf]; omega)
        · have htk : ps.take k = ps := List.take_of_length_le (by omega)
          rw [htk] at h3
          obtain ⟨An, cn, rfl, hnn, hrn⟩ := own_slice h3.out.n
          obtain ⟨At, ct, rfl, hnt, hrt⟩ := own_slice h3.out.t
          obtain ⟨Av, cv, rfl, hnv, hrv⟩ := own_slice h3.out.v
          have HT := fun W (hb : Below wr.heap.size wr W) => Lib.hid (texts_any An cn (Sg.names ps) W wr.heap.size (hrn.below hb) hb.size (by rw [Hln.out]; omega))
          have HI := fun W (hb : Below wr.heap.size wr W) => Lib.hid (ints_any At ct (Sg.times ps) W wr.heap.size (hrt.below hb) hb.size (by rw [Hlt.out]; omega) Htw.out)
          have HV := fun W (hb : Below wr.heap.size wr W) => Lib.hid (ints_any Av cv (Sg.vals ps) W wr.heap.size (hrv.below hb) hb.size (by rw [Hlv.out]; omega) Hvw.out)
          have HRb : Hid (res = (Sg.fileB (Sg.mark ++ Wr.putB r ++ Wr.putB (ps.length : Int) ++ Cl.textsB (Sg.names ps) ++ Cl.intsB (Sg.times ps) ++ Cl.intsB (Sg.vals ps)), 0)) := HR.out
          clear htk h3 hrn hrt hrv HR HM
          generalize Cl.textsB (Sg.names ps) = TB at *
          generalize Cl.intsB (Sg.times ps) = IB at *
          generalize Cl.intsB (Sg.vals ps) = VB at *
          generalize Wr.putB r = RB at *
          generalize Wr.putB (ps.length : Int) = NB at *
          generalize Sg.names ps = NN at *
          generalize Sg.times ps = TT at *
          generalize Sg.vals ps = VV at *
          go_wp2_with fail
          refine (HN1 _).out.mono ?_
          rintro e w2 ⟨rfl, hb2⟩
          have Hb2 := Lib.hid hb2
          clear hb2
          go_wp2_with fail
          refine (HN2 _).out.mono ?_
          rintro e w3 ⟨rfl, hb3⟩
          have Hb3 : Hid (Below wr.heap.size wr w3) := Hb2.out.trans (hb3.mono Hb2.out.size)
          clear hb3
          go_wp2_with fail
          refine (HT _ Hb3.out).out.mono ?_
          rintro e w4 ⟨rfl, hb4⟩
          have Hb4 : Hid (Below wr.heap.size wr w4) := Hb3.out.trans (hb4.mono Hb3.out.size)
          clear hb4
          go_wp2_with fail
          refine (HI _ Hb4.out).out.mono ?_
          rintro e w5 ⟨rfl, hb5⟩
          have Hb5 : Hid (Below wr.heap.size wr w5) := Hb4.out.trans (hb5.mono Hb4.out.size)
          clear hb5
          go_wp2_with fail
          refine (HV _ Hb5.out).out.mono ?_
          rintro e w6 ⟨rfl, hb6⟩
          have Hb6 : Hid (Below wr.heap.size wr w6) := Hb5.out.trans (hb6.mono Hb5.out.size)
          clear hb6
          go_wp2_with fail
          have HRc : Hid (res = (Sg.fileB (⟨#[83, 69, 71, 49]⟩ ++ RB ++ NB ++ TB ++ IB ++ VB), 0)) := HRb.out
          have hbs : ((⟨#[83, 69, 71, 49]⟩ : ByteArray) ++ RB ++ NB ++ TB ++ IB ++ VB).size ≤ 10000 := by
            simp only [ByteArray.size_append]
            have : (⟨#[83, 69, 71, 49]⟩ : ByteArray).size = 4 := rfl
            omega
          clear HRb
          generalize (⟨#[83, 69, 71, 49]⟩ : ByteArray) ++ RB ++ NB ++ TB ++ IB ++ VB = BD at *
          refine (hash_any BD _ (by unfold maxLen; omega)).mono ?_
          rintro e w' ⟨rfl, rfl⟩
          have hhl := Sm.hashL_lt BD.data.toList
          have hts := Sg.tailB_size (Sm.hashL BD.data.toList)
          have hts' : (Sg.tailB (Sm.hashL BD.data.toList)).size ≤ 8 := by omega
          have HR8 := fun W => Lib.hid (tail_any (Sm.hashL BD.data.toList) W hhl)
          have HRd2 : Hid (res = (BD ++ Sg.tailB (Sm.hashL BD.data.toList), 0)) := HRc.out
          clear hts HRc hhl
          generalize Sm.hashL BD.data.toList = hh at *
          go_wp2_with fail
          refine (HR8 _).out.mono ?_
          rintro e w7 ⟨rfl, hb7⟩
          have Hb7 : Hid (Below wr.heap.size wr w7) := Hb6.out.trans (hb7.mono Hb6.out.size)
          clear hb7
          generalize Sg.tailB hh = TL at *
          go_wp2_with fail
          go_ret2
          exact ⟨by rw [HRd2.out]; rfl, Hb1.out.trans ((hbw.out.mono hs1).trans (Hb7.out.mono (Nat.le_trans hs1 hsw)))⟩
end Go.Proofs.Ythpnhodpfhagaaa
