/- The walks through the references of points (Points, GetPoints) and SpoilPoints. -/
import Derived.Test.YtjfdkjgmjjfmcaaPtPut
import Derived.Test.YtjfdkjgmjjfmcaaPtBack
import Derived.Test.YtjfdkjgmjjfmcaaAft
import Derived.BigQuiet
namespace Go.Proofs.Ytjfdkjgmjjfmcaa
open Go.RowKit
set_option linter.unusedVariables false

set_option maxRecDepth 100000 in
set_option maxHeartbeats 1000000 in
theorem rpoints_any (A : Option Addr) (c : Nat) (ps : List Pt.Point) (w : World) (B : Nat) (hr : Reads w B 3 A ps.length (ps.flatMap pointCells)) (hB : B ≤ w.heap.size) (hb : Pt.batchB ps = true) :
    Calls Try.prog 58 #[.slice A ps.length c] w fun e w' => e = .returned (.string (Pt.ptsB ps)) ∧ Below w.heap.size w w' := by
  obtain ⟨h8, hall⟩ := batchB_parts hb
  have HA := Lib.hid hall
  have HRd := Lib.hid hr
  have hpn := putB_size8 (ps.length : Int)
  have HPN := fun W => Lib.hid (rnum_any (ps.length : Int) W (by omega))
  have HPL := Lib.hid (Wr.putB_list (ps.length : Int))
  clear hr hb hall
  go_enter Try.func58, Try.ntmps58
  go_wp2_with fail
  refine (HPN _).out.mono ?_
  rintro e w1 ⟨rfl, hb1⟩
  have Hb1 := Lib.hid hb1
  clear hb1 HPN
  generalize hPB : Wr.putB (ps.length : Int) = PB at *
  clear hPB
  go_wp2_with fail
  go_loopw [3, 4] (fun s i wr => ∃ (k : Nat) (S : ByteArray), k ≤ ps.length ∧ i = .int .i64 (k : Int) ∧ s = .string S ∧ Hid (S.data.toList = Wr.putL (ps.length : Int) ++ (ps.take k).flatMap Pt.oneL) ∧ S.size ≤ 8 + 36 * k ∧ Hid (Below w.heap.size w wr)) (fun _ i _ => ps.length - (intOf i).toNat)
  case atStart => exact ⟨0, PB, Nat.zero_le _, rfl, rfl, Lib.hid (by rw [HPL.out]; simp), by omega, Hb1⟩
  case round =>
    obtain ⟨k, S, hk, rfl, rfl, hS, hSs, hbw⟩ := hrel
    by_cases hlt : k < ps.length
    · obtain ⟨bb, off, rfl, hbb, hc⟩ := HRd.out.2 (by omega)
      have hcs := fun x : Aft w.heap.size w => pt_cells (wr := x.world) hlt hc (fun p hp => x.cell (by omega)) hbb
      have hcell0 := fun x => (hcs x).1
      have hcell1 := fun x => (hcs x).2.1
      have hcell2 := fun x => (hcs x).2.2
      obtain ⟨hm1, hm0, hm2, hm3⟩ := mayB_parts (HA.out ps[k] (List.getElem_mem _))
      have ho := oneL_len hm1
      have hts := textB_size ps[k].1
      have hn1 := putB_size8 ps[k].2.1
      have hn2 := putB_size8 ps[k].2.2
      have Hone := Lib.hid (one_bytes ps[k])
      have Hsn := Lib.hid (flat_snoc' Pt.oneL ps k hlt)
      have hi0 : (0 : Int) ≤ (k : Int) := by omega
      have hi1 : (k : Int) < (ps.length : Int) := by omega
      clear hc hcs
      have H1 := fun W => Lib.hid (rtext_any ps[k].1 W (by omega))
      have H2 := fun W => Lib.hid (rnum_any ps[k].2.1 W (by omega))
      have H3 := fun W => Lib.hid (rnum_any ps[k].2.2 W (by omega))
      generalize ps[k].2.1 = t at *
      generalize ps[k].2.2 = v at *
      generalize ps[k].1 = nm at *
      generalize Wr.putB t = T at *
      generalize Wr.putB v = V at *
      generalize Wr.textB nm = NM at *
      have hq1 : ¬ 9223372036854775807 < S.size + NM.size := by omega
      have hq2 : ¬ 9223372036854775807 < S.size + NM.size + T.size := by omega
      have hq3 : ¬ 9223372036854775807 < S.size + NM.size + T.size + V.size := by omega
      go_wp2_with fail
      refine wp_region_aft w.heap.size w (by kernel_rfl) (by kernel_rfl) hbw.out ?_
      repeat (go_big_quiet_step (first | (go_at_call 54; exact aft_new (Nat.le_refl _) (Hid.out (H1 _))) | (go_at_call 49; with_reducible exact aft_new (Nat.le_refl _) (Hid.out (H2 _))) | (go_at_call 49; with_reducible exact aft_new (Nat.le_refl _) (Hid.out (H3 _)))))
      refine wpQuiet_nil ?_
      rintro _ ⟨x, rfl⟩
      have Hx := Lib.hid x.below
      have HSn : Hid ((S ++ NM ++ T ++ V).data.toList = Wr.putL (ps.length : Int) ++ (ps.take (k + 1)).flatMap Pt.oneL) := by
        show _ = _
        have h1 := Hone.out
        rw [Wr.append_list, Wr.append_list] at h1
        rw [Wr.append_list, Wr.append_list, Wr.append_list, hS.out, Hsn.out, ← h1]; simp
      have hSl : (S ++ NM ++ T ++ V).size ≤ 8 + 36 * (k + 1) := by
        have h1 := Hone.out
        have h2 := congrArg List.length h1
        rw [Wr.len_list, ByteArray.size_append, ByteArray.size_append] at h2
        rw [ByteArray.size_append, ByteArray.size_append, ByteArray.size_append]; omega
      clear hcell0 hcell1 hcell2
      generalize S ++ NM ++ T ++ V = S2 at *
      generalize x.world = wx at *
      go_wp2_with fail
      go_roundw
      case rel => exact ⟨k + 1, S2, by omega, by go_num, rfl, HSn, hSl, Hx⟩
      case measure => simp [intOf]; omega
    · have Hf : Hid (Pt.ptsB ps = S) := by
        show _ = _
        apply Wr.ext_list
        rw [Pt.ptsB_list, hS.out, List.take_of_length_le (by omega)]; rfl
      go_wp2_with fail
      go_ret
      exact ⟨by rw [Hf.out]; rfl, hbw.out⟩

theorem getN_bd (s : ByteArray) (a : Int) (hs : s.size ≤ 4611686018427387904) : (-9223372036854775808 ≤ (Wr.getN s.data.toList a).2.1 ∧ (Wr.getN s.data.toList a).2.1 ≤ 9223372036854775807) ∧ (-9223372036854775808 ≤ (Wr.getN s.data.toList a).1 ∧ (Wr.getN s.data.toList a).1 ≤ 9223372036854775807) := by
  rcases Wr.getN_cases s.data.toList a with ⟨e, hg, he⟩ | ⟨x, b, k, ha, hg, hn, _, hle, _⟩
  · rw [hg]; simp
  · rw [Wr.len_list] at hle
    have := (Wr.isNum_iff x).1 hn
    rw [hg]; exact ⟨⟨by simp; omega, by simp; omega⟩, ⟨by simp; omega, by simp; omega⟩⟩
theorem rdPt_ref_ok (s : ByteArray) (a : Int) {nm : ByteArray} {t v a1 a2 a3 : Int} (h1 : Wr.getT s a 12 = (nm, a1, 0)) (h2 : Wr.getN s.data.toList a1 = (t, a2, 0)) (h3 : Wr.getN s.data.toList a2 = (v, a3, 0)) (hm : Pt.mayB (nm, t, v) = true) :
    Pt.rdPt s (a, false) = ((nm, t, v), (a3, false)) := by
  have ht := (Pt.smallB_iff _).1 (Pt.may_time hm)
  have hv := (Pt.smallB_iff _).1 (Pt.may_value hm)
  have e1 : Pt.rdText s 12 (a, false) = (nm, (a1, false)) := by unfold Pt.rdText; rw [h1]; simp
  rw [Pt.rdPt_of s _ e1 (Pt.rdNum_ok s _ _ a1 t a2 h2 ht.1 ht.2) (Pt.rdNum_ok s _ _ a2 v a3 h3 hv.1 hv.2), hm]; rfl
theorem rdPt_ref_bad1 (s : ByteArray) (a : Int) (h : (Wr.getT s a 12).2.2 ≠ 0) : (Pt.rdPt s (a, false)).2.2 = true :=
  Pt.rdPt_bad1 s _ (by rw [Pt.rdText_no s 12 a false h])
theorem rdPt_ref_bad2 (s : ByteArray) (a : Int) {nm : ByteArray} {a1 : Int} (h1 : Wr.getT s a 12 = (nm, a1, 0)) (h2 : (Wr.getN s.data.toList a1).2.2 ≠ 0) : (Pt.rdPt s (a, false)).2.2 = true := by
  have e1 : Pt.rdText s 12 (a, false) = (nm, (a1, false)) := by unfold Pt.rdText; rw [h1]; simp
  exact Pt.rdPt_bad2 s _ (by rw [e1, Pt.rdNum_no s _ _ a1 false h2])
theorem rdNum_or (s : ByteArray) (lo hi a : Int) {x m : Int} (h : Wr.getN s.data.toList a = (x, m, 0)) : (lo ≤ x ∧ x ≤ hi ∧ Pt.rdNum s lo hi (a, false) = (x, (m, false))) ∨ (¬ (lo ≤ x ∧ x ≤ hi) ∧ (Pt.rdNum s lo hi (a, false)).2.2 = true) := by
  by_cases hc : lo ≤ x ∧ x ≤ hi
  · exact .inl ⟨hc.1, hc.2, Pt.rdNum_ok s lo hi a x m h hc.1 hc.2⟩
  · refine .inr ⟨hc, ?_⟩
    unfold Pt.rdNum; rw [h, if_pos (by simp; omega)]
theorem rdPt_ref_bad3 (s : ByteArray) (a : Int) {nm : ByteArray} {t a1 a2 : Int} (h1 : Wr.getT s a 12 = (nm, a1, 0)) (h2 : Wr.getN s.data.toList a1 = (t, a2, 0)) (h3 : (Wr.getN s.data.toList a2).2.2 ≠ 0) : (Pt.rdPt s (a, false)).2.2 = true := by
  have e1 : Pt.rdText s 12 (a, false) = (nm, (a1, false)) := by unfold Pt.rdText; rw [h1]; simp
  rcases rdNum_or s (-2147483648) 2147483647 a1 h2 with ⟨_, _, e2⟩ | ⟨_, e2⟩
  · exact Pt.rdPt_bad3 s _ (by rw [e1, e2, Pt.rdNum_no s _ _ a2 false h3])
  · exact Pt.rdPt_bad2 s _ (by rw [e1, e2])
theorem rdPt_ref_bad4 (s : ByteArray) (a : Int) {nm : ByteArray} {t v a1 a2 a3 : Int} (h1 : Wr.getT s a 12 = (nm, a1, 0)) (h2 : Wr.getN s.data.toList a1 = (t, a2, 0)) (h3 : Wr.getN s.data.toList a2 = (v, a3, 0)) (hm : Pt.mayB (nm, t, v) = false) :
    (Pt.rdPt s (a, false)).2.2 = true := by
  have e1 : Pt.rdText s 12 (a, false) = (nm, (a1, false)) := by unfold Pt.rdText; rw [h1]; simp
  rcases rdNum_or s (-2147483648) 2147483647 a1 h2 with ⟨_, _, e2⟩ | ⟨_, e2⟩
  · rcases rdNum_or s (-2147483648) 2147483647 a2 h3 with ⟨_, _, e3⟩ | ⟨_, e3⟩
    · rw [Pt.rdPt_of s _ e1 e2 e3, hm]; rfl
    · exact Pt.rdPt_bad3 s _ (by rw [e1, e2, e3])
  · exact Pt.rdPt_bad2 s _ (by rw [e1, e2])
/-- the reference reads on, or stops where the program's reader is bad -/
theorem getPts_stop (s : ByteArray) (a : Int) {n k : Nat} {to0 : Int} {out : List Pt.Point} {r : Pt.St} (h0 : Pt.rdNum s 0 8 (a, false) = ((n : Int), (to0, false))) (hrel : Pt.rdPts s n (to0, false) = (out ++ (Pt.rdPts s (n - k) r).1, (Pt.rdPts s (n - k) r).2)) (hk : k < n) (hbad : (Pt.rdPt s r).2.2 = true) : Pt.getPts s a = ([], 0, 300) := by
  have hb : (Pt.rdPts s (n - k) r).2.2 = true := by
    rw [show n - k = (n - (k + 1)) + 1 from by omega, rdPts_more]
    exact Pt.rdPts_bad' s _ _ hbad
  unfold Pt.getPts Pt.readPts
  simp only [h0, Int.toNat_natCast, hrel, hb]
  rfl
theorem getPts_end (s : ByteArray) (a : Int) {n : Nat} {to0 to : Int} {out : List Pt.Point} (h0 : Pt.rdNum s 0 8 (a, false) = ((n : Int), (to0, false))) (hrel : Pt.rdPts s n (to0, false) = (out, (to, false))) : Pt.getPts s a = (out, to, 0) := by
  unfold Pt.getPts Pt.readPts
  simp only [h0, Int.toNat_natCast, hrel]
  rfl
theorem getPts_head (s : ByteArray) (a : Int) (h : (Wr.getN s.data.toList a).2.2 ≠ 0 ∨ (Wr.getN s.data.toList a).1 < 0 ∨ 8 < (Wr.getN s.data.toList a).1) : Pt.getPts s a = ([], 0, 300) := by
  have e : Pt.rdNum s 0 8 (a, false) = (0, (a, true)) := by
    unfold Pt.rdNum
    rw [if_pos (by rcases h with h | h | h; exact .inl h; exact .inr (.inl h); exact .inr (.inr (.inl h)))]
  unfold Pt.getPts Pt.readPts
  simp only [e]
  rfl
end Go.Proofs.Ytjfdkjgmjjfmcaa
