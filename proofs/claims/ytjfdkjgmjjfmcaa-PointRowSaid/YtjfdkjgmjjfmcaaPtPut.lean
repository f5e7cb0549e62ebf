/- The walk through point.Put. -/
import Derived.Test.YtjfdkjgmjjfmcaaPtGet
import Derived.Test.YtjfdkjgmjjfmcaaBuild
import Derived.Test.YtjfdkjgmjjfmcaaWireText
import Derived.Test.YtjfdkjgmjjfmcaaFrame
import Derived.Deep.RegionHeld3
import Derived.Deep.DrawnRows
namespace Go.Proofs.Ytjfdkjgmjjfmcaa
open Go.RowKit
set_option linter.unusedVariables false

def Pt.putR (ps : List Pt.Point) : ByteArray × Int := if Pt.batchB ps then (Pt.ptsB ps, 0) else (⟨#[]⟩, 300)
theorem mayB_parts {p : Pt.Point} (h : Pt.mayB p = true) : p.1.size ≤ 12 ∧ 1 ≤ p.1.size ∧ (-2147483648 ≤ p.2.1 ∧ p.2.1 ≤ 2147483647) ∧ (-2147483648 ≤ p.2.2 ∧ p.2.2 ≤ 2147483647) := by
  unfold Pt.mayB at h
  rw [Bool.and_eq_true, Bool.and_eq_true, Pt.smallB_iff, Pt.smallB_iff] at h
  obtain ⟨⟨h1, h2⟩, h3⟩ := h
  unfold Pt.nameB at h1
  simp only [Bool.and_eq_true, decide_eq_true_eq] at h1
  exact ⟨h1.1.2, h1.1.1, h2, h3⟩
theorem batchB_parts {ps : List Pt.Point} (h : Pt.batchB ps = true) : ps.length ≤ 8 ∧ ∀ p ∈ ps, Pt.mayB p = true := by
  unfold Pt.batchB at h
  simpa using h
theorem textB_size (s : ByteArray) : (Wr.textB s).size ≤ 8 + s.size := by
  unfold Wr.textB; rw [ByteArray.size_append, Wr.putB_size]; have := Wr.putL_len (s.size : Int); omega
theorem putB_size8 (x : Int) : (Wr.putB x).size ≤ 8 := by rw [Wr.putB_size]; exact Wr.putL_len x
theorem one_bytes (p : Pt.Point) : (Wr.textB p.1 ++ Wr.putB p.2.1 ++ Wr.putB p.2.2).data.toList = Pt.oneL p := by
  rw [Wr.append_list, Wr.append_list, Wr.putB_list, Wr.putB_list]; rfl
theorem oneL_len {p : Pt.Point} (h : p.1.size ≤ 12) : (Pt.oneL p).length ≤ 36 := by
  unfold Pt.oneL
  rw [List.length_append, List.length_append, Wr.len_list]
  have := textB_size p.1
  have := Wr.putL_len p.2.1
  have := Wr.putL_len p.2.2
  omega
theorem pt_cells {w wr : World} {B b off k : Nat} {ps : List Pt.Point} (hlt : k < ps.length) (hc : ∀ j u, (ps.flatMap pointCells)[j]? = some u → w.cell? ⟨b, off + j, none⟩ = some u) (hk : ∀ p : Addr, p.block < B → wr.cell? p = w.cell? p) (hb : b < B) :
    wr.cell? ⟨b, off + k * 3, none⟩ = some (.string ps[k].1) ∧ wr.cell? ⟨b, off + k * 3 + 1, none⟩ = some (.int .i64 ps[k].2.1) ∧ wr.cell? ⟨b, off + k * 3 + 2, none⟩ = some (.int .i64 ps[k].2.2) := by
  refine ⟨?_, ?_, ?_⟩
  · rw [hk ⟨b, _, none⟩ hb]; have := hc (k * 3 + 0) (.string ps[k].1) (by rw [flat_at pointCells 3 (fun _ => rfl) ps k 0 hlt (by omega)]; rfl); rwa [← Nat.add_assoc] at this
  · rw [hk ⟨b, _, none⟩ hb]; have := hc (k * 3 + 1) (.int .i64 ps[k].2.1) (by rw [flat_at pointCells 3 (fun _ => rfl) ps k 1 hlt (by omega)]; rfl); rwa [← Nat.add_assoc] at this
  · rw [hk ⟨b, _, none⟩ hb]; have := hc (k * 3 + 2) (.int .i64 ps[k].2.2) (by rw [flat_at pointCells 3 (fun _ => rfl) ps k 2 hlt (by omega)]; rfl); rwa [← Nat.add_assoc] at this

theorem flat_snoc' {α β : Type} (f : α → List β) (l : List α) (k : Nat) (h : k < l.length) : (l.take (k + 1)).flatMap f = (l.take k).flatMap f ++ f l[k] := by
  rw [List.take_succ_eq_append_getElem h, List.flatMap_append]; simp
attribute [local go_sem ↓] Go.wp_at_zero Go.wp_at_succ
set_option maxRecDepth 100000 in
set_option maxHeartbeats 1000000 in
theorem put_any (A : Option Addr) (c : Nat) (ps : List Pt.Point) (w : World) (B : Nat) (hr : Reads w B 3 A ps.length (ps.flatMap pointCells)) (hB : B ≤ w.heap.size) (hn : ps.length ≤ 140737488355328) (hwf : ∀ p ∈ ps, Pt.wf p) :
    Calls Try.prog 56 #[.slice A ps.length c] w fun e w' => e = .returned (.tuple #[.string (Pt.putR ps).1, .int .i64 (Pt.putR ps).2]) ∧ Below w.heap.size w w' := by
  have HB := Lib.hid (batch_any A c ps w B hr hB hn hwf)
  have hR : Pt.putR ps = if Pt.batchB ps then (Pt.ptsB ps, 0) else (⟨#[]⟩, 300) := rfl
  generalize Pt.putR ps = res at *
  cases hb : Pt.batchB ps
  · rw [hb] at HB
    have HR : Hid (res = (⟨#[]⟩, 300)) := by rw [hb] at hR; exact hR
    clear hR hr hwf hb
    go_enter Try.func56, Try.ntmps56
    go_wp2_with fail
    refine HB.out.mono ?_
    rintro e w1 ⟨rfl, hb1⟩
    go_wp2_with fail
    go_ret2
    exact ⟨by rw [HR.out]; rfl, hb1⟩
  · rw [hb] at HB
    have HR : Hid (res = (Pt.ptsB ps, 0)) := by rw [hb] at hR; exact hR
    obtain ⟨h8, hall⟩ := batchB_parts hb
    have HA := Lib.hid hall
    have HRd := Lib.hid hr
    have hpn := putB_size8 (ps.length : Int)
    clear hR hr hwf hb hall
    have HPN := fun W => Lib.hid (putNum_any (ps.length : Int) W (by omega))
    have HPL := Lib.hid (Wr.putB_list (ps.length : Int))
    have hpl : (Wr.putL (ps.length : Int)).length ≤ 8 := Wr.putL_len _
    go_enter Try.func56, Try.ntmps56
    go_wp2_with fail
    refine HB.out.mono ?_
    rintro e w1 ⟨rfl, hb1⟩
    go_wp2_with fail
    have hbn := bld_new w1
    have hsz : w1.heap.size < (w1.alloc (.cells #[.pointer none, .slice none 0 0] 94)).heap.size := by simp
    have hba : Below w1.heap.size w1 (w1.alloc (.cells #[.pointer none, .slice none 0 0] 94)) := (Below.refl _ _).alloc (Nat.le_refl _) _
    have hw1s := hb1.size
    have Hb1 := Lib.hid hb1
    generalize hbe : w1.heap.size = b at *
    have Hbe := Lib.hid hbe
    clear hbe hb1
    generalize w1.alloc (.cells #[.pointer none, .slice none 0 0] 94) = w2 at *
    have Hbn := Lib.hid hbn
    have Hba := Lib.hid hba
    clear hbn hba
    refine (HPN _).out.mono ?_
    rintro e w3 ⟨rfl, hb3⟩
    have Hb3 := Lib.hid hb3
    have hs3 := hb3.size
    clear hb3
    go_wp2_with fail
    refine (write_any b b [] (Wr.putB (ps.length : Int)) w3 (bld_below Hbn.out Hb3.out) (by simp; omega) (by omega)).mono ?_
    rintro e w4 ⟨rfl, hB4, hb4, _⟩
    rw [HPL.out, List.nil_append] at hB4
    have HB4 := Lib.hid hB4
    have Hb4 : Hid (Below b w1 w4) := Hba.out.trans ((Hb3.out.mono (by omega)).trans hb4)
    clear hB4 hb4 Hb3 Hbn Hba HPL HPN
    generalize Wr.putB (ps.length : Int) = PB at *
    go_wp2_with fail
    go_loopw [16] (fun i wr => ∃ (k : Nat) (l : List UInt8), k ≤ ps.length ∧ i = .int .i64 (k : Int) ∧ Hid (l = Wr.putL (ps.length : Int) ++ (ps.take k).flatMap Pt.oneL) ∧ l.length ≤ 8 + 36 * k ∧ Hid (Bld b b (Lib.byteCells l) wr) ∧ Hid (Below b w1 wr)) (fun i _ => ps.length - (intOf i).toNat)
    case atStart => exact ⟨0, _, Nat.zero_le _, rfl, Lib.hid (by simp), by omega, HB4, Hb4⟩
    case round =>
      obtain ⟨k, l, hk, rfl, hl, hll, hBl, hbl⟩ := hrel
      by_cases hlt : k < ps.length
      · obtain ⟨bb, off, rfl, hbb, hc⟩ := HRd.out.2 (by omega)
        obtain ⟨hcell0, hcell1, hcell2⟩ := pt_cells (wr := wr) hlt hc (fun p hp => (hbl.out.cell (p := p) (show p.block < b by omega)).trans (Hb1.out.cell (p := p) (by omega))) hbb
        obtain ⟨hm1, hm0, hm2, hm3⟩ := mayB_parts (HA.out ps[k] (List.getElem_mem _))
        have ho := oneL_len hm1
        have H1 := fun W => Lib.hid (putText_any ps[k].1 W (by omega))
        have H2 := fun W => Lib.hid (putNum_any ps[k].2.1 W (by omega))
        have H3 := fun W => Lib.hid (putNum_any ps[k].2.2 W (by omega))
        have hts := textB_size ps[k].1
        have hn1 := putB_size8 ps[k].2.1
        have hn2 := putB_size8 ps[k].2.2
        have Hone := Lib.hid (one_bytes ps[k])
        have Hsn := Lib.hid (flat_snoc' Pt.oneL ps k hlt)
        clear hc
        generalize ps[k].2.1 = t at *
        generalize ps[k].2.2 = v at *
        generalize ps[k].1 = nm at *
        generalize Wr.putB t = T at *
        generalize Wr.putB v = V at *
        generalize Wr.textB nm = NM at *
        go_wp2_with fail
        have hP := Blk.new wr 85 #[.string nm, .int .i64 t, .int .i64 v]
        have hB2 : Bld b b (Lib.byteCells l) (wr.alloc (.cells #[.string nm, .int .i64 t, .int .i64 v] 85)) := bld_below hBl.out ((Below.refl _ _).alloc (Nat.le_refl _) _)
        have hb2 : Below b w1 (wr.alloc (.cells #[.string nm, .int .i64 t, .int .i64 v] 85)) := hbl.out.alloc (by have := (bld_lt hBl.out).2; omega) _
        have hlt2 := (bld_lt hBl.out).2
        have hhb : wr.heap.size ≠ b := by omega
        have hzz : wr.heap.size < (wr.alloc (.cells #[.string nm, .int .i64 t, .int .i64 v] 85)).heap.size := by simp
        have HP := Lib.hid hP
        have HB2 := Lib.hid hB2
        have Hb2 := Lib.hid hb2
        clear hP hB2 hb2 hBl hbl hcell0 hcell1 hcell2
        generalize wr.alloc (.cells #[.string nm, .int .i64 t, .int .i64 v] 85) = w5 at *
        generalize wr.heap.size = h at *
        have hq1 : ¬ 9223372036854775807 < NM.size + T.size := by omega
        have hq2 : ¬ 9223372036854775807 < NM.size + T.size + V.size := by omega
        go_region_held3 (fun w' => w'.cell? ⟨h, 0, none⟩ = some (.string nm) ∧ w'.cell? ⟨h, 1, none⟩ = some (.int .i64 t) ∧ w'.cell? ⟨h, 2, none⟩ = some (.int .i64 v))
          (first | exact pt3_of (Hid.out HPd) | exact pt3_of (Hid.out HPc) | exact pt3_of (Hid.out HPb) | exact pt3_of (Hid.out HPa) | exact pt3_of (Hid.out HP))
          (first
            | (go_at_call 53; (with_reducible refine (H1 _).out.mono ?_); rintro e wa ⟨rfl, hba⟩; have HPa := Lib.hid (Blk.below (w := w5.drew) HP.out hba (Blk.lt HP.out)); have Hba := Lib.hid (show Below w5.heap.size w5 wa from ⟨hba.os, hba.tape, hba.output, hba.size, hba.block⟩); clear hba)
            | (go_at_call 48; (with_reducible refine (H2 _).out.mono ?_); rintro e wb ⟨rfl, hbb⟩; have HPb := Lib.hid (Blk.below HPa.out hbb (Blk.lt HPa.out)); have Hbb := Lib.hid hbb; clear hbb)
            | (go_at_call 48; (with_reducible refine (H3 _).out.mono ?_); rintro e wc ⟨rfl, hbc⟩; have HPc := Lib.hid (Blk.below HPb.out hbc (Blk.lt HPb.out)); have Hbc := Lib.hid hbc; clear hbc)
            | (go_at_call 77; refine (write_any b b l (NM ++ T ++ V) wc (bld_below (bld_below (bld_below HB2.out Hba.out) Hbb.out) Hbc.out) (by simp only [ByteArray.size_append]; omega) (by have := (bld_lt (bld_below (bld_below (bld_below HB2.out Hba.out) Hbb.out) Hbc.out)).2; omega)).mono ?_; rintro e wd ⟨rfl, hBd, hbd, hkd⟩; have HPd := Lib.hid (Blk.others HPc.out hkd hhb (by decide)); have HBd := Lib.hid hBd; have Hbd := Lib.hid hbd; clear hBd hbd hkd))
        have HLn : Hid (l ++ (NM ++ T ++ V).data.toList = Wr.putL (ps.length : Int) ++ (ps.take (k + 1)).flatMap Pt.oneL) := by
          show _ = _
          rw [Hone.out, Hsn.out, hl.out, List.append_assoc]
        have hlen : (l ++ (NM ++ T ++ V).data.toList).length ≤ 8 + 36 * (k + 1) := by rw [List.length_append, Hone.out]; omega
        have Hbf : Hid (Below b w1 wd) := Hb2.out.trans ((Hba.out.mono (by omega)).trans ((Hbb.out.mono (by have := Hba.out.size; omega)).trans ((Hbc.out.mono (by have := Hba.out.size; have := Hbb.out.size; omega)).trans Hbd.out)))
        generalize l ++ (NM ++ T ++ V).data.toList = l2 at *
        go_wp2_with fail
        go_roundw
        case rel => exact ⟨k + 1, l2, by omega, by go_num, HLn, hlen, HBd, Hbf⟩
        case measure => simp [intOf]; omega
      · have hle := (bld_lt hBl.out).2
        have HRf : Hid (res = (⟨l.toArray⟩, 0)) := by
          show _ = _
          rw [HR.out, hl.out, List.take_of_length_le (by omega)]
          rfl
        go_wp2_with fail
        refine (bstring_any b b l wr hBl.out (by omega)).mono ?_
        rintro e w9 ⟨rfl, _, hb9, _⟩
        go_wp2_with fail
        go_ret2
        exact ⟨by rw [HRf.out]; rfl, Hb1.out.trans ((hbl.out.mono hw1s).trans (hb9.mono hw1s))⟩
end Go.Proofs.Ytjfdkjgmjjfmcaa
