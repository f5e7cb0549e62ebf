/- Joined texts: SvSeg, SgCols, SgCols2, SgGet, SgRget. -/
import Derived.Test.YtapdlmiioljpgaaK10
import Derived.Test.YtapdlmiioljpgaaK12
import Derived.Test.YtapdlmiioljpgaaK9
import Derived.Deep.DeepCutAuto
import Derived.Deep.RegionHeld3
import Derived.Deep.AppendLies
import Derived.Deep.DrawnRows
/- The walk through seal.Segment (chapter 14). -/
namespace Go.Proofs.Ytapdlmiioljpgaa
open Go.RowKit
set_option linter.unusedVariables false

def Sv.segOut (m : Ig.M) : ByteArray := (m.seals.getLastD (0, ⟨#[]⟩)).2
def Sv.rangeB (base : Int) (n : Nat) (r : Int) : Bool := decide (1 ≤ r) && decide (r ≤ 512) && decide (base ≤ (r - 1) * 8) && decide (r * 8 ≤ base + n)
def Sv.segR (base : Int) (snap : ByteArray) (es : List Ent) (r : Int) : ByteArray × Int :=
  if Sv.logB base snap es = true ∧ base % 8 = 0 then match Sv.startR base snap with
    | none => (⟨#[]⟩, 1401)
    | some m => if Sv.rangeB base es.length r then (Sv.segOut (Sv.runM m (es.take (r * 8 - base).toNat)), 0) else (⟨#[]⟩, 1400)
  else (⟨#[]⟩, 1401)
theorem Sv.log_parts {base : Int} {snap : ByteArray} {es : List Ent} (h : Sv.logB base snap es = true) : 0 ≤ base ∧ base ≤ 2147483647 ∧ es.length ≤ 4096 ∧ snap.size ≤ 65536 := by
  unfold Sv.logB Sv.headB at h
  simp only [Bool.and_eq_true, decide_eq_true_eq] at h
  omega
theorem Sv.seg_close {res : ByteArray × Int} {s : ByteArray} {x : Int} (h : res = (s, x)) : Ending.returned (.tuple #[.string s, .int .i64 x]) = .returned (.tuple #[.string res.1, .int .i64 res.2]) := by rw [h]
theorem Sv.seg_no {base r : Int} {snap : ByteArray} {es : List Ent} (h : ¬ (Sv.logB base snap es = true ∧ base % 8 = 0)) : Sv.segR base snap es r = (⟨#[]⟩, 1401) := by unfold Sv.segR; rw [if_neg h]
theorem Sv.seg_none {base r : Int} {snap : ByteArray} {es : List Ent} (hs : Sv.startR base snap = none) : Sv.segR base snap es r = (⟨#[]⟩, 1401) := by
  unfold Sv.segR; split
  · rw [hs]
  · rfl
theorem Sv.seg_out {base r : Int} {snap : ByteArray} {es : List Ent} {m : Ig.M} (h : Sv.logB base snap es = true ∧ base % 8 = 0) (hs : Sv.startR base snap = some m) (hr : Sv.rangeB base es.length r = false) : Sv.segR base snap es r = (⟨#[]⟩, 1400) := by
  unfold Sv.segR; rw [if_pos h, hs]; simp [hr]
theorem Sv.seg_in {base r : Int} {snap : ByteArray} {es : List Ent} {m : Ig.M} (h : Sv.logB base snap es = true ∧ base % 8 = 0) (hs : Sv.startR base snap = some m) (hr : Sv.rangeB base es.length r = true) : Sv.segR base snap es r = (Sv.segOut (Sv.runM m (es.take (r * 8 - base).toNat)), 0) := by
  unfold Sv.segR; rw [if_pos h, hs]; simp [hr]
/-- applyX, an empty batch anywhere -/
theorem applyX0 {w : World} {base g : Nat} {m : Ig.M} (h : MachX w base g m (fun _ => False)) (hI : Ig.Inv m) (v c s n : Int) (A : Option Addr) (d : Nat) (bs : List Pt.Point) (hr : Reads w w.heap.size 3 A bs.length (bs.flatMap pointCells)) (hwf : ∀ p ∈ bs, Pt.wf p) (hn : bs.length ≤ 140737488355328) (hA : 0 < bs.length → ∀ b off, A = some ⟨b, off, none⟩ → b < base) (hbase : base ≤ w.heap.size) :
    Calls Try.prog 38 #[.pointer (some ⟨g, 0, none⟩), .agg #[.int .i64 v, .int .i64 c, .int .i64 s, .int .i64 n, .slice A bs.length d]] w fun e w' => e = .returned (.tuple #[.int .i64 (Ig.applyM m v c s n bs).2.1, .int .i64 (Ig.applyM m v c s n bs).2.2]) ∧ MachX w' base g (Ig.applyM m v c s n bs).1 (fun _ => False) ∧ Only (fun k => base ≤ k) w w' := by
  obtain ⟨vr, vo, vd, vs, hm, hx⟩ := h
  refine (apply_mach hm hI v c s n A d bs hr (fun h0 b off e q => ?_) hwf hn hbase).mono fun e w' h => ?_
  · have := hA h0 b off e
    have := (hm.lt q).1; omega
  · obtain ⟨vr', vo', vd', vs', he, hm', ho, hf⟩ := h
    exact ⟨he, ⟨vr', vo', vd', vs', hm', fun k hk q => q⟩, ho.mono fun k _ hk => (hm.lt hk).1⟩
def Sv.K (base r : Int) : Nat := (r * 8 - base).toNat
theorem Sv.last_seal {s : List (Int × ByteArray)} (h : s ≠ []) : (s.flatMap fileCells)[(s.length - 1) * 2 + 1]? = some (.string (s.getLastD (0, ⟨#[]⟩)).2) := by
  have hl : s.length - 1 < s.length := by
    have := List.length_pos_iff.2 h; omega
  rw [flat_at fileCells 2 (fun _ => rfl) s (s.length - 1) 1 hl (by omega)]
  have : s.getLastD (0, ⟨#[]⟩) = s[s.length - 1] := by rw [List.getLastD_eq_getLast?, List.getLast?_eq_getElem?, List.getElem?_eq_getElem hl]; rfl
  rw [this]; rfl
theorem Sv.range_parts {base r : Int} {n : Nat} (h : Sv.rangeB base n r = true) : 1 ≤ r ∧ r ≤ 512 ∧ base ≤ (r - 1) * 8 ∧ r * 8 ≤ base + n := by
  unfold Sv.rangeB at h
  simp only [Bool.and_eq_true, decide_eq_true_eq] at h
  omega
theorem Sv.range_not {base r : Int} {n : Nat} (h : Sv.rangeB base n r = false) : r < 1 ∨ (¬ r < 1 ∧ 512 < r) ∨ (¬ r < 1 ∧ ¬ 512 < r ∧ (r - 1) * 8 < base) ∨ (¬ r < 1 ∧ ¬ 512 < r ∧ ¬ (r - 1) * 8 < base ∧ base + n < r * 8) := by
  unfold Sv.rangeB at h
  by_cases h1 : r < 1
  · exact .inl h1
  by_cases h2 : 512 < r
  · exact .inr (.inl ⟨h1, h2⟩)
  by_cases h3 : (r - 1) * 8 < base
  · exact .inr (.inr (.inl ⟨h1, h2, h3⟩))
  refine .inr (.inr (.inr ⟨h1, h2, h3, ?_⟩))
  rw [decide_eq_true (by omega : 1 ≤ r), decide_eq_true (by omega : r ≤ 512), decide_eq_true (by omega : base ≤ (r - 1) * 8)] at h
  simpa using h
set_option maxRecDepth 100000 in
set_option maxHeartbeats 4000000 in
theorem segment_any (base : Int) (snap : ByteArray) (A : Option Addr) (c : Nat) (es : List Ent) (r : Int) (w : World) (h : LogOk w A es) (hs : snap.size ≤ maxLen) (hn : es.length * 56 ≤ 140737488355328) (hcap : es.length ≤ c) (hr : -9223372036854775808 ≤ r ∧ r < 9223372036854775808) :
    Calls Try.prog 52 #[.agg #[.int .i64 base, .string snap, .slice A es.length c], .int .i64 r] w fun e w' => e = .returned (.tuple #[.string (Sv.segR base snap es r).1, .int .i64 (Sv.segR base snap es r).2]) ∧ Below w.heap.size w w' := by
  have Hb1 : Hid (Below w.heap.size w (w.alloc (.cells #[.int .i64 base, .string snap, .slice A es.length c] 84))) := (Below.refl _ _).alloc (Nat.le_refl _) _
  have HB := Lib.hid (Blk.new w 84 #[.int .i64 base, .string snap, .slice A es.length c])
  have HOk := Lib.hid h
  have HMay := fun W (hb : Below w.heap.size w W) => Lib.hid (mayLog_any base snap A c es W (h.below hb) hs hn)
  clear h
  go_enter Try.func52, Try.ntmps52
  go_wp2_with fail
  refine (HMay _ Hb1.out).out.mono ?_
  rintro e w2 ⟨rfl, hb2⟩
  have HB2 := Lib.hid (HB.out.below hb2 (by simp))
  have Hb2 : Hid (Below w.heap.size w w2) := Hb1.out.trans (hb2.mono Hb1.out.size)
  have hs2 := Hb2.out.size
  clear hb2 HMay HB Hb1
  cases hlg : Sv.logB base snap es
  · have Hres := Lib.hid (Sv.seg_no (r := r) (by rw [hlg]; simp : ¬ (Sv.logB base snap es = true ∧ base % 8 = 0)))
    clear hlg
    go_wp2_with fail
    go_ret2
    exact ⟨Sv.seg_close Hres.out, Hb2.out⟩
  · obtain ⟨p1, p2, p3, p4⟩ := Sv.log_parts hlg
    have c0 := HB2.out.cell 0
    have c1 := HB2.out.cell 1
    have c2 := HB2.out.cell 2
    simp only [List.getElem?_toArray, List.getElem?_cons_zero, List.getElem?_cons_succ] at c0 c1 c2
    have HSt := fun W => Lib.hid (start_any base snap A es.length c W (by omega))
    by_cases h8 : base % 8 = 0
    · have h8b : (base.tmod 8 != 0) = false := by rw [Int.tmod_eq_emod_of_nonneg p1]; simpa using h8
      go_wp2_with fail
      have HS2 := HSt w2
      clear HSt
      cases hst : Sv.startR base snap with
      | none =>
        have Hres := Lib.hid (Sv.seg_none (r := r) (es := es) hst)
        rw [hst] at HS2
        clear hlg hst
        refine HS2.out.mono ?_
        rintro e w3 ⟨rfl, hb3⟩
        have Hb3 : Hid (Below w.heap.size w w3) := Hb2.out.trans (hb3.mono hs2)
        go_wp2_with fail
        go_ret2
        exact ⟨Sv.seg_close Hres.out, Hb3.out⟩
      | some m =>
        obtain ⟨hinv, hat⟩ := Sv.start_inv hst
        rw [hst] at HS2
        refine HS2.out.mono ?_
        rintro e w3 ⟨B, g, rfl, hm3, hB3, hb3⟩
        have Hb3 : Hid (Below w.heap.size w w3) := Hb2.out.trans (hb3.mono hs2)
        have HM3 := Lib.hid hm3
        have HB3 := Lib.hid (HB2.out.below hb3 HB2.out.lt)
        have hs3 := Hb3.out.size
        have d0 := HB3.out.cell 0
        have d2 := HB3.out.cell 2
        simp only [List.getElem?_toArray, List.getElem?_cons_zero, List.getElem?_cons_succ] at d0 d2
        have HI := Lib.hid hinv
        have Hat := Lib.hid hat
        have hlgs : Sv.logB base snap es = true ∧ base % 8 = 0 := ⟨hlg, h8⟩
        clear hm3 hb3 hinv hat c0 c1 c2 hlg h8 HS2
        cases hrg : Sv.rangeB base es.length r
        · have Hres := Lib.hid (Sv.seg_out hlgs hst hrg)
          have hcs := Sv.range_not hrg
          clear hrg hst hlgs
          rcases hcs with q1 | ⟨q1, q2⟩ | ⟨q1, q2, q3⟩ | ⟨q1, q2, q3, q4⟩
          all_goals
            go_wp2_with fail
            go_ret2
            exact ⟨Sv.seg_close Hres.out, Hb3.out⟩
        · have Hres := Lib.hid (Sv.seg_in hlgs hst hrg)
          obtain ⟨q1, q2, q3, q4⟩ := Sv.range_parts hrg
          have g1 : ¬ r < 1 := by omega
          have g2 : ¬ 512 < r := by omega
          have g3 : ¬ (r - 1) * 8 < base := by omega
          have g4 : ¬ base + (es.length : Int) < r * 8 := by omega
          have hkl : Sv.K base r ≤ es.length := by unfold Sv.K; omega
          have hkz : 0 < Sv.K base r := by unfold Sv.K; omega
          have hkk : ((Sv.K base r : Nat) : Int) = r * 8 - base := by unfold Sv.K; omega
          have Hkk := Lib.hid hkk
          have Hres : Hid (Sv.segR base snap es r = (Sv.segOut (Sv.runM m (es.take (Sv.K base r))), 0)) := Hres
          clear hrg hst hlgs hkk
          obtain ⟨ba, off, rfl, hba, _⟩ := ent_cells HOk.out.rd 0 (by omega)
          have HC := Lib.hid (ent_cells HOk.out.rd)
          have HE := Lib.hid (fun (j : Nat) (hj : j < es.length) => And.intro (HOk.out.ok es[j] (List.getElem_mem hj)) (HOk.out.big es[j] (List.getElem_mem hj)))
          rename_i junk1 junk2
          clear junk1 junk2
          generalize hK : Sv.K base r = K at *
          clear hK
          go_wp2_with fail
          go_loopw [8, 59] (fun _ i wr => ∃ k : Nat, k ≤ K ∧ i = .int .i64 (k : Int) ∧ Hid (MachX wr B g (Sv.runM m (es.take k)) (fun _ => False)) ∧ Hid (Below w.heap.size w wr)) (fun _ i _ => K - (intOf i).toNat)
          case atStart => exact ⟨0, Nat.zero_le _, rfl, HM3, Hb3⟩
          case round =>
            obtain ⟨k, hk, rfl, hm, hbw⟩ := hrel
            by_cases hlt : k < K
            · have hlt2 : (k : Int) < r * 8 - base := by have := Hkk.out; omega
              have hke : k < es.length := by omega
              obtain ⟨b, off', e0', hbl, e0, e1, e2, e3, e4⟩ := HC.out k hke
              injection e0' with e0'
              injection e0' with eb eo _
              subst eb; subst eo
              rw [← hbw.out.cell (p := ⟨ba, _, none⟩) hbl] at e0 e1 e2 e3 e4
              obtain ⟨hok, hbig⟩ := HE.out k hke
              obtain ⟨hrp, hwp⟩ := ent_pts hok
              have hIk := Sv.run_inv HI.out (es.take k)
              have hsw := hm.out.lt
              have HX := Lib.hid (fun W (hb : Below wr.heap.size wr W) => applyX0 (hm.out.below hb) hIk es[k].1.1 es[k].1.2.1 es[k].1.2.2.1 es[k].1.2.2.2 es[k].2.1 es[k].2.2.1 es[k].2.2.2 (((hrp.below hbw.out).below (hb.mono hbw.out.size)).more (Nat.le_trans hbw.out.size hb.size)) hwp (by omega) (fun h0 b off e => by
                obtain ⟨b', off', e', hb', _⟩ := hrp.2 h0
                rw [e] at e'; injection e' with e'; injection e' with e' _ _
                omega) (by have := hb.size; omega))
              have HT := Lib.hid (Sv.run_take m hke)
              clear hok hrp hwp hbig hIk HC HE hm
              generalize es[k] = q at *
              obtain ⟨⟨v, cl, s, n⟩, EA, ec, bs⟩ := q
              simp only at e0 e1 e2 e3 e4 HX HT
              go_wp2_with fail
              have hba2 := hbw.out.alloc hbw.out.size (.cells #[.int .i64 v, .int .i64 cl, .int .i64 s, .int .i64 n, .slice EA bs.length ec] 43)
              refine (HX.out _ ((Below.refl _ _).alloc (Nat.le_refl _) _)).mono ?_
              rintro e w5 ⟨rfl, hm5, ho5⟩
              rw [← HT.out] at hm5
              have HM5 := Lib.hid hm5
              have Hb5 : Hid (Below w.heap.size w w5) := hba2.trans (ho5.below (fun j hj q => by omega) hba2.size)
              clear hm5 ho5 hba2 HX HT
              go_wp2_with fail
              go_roundw
              case rel => exact ⟨k + 1, by omega, by go_num, HM5, Hb5⟩
              case measure => simp [intOf]; omega
            · have hlt2 : ¬ (k : Int) < r * 8 - base := by have := Hkk.out; omega
              obtain rfl : k = K := by omega
              have hIk := Sv.run_inv HI.out (es.take k)
              have hlen : (es.take k).length = k := by rw [List.length_take]; omega
              have hne := Sv.run_seal (m := m) (es := es.take k) (fun h => by rw [h] at hlen; simp at hlen; omega) (by rw [hlen, Hat.out, Hkk.out]; omega) (by rw [hlen, Hat.out, Hkk.out]; omega)
              have hsl := hIk.sl
              have ha1 := hIk.at1
              have hln : 0 < (Sv.runM m (es.take k)).seals.length := List.length_pos_iff.2 hne
              have hlast := Sv.last_seal hne
              have HS := Lib.hid (sealsX hm.out (by omega))
              have Hlast := Lib.hid hlast
              have hl1 : (Sv.runM m (es.take k)).seals.length ≤ 512 := by omega
              clear hIk hne hsl ha1 hlast hlen HC HE
              have Hre2 : Hid (Sv.segR base snap es r = (((Sv.runM m (es.take k)).seals.getLastD (0, ⟨#[]⟩)).2, 0)) := Hres
              clear Hres
              generalize (Sv.runM m (es.take k)).seals = sl at *
              obtain ⟨tx, htx⟩ : ∃ tx, (sl.getLastD (0, ⟨#[]⟩)).2 = tx := ⟨_, rfl⟩
              rw [htx] at Hre2 Hlast
              clear htx
              go_wp2_with fail
              refine HS.out.mono ?_
              rintro e w5 ⟨v5, rfl, hown5, hb5⟩
              obtain ⟨A5, c5, rfl, _, hr5⟩ := own_slice hown5
              obtain ⟨b5, o5, rfl, hb5b, hc5⟩ := hr5.2 hln
              have z5 := hc5 _ _ Hlast.out
              have z5' : w5.cell? ⟨b5, o5 + (sl.length - 1) * 2 + 1, none⟩ = some (.string tx) := by rw [Nat.add_assoc]; exact z5
              have Hb5 : Hid (Below w.heap.size w w5) := hbw.out.trans (hb5.mono hbw.out.size)
              obtain ⟨j, hj⟩ : ∃ j, sl.length = j + 1 := ⟨sl.length - 1, by omega⟩
              rw [hj, Nat.add_sub_cancel] at z5'
              rw [hj]
              clear hown5 hr5 hc5 z5 hb5 HS hm hbw
              go_wp2_with fail
              go_ret2
              exact ⟨Sv.seg_close Hre2.out, Hb5.out⟩
    · have Hres := Lib.hid (Sv.seg_no (r := r) (fun h => h8 h.2 : ¬ (Sv.logB base snap es = true ∧ base % 8 = 0)))
      have h8b : (base.tmod 8 != 0) = true := by rw [Int.tmod_eq_emod_of_nonneg p1]; simpa using h8
      clear hlg
      go_wp2_with fail
      go_ret2
      exact ⟨Sv.seg_close Hres.out, Hb2.out⟩
end Go.Proofs.Ytapdlmiioljpgaa
/- A segment's columns, read: plain, and the walk through segment.columns. -/
namespace Go.Proofs.Ytapdlmiioljpgaa
open Go.RowKit
set_option linter.unusedVariables false

def Sg.zip (n : Nat) (N : List ByteArray) (T V : List Int) : List Pt.Point := (List.range n).map fun i => (N.getD i ⟨#[]⟩, T.getD i 0, V.getD i 0)
abbrev Sg.no : Int × List Pt.Point × Bool := (0, [], false)
def Sg.colsR (s : ByteArray) : Int × List Pt.Point × Bool :=
  if (Pt.rdNum s 0 64 (Pt.rdNum s 1 512 (4, false)).2).2.2 = true ∨ s.extract 0 4 ≠ Sg.mark then Sg.no else
    if (Cl.getTexts s (Pt.rdNum s 0 64 (Pt.rdNum s 1 512 (4, false)).2).2.1 (Pt.rdNum s 0 64 (Pt.rdNum s 1 512 (4, false)).2).1).2.2 ≠ 0 ∨
      (Cl.getInts s (Cl.getTexts s (Pt.rdNum s 0 64 (Pt.rdNum s 1 512 (4, false)).2).2.1 (Pt.rdNum s 0 64 (Pt.rdNum s 1 512 (4, false)).2).1).2.1 (Pt.rdNum s 0 64 (Pt.rdNum s 1 512 (4, false)).2).1).2.2 ≠ 0 ∨
      (Cl.getInts s (Cl.getInts s (Cl.getTexts s (Pt.rdNum s 0 64 (Pt.rdNum s 1 512 (4, false)).2).2.1 (Pt.rdNum s 0 64 (Pt.rdNum s 1 512 (4, false)).2).1).2.1 (Pt.rdNum s 0 64 (Pt.rdNum s 1 512 (4, false)).2).1).2.1 (Pt.rdNum s 0 64 (Pt.rdNum s 1 512 (4, false)).2).1).2.2 ≠ 0 ∨
      (Cl.getInts s (Cl.getInts s (Cl.getTexts s (Pt.rdNum s 0 64 (Pt.rdNum s 1 512 (4, false)).2).2.1 (Pt.rdNum s 0 64 (Pt.rdNum s 1 512 (4, false)).2).1).2.1 (Pt.rdNum s 0 64 (Pt.rdNum s 1 512 (4, false)).2).1).2.1 (Pt.rdNum s 0 64 (Pt.rdNum s 1 512 (4, false)).2).1).2.1 ≠ (s.size : Int) then Sg.no else
      ((Pt.rdNum s 1 512 (4, false)).1,
        Sg.zip (Pt.rdNum s 0 64 (Pt.rdNum s 1 512 (4, false)).2).1.toNat (Cl.getTexts s (Pt.rdNum s 0 64 (Pt.rdNum s 1 512 (4, false)).2).2.1 (Pt.rdNum s 0 64 (Pt.rdNum s 1 512 (4, false)).2).1).1 (Cl.getInts s (Cl.getTexts s (Pt.rdNum s 0 64 (Pt.rdNum s 1 512 (4, false)).2).2.1 (Pt.rdNum s 0 64 (Pt.rdNum s 1 512 (4, false)).2).1).2.1 (Pt.rdNum s 0 64 (Pt.rdNum s 1 512 (4, false)).2).1).1 (Cl.getInts s (Cl.getInts s (Cl.getTexts s (Pt.rdNum s 0 64 (Pt.rdNum s 1 512 (4, false)).2).2.1 (Pt.rdNum s 0 64 (Pt.rdNum s 1 512 (4, false)).2).1).2.1 (Pt.rdNum s 0 64 (Pt.rdNum s 1 512 (4, false)).2).1).2.1 (Pt.rdNum s 0 64 (Pt.rdNum s 1 512 (4, false)).2).1).1,
        Sg.riseB (Sg.zip (Pt.rdNum s 0 64 (Pt.rdNum s 1 512 (4, false)).2).1.toNat (Cl.getTexts s (Pt.rdNum s 0 64 (Pt.rdNum s 1 512 (4, false)).2).2.1 (Pt.rdNum s 0 64 (Pt.rdNum s 1 512 (4, false)).2).1).1 (Cl.getInts s (Cl.getTexts s (Pt.rdNum s 0 64 (Pt.rdNum s 1 512 (4, false)).2).2.1 (Pt.rdNum s 0 64 (Pt.rdNum s 1 512 (4, false)).2).1).2.1 (Pt.rdNum s 0 64 (Pt.rdNum s 1 512 (4, false)).2).1).1 (Cl.getInts s (Cl.getInts s (Cl.getTexts s (Pt.rdNum s 0 64 (Pt.rdNum s 1 512 (4, false)).2).2.1 (Pt.rdNum s 0 64 (Pt.rdNum s 1 512 (4, false)).2).1).2.1 (Pt.rdNum s 0 64 (Pt.rdNum s 1 512 (4, false)).2).1).2.1 (Pt.rdNum s 0 64 (Pt.rdNum s 1 512 (4, false)).2).1).1))
section
variable {s : ByteArray} {r : Int} {st1 : Pt.St} {n : Nat} {a : Int} (h1 : Pt.rdNum s 1 512 (4, false) = (r, st1)) 
theorem cols_bad {nI : Int} {st2 : Pt.St} (h1 : Pt.rdNum s 1 512 (4, false) = (r, st1)) (h2 : Pt.rdNum s 0 64 st1 = (nI, st2)) (h : st2.2 = true ∨ s.extract 0 4 ≠ Sg.mark) : Sg.colsR s = Sg.no := by
  unfold Sg.colsR; rw [h1]; simp only; rw [h2]; simp only; rw [if_pos h]
variable {N : List ByteArray} {T V : List Int} {b c d : Int} {e f g : Int}
theorem cols_no (h1 : Pt.rdNum s 1 512 (4, false) = (r, st1)) (h2 : Pt.rdNum s 0 64 st1 = ((n : Int), (a, false))) (h3 : Cl.getTexts s a (n : Int) = (N, b, e)) (h4 : Cl.getInts s b (n : Int) = (T, c, f)) (h5 : Cl.getInts s c (n : Int) = (V, d, g)) (h : e ≠ 0 ∨ f ≠ 0 ∨ g ≠ 0 ∨ d ≠ (s.size : Int)) : Sg.colsR s = Sg.no := by
  unfold Sg.colsR; rw [h1]; simp only; rw [h2]; simp only; rw [h3]; simp only; rw [h4]; simp only; rw [h5]; simp only
  by_cases hq : false = true ∨ s.extract 0 4 ≠ Sg.mark
  · rw [if_pos hq]
  · rw [if_neg hq, if_pos h]
theorem cols_yes (h1 : Pt.rdNum s 1 512 (4, false) = (r, st1)) (h2 : Pt.rdNum s 0 64 st1 = ((n : Int), (a, false))) (hm : s.extract 0 4 = Sg.mark) (h3 : Cl.getTexts s a (n : Int) = (N, b, 0)) (h4 : Cl.getInts s b (n : Int) = (T, c, 0)) (h5 : Cl.getInts s c (n : Int) = (V, (s.size : Int), 0)) : Sg.colsR s = (r, Sg.zip n N T V, Sg.riseB (Sg.zip n N T V)) := by
  unfold Sg.colsR; rw [h1]; simp only; rw [h2]; simp only; rw [h3]; simp only; rw [h4]; simp only; rw [h5]; simp only
  rw [if_neg (by simp [hm]), if_neg (by simp), Int.toNat_natCast]
end
theorem zip_len (n : Nat) (N : List ByteArray) (T V : List Int) : (Sg.zip n N T V).length = n := by simp [Sg.zip]
theorem zip_snoc (k : Nat) (N : List ByteArray) (T V : List Int) (h1 : k < N.length) (h2 : k < T.length) (h3 : k < V.length) : Sg.zip (k + 1) N T V = Sg.zip k N T V ++ [(N[k], T[k], V[k])] := by
  unfold Sg.zip
  rw [List.range_succ, List.map_append]
  simp [List.getD_eq_getElem?_getD, List.getElem?_eq_getElem h1, List.getElem?_eq_getElem h2, List.getElem?_eq_getElem h3]

theorem getInts_wf (s : ByteArray) (a m : Int) : ∀ x ∈ (Cl.getInts s a m).1, Pt.smallB x = true := by
  have key : ∀ (l : List UInt8) (n : Nat) (last a : Int) (r : List Int × Int), Cl.goInts l n last a = some r → ∀ x ∈ r.1, Pt.smallB x = true := by
    intro l n
    induction n with
    | zero => intro last a r h; simp [Cl.goInts] at h; rw [← h]; simp
    | succ n ih =>
      intro last a r h
      rw [Cl.goInts] at h
      split at h
      · rename_i hc
        rw [Option.map_eq_some_iff] at h
        obtain ⟨q, hq, rfl⟩ := h
        intro x hx
        rcases List.mem_cons.1 hx with rfl | hx
        · exact hc.2
        · exact ih _ _ q hq x hx
      · cases h
  unfold Cl.getInts
  split
  · simp
  · split
    · simp
    · rename_i hr
      exact key _ _ _ _ _ hr
theorem goInts_len' (l : List UInt8) (n : Nat) (last a : Int) (r : List Int × Int) (h : Cl.goInts l n last a = some r) : r.1.length = n := by
  induction n generalizing last a r with
  | zero => simp [Cl.goInts] at h; rw [← h]; rfl
  | succ n ih =>
    rw [Cl.goInts] at h
    split at h
    · rw [Option.map_eq_some_iff] at h
      obtain ⟨q, hq, rfl⟩ := h
      simp [ih _ _ q hq]
    · cases h
theorem getInts_ok_len {s : ByteArray} {a : Int} {n : Nat} {T : List Int} {c : Int} (h : Cl.getInts s a (n : Int) = (T, c, 0)) : T.length = n ∧ 0 ≤ a ∧ a ≤ (s.size : Int) := by
  unfold Cl.getInts at h
  split at h
  · simp at h
  · rename_i hc
    split at h
    · simp at h
    · rename_i r hr
      have := goInts_len' _ _ _ _ _ hr
      rw [Int.toNat_natCast] at this
      simp only [Prod.mk.injEq] at h
      rw [← h.1]; exact ⟨this, by omega, by omega⟩
theorem rdPlaces_len' (l : List UInt8) (ws : List ByteArray) (n used : Nat) (a : Int) (r : List ByteArray × Nat × Int) (h : Cl.rdPlaces l ws n used a = some r) : r.1.length = n := by
  induction n generalizing used a r with
  | zero => simp [Cl.rdPlaces] at h; rw [← h]; rfl
  | succ n ih =>
    rw [Cl.rdPlaces] at h
    split at h
    · rw [Option.map_eq_some_iff] at h
      obtain ⟨q, hq, rfl⟩ := h
      simp [ih _ _ q hq]
    · cases h
theorem getTexts_ok_len {s : ByteArray} {a : Int} {n : Nat} {N : List ByteArray} {c : Int} (h : Cl.getTexts s a (n : Int) = (N, c, 0)) : N.length = n := by
  unfold Cl.getTexts at h
  split at h
  · simp at h
  · split at h
    · simp at h
    · split at h
      · simp at h
      · split at h
        · simp at h
        · rename_i hr
          split at h
          · have := rdPlaces_len' _ _ _ _ _ _ hr
            rw [Int.toNat_natCast] at this
            simp only [Prod.mk.injEq] at h
            rw [← h.1]; exact this
          · simp at h
theorem getInts_at (s : ByteArray) (a m : Int) (hs : s.size ≤ 4611686018427387904) (ha : -9223372036854775808 ≤ a ∧ a ≤ 9223372036854775807) : -9223372036854775808 ≤ (Cl.getInts s a m).2.1 ∧ (Cl.getInts s a m).2.1 ≤ 9223372036854775807 := by
  have key : ∀ (n : Nat) (last a : Int) (r : List Int × Int), (-9223372036854775808 ≤ a ∧ a ≤ 9223372036854775807) → Cl.goInts s.data.toList n last a = some r → -9223372036854775808 ≤ r.2 ∧ r.2 ≤ 9223372036854775807 := by
    intro n
    induction n with
    | zero => intro last a r ha h; simp [Cl.goInts] at h; rw [← h]; exact ha
    | succ n ih =>
      intro last a r ha h
      rw [Cl.goInts] at h
      split at h
      · rw [Option.map_eq_some_iff] at h
        obtain ⟨q, hq, rfl⟩ := h
        exact ih _ _ q (getN_bd' s a hs).1 hq
      · cases h
  unfold Cl.getInts
  split
  · simp
  · split
    · simp
    · rename_i hr
      exact key _ _ _ _ ha hr
theorem getTexts_at (s : ByteArray) (a m : Int) (hs : s.size ≤ 4611686018427387904) : -9223372036854775808 ≤ (Cl.getTexts s a m).2.1 ∧ (Cl.getTexts s a m).2.1 ≤ 9223372036854775807 := by
  have key : ∀ (ws : List ByteArray) (n used : Nat) (a : Int) (r : List ByteArray × Nat × Int), (-9223372036854775808 ≤ a ∧ a ≤ 9223372036854775807) → Cl.rdPlaces s.data.toList ws n used a = some r → -9223372036854775808 ≤ r.2.2 ∧ r.2.2 ≤ 9223372036854775807 := by
    intro ws n
    induction n with
    | zero => intro used a r ha h; simp [Cl.rdPlaces] at h; rw [← h]; exact ha
    | succ n ih =>
      intro used a r ha h
      rw [Cl.rdPlaces] at h
      split at h
      · rw [Option.map_eq_some_iff] at h
        obtain ⟨q, hq, rfl⟩ := h
        exact ih _ _ q (getN_bd' s a hs).1 hq
      · cases h
  have key2 : ∀ (n : Nat) (ws : List ByteArray) (a : Int) (r : List ByteArray × Int), (-9223372036854775808 ≤ a ∧ a ≤ 9223372036854775807) → Cl.rdWords s n ws a = some r → -9223372036854775808 ≤ r.2 ∧ r.2 ≤ 9223372036854775807 := by
    intro n
    induction n with
    | zero => intro ws a r ha h; simp [Cl.rdWords] at h; rw [← h]; exact ha
    | succ n ih =>
      intro ws a r ha h
      rw [Cl.rdWords] at h
      split at h
      · have := Pt.getT_at s a 12
        exact ih _ _ r (by omega) h
      · cases h
  unfold Cl.getTexts
  split
  · simp
  · split
    · simp
    · split
      · simp
      · rename_i hw
        split
        · simp
        · rename_i hr
          split
          · exact key _ _ _ _ _ (key2 _ _ _ _ (getN_bd' s a hs).1 hw) hr
          · simp
theorem zip_wf {n : Nat} {N : List ByteArray} {T V : List Int} (hT : ∀ x ∈ T, Pt.smallB x = true) (hV : ∀ x ∈ V, Pt.smallB x = true) : ∀ p ∈ Sg.zip n N T V, Pt.wf p := by
  intro p hp
  unfold Sg.zip at hp
  rw [List.mem_map] at hp
  obtain ⟨i, _, rfl⟩ := hp
  have sm : ∀ (L : List Int), (∀ x ∈ L, Pt.smallB x = true) → -2147483648 ≤ L.getD i 0 ∧ L.getD i 0 ≤ 2147483647 := by
    intro L hL
    rw [List.getD_eq_getElem?_getD]
    cases h : L[i]? with
    | none => simp
    | some y => exact (Pt.smallB_iff y).1 (hL y (List.mem_of_getElem? h))
  have h1 := sm T hT
  have h2 := sm V hV
  exact ⟨⟨show -9223372036854775808 ≤ T.getD i 0 by omega, show T.getD i 0 ≤ 9223372036854775807 by omega⟩, ⟨show -9223372036854775808 ≤ V.getD i 0 by omega, show V.getD i 0 ≤ 9223372036854775807 by omega⟩⟩
end Go.Proofs.Ytapdlmiioljpgaa
/- The walk through segment.columns. -/
namespace Go.Proofs.Ytapdlmiioljpgaa
open Go.RowKit
set_option linter.unusedVariables false

def ColsPost (w : World) (q : Int × List Pt.Point × Bool) (e : Ending) (w' : World) : Prop :=
  ∃ v, e = .returned (.tuple #[.int .i64 q.1, v, .bool q.2.2]) ∧ w'.ownsRow w.heap.size 88 3 v q.2.1.length (q.2.1.flatMap pointCells) ∧ Below w.heap.size w w'
theorem info_pt : (Try.prog.info? 88).map (fun i => (i.zero, i.size, i.bytes)) = some (some (.agg #[.string ⟨#[]⟩, .int .i64 0, .int .i64 0]), 3, 32) := by kernel_rfl
theorem mark_ne {s : ByteArray} (h : s ≠ Sg.mark) : (s.toList == [83, 69, 71, 49]) = false := by
  have h1 := str_ne_of h
  have h2 : Sg.mark.toList = [83, 69, 71, 49] := by decide +kernel
  rwa [h2] at h1
attribute [local go_sem ↓] Go.wp_at_zero Go.wp_at_succ
set_option maxRecDepth 100000 in
set_option maxHeartbeats 3200000 in
theorem columns_any (s : ByteArray) (w : World) (hs : s.size ≤ 140737488355328) (h4 : 4 ≤ s.size) :
    Calls Try.prog 67 #[.string s] w (ColsPost w (Sg.colsR s)) := by
  obtain ⟨i0, hi, hz0, hz1, hz2⟩ := info_parts info_pt
  have HR0 := Lib.hid (RdAt.new w s 4)
  have Hb0 : Hid (Below w.heap.size w (w.alloc (.cells #[.string s, .int .i64 4, .bool false] 125))) := (Below.refl _ _).alloc (Nat.le_refl _) _
  have Hz : Hid ((w.alloc (.cells #[.string s, .int .i64 4, .bool false] 125)).heap.size = w.heap.size + 1) := by simp [Hid]
  have H0 := Lib.hid (readerNum_any s 4 false 1 512 _ w.heap.size HR0.out (by omega) (by omega))
  have CB := @cols_bad s
  have CN := @cols_no s
  have CY := @cols_yes s
  have hat1 := Pt.rdNum_at s 1 512 (4, false) (by simp) (by simp) (by omega)
  generalize Sg.colsR s = res at *
  generalize hX1 : Pt.rdNum s 1 512 (4, false) = X1 at *
  obtain ⟨r, a1, b1⟩ := X1
  simp only at hat1
  have hat2 := Pt.rdNum_at s 0 64 (a1, b1) hat1.2 hat1.1 (by omega)
  have hrn2 := Pt.rdNum_range s 0 64 (a1, b1) (by omega) (by omega)
  have H1 := fun W h => Lib.hid (readerNum_any s a1 b1 0 64 W w.heap.size h (by omega) hat1)
  generalize hX2 : Pt.rdNum s 0 64 (a1, b1) = X2 at *
  obtain ⟨nI, a2, b2⟩ := X2
  simp only at hat2 hrn2
  obtain ⟨n, rfl⟩ : ∃ n : Nat, nI = n := ⟨nI.toNat, by omega⟩
  have CB' := Lib.hid (fun h => CB rfl hX2 h)
  have HX2 := Lib.hid hX2
  have HX1 := Lib.hid hX1
  clear CB hX1 hX2
  go_enter Try.func67, Try.ntmps67
  go_wp2_with fail
  refine H0.out.mono ?_
  rintro e w1 ⟨rfl, hR1, ho1⟩
  have HR1 := Lib.hid hR1
  have Hb1 : Hid (Below w.heap.size w w1) := Hb0.out.trans (ho1.below (fun j hj e => by omega) (by have := Hz.out; omega))
  clear hR1 ho1 H0 HR0 Hb0 Hz
  go_wp2_with fail
  refine (H1 w1 HR1.out).out.mono ?_
  rintro e w2 ⟨rfl, hR2, ho2⟩
  have HR2 := Lib.hid hR2
  have Hb2 : Hid (Below w.heap.size w w2) := Hb1.out.trans (ho2.below (fun j hj e => by omega) Hb1.out.size)
  have hc1 := hR2.cell1
  have hc2 := hR2.cell2
  simp only at hc1 hc2
  have hs2 := Hb2.out.size
  clear hR2 ho2 H1 HR1 Hb1
  cases b2
  · by_cases hmk : s.extract 0 4 = Sg.mark
    · have hme : ((s.extract 0 4).toList == [83, 69, 71, 49]) = true := by rw [hmk]; decide +kernel
      have hme2 : ((s.extract 0 4).toList == (⟨#[83, 69, 71, 49]⟩ : ByteArray).toList) = true := by rw [hmk]; decide +kernel
      have H3 := fun W => Lib.hid (getTexts_any s a2 (n : Int) W (by omega) hat2)
      have hat3 := getTexts_at s a2 (n : Int) (by omega)
      have CN' := fun N T V b c d e f g => @CN r (a1, b1) n a2 N T V b c d e f g rfl HX2.out
      have CY' := fun N T V b c => @CY r (a1, b1) n a2 N T V b c rfl HX2.out hmk
      have GL := @getTexts_ok_len s a2 n
      clear CN CY CB' HX1
      generalize Cl.getTexts s a2 (n : Int) = Y1 at *
      obtain ⟨N, b, e3⟩ := Y1
      simp only at hat3
      have H4 := fun W => Lib.hid (getInts_any s b (n : Int) W (by omega) hat3)
      have hat4 := getInts_at s b (n : Int) (by omega) hat3
      have hwT := getInts_wf s b (n : Int)
      have GT := @getInts_ok_len s b n
      have CN2 := fun T V c d f g h4 h5 h => CN' N T V b c d e3 f g rfl h4 h5 h
      have CY2 := fun (he : e3 = 0) T V c h4 h5 => CY' N T V b c (by rw [he]) h4 h5
      clear CN' CY'
      generalize Cl.getInts s b (n : Int) = Y2 at *
      obtain ⟨T, c, e4⟩ := Y2
      simp only at hat4 hwT
      have H5 := fun W => Lib.hid (getInts_any s c (n : Int) W (by omega) hat4)
      have hwV := getInts_wf s c (n : Int)
      have GV := @getInts_ok_len s c n
      have CN3 := fun V d g h5 h => CN2 T V c d e4 g rfl h5 h
      have CY3 := fun (he : e3 = 0) (hf : e4 = 0) V h5 => CY2 he T V c (by rw [hf]) h5
      clear CN2 CY2
      generalize Cl.getInts s c (n : Int) = Y3 at *
      obtain ⟨V, d, e5⟩ := Y3
      simp only at hwV
      have CN4 := Lib.hid (fun h => CN3 V d e5 rfl h)
      have CY4 := Lib.hid (fun (he : e3 = 0) (hf : e4 = 0) (hg : e5 = 0) (hd : d = (s.size : Int)) => CY3 he hf V (by rw [hg, hd]))
      have HwT := Lib.hid hwT
      have HwV := Lib.hid hwV
      have GL' := Lib.hid (fun (h : e3 = 0) => GL (N := N) (c := b) (by rw [h]))
      have GT' := Lib.hid (fun (h : e4 = 0) => (GT (T := T) (c := c) (by rw [h])).1)
      have GV' := Lib.hid (fun (h : e5 = 0) => (GV (T := V) (c := d) (by rw [h])).1)
      clear CN3 CY3 hwT hwV GL GT GV hmk
      go_wp2_with fail
      refine (H3 w2).out.mono ?_
      rintro e w3 ⟨vN, rfl, hownN, hb3⟩
      have hs3 := hb3.size
      have Hb3 : Hid (Below w.heap.size w w3) := Hb2.out.trans (hb3.mono hs2)
      obtain ⟨AN, cN, rfl, hcapN, hrN⟩ := own_slice hownN
      have HrN := Lib.hid hrN
      clear H3 hownN hb3 hrN HR2 Hb2 hc1 hc2
      go_wp2_with fail
      refine (H4 w3).out.mono ?_
      rintro e w4 ⟨vT, rfl, hownT, hb4⟩
      have hs4 := hb4.size
      have Hb4 : Hid (Below w.heap.size w w4) := Hb3.out.trans (hb4.mono (by omega))
      obtain ⟨AT, cT, rfl, hcapT, hrT⟩ := own_slice hownT
      have HrT := Lib.hid hrT
      have HrN4 := Lib.hid (HrN.out.below hb4)
      clear H4 hownT hb4 hrT HrN Hb3
      go_wp2_with fail
      refine (H5 w4).out.mono ?_
      rintro e w5 ⟨vV, rfl, hownV, hb5⟩
      have hs5 := hb5.size
      have Hb5 : Hid (Below w.heap.size w w5) := Hb4.out.trans (hb5.mono (by omega))
      obtain ⟨AV, cV, rfl, hcapV, hrV⟩ := own_slice hownV
      have HrV := Lib.hid hrV
      have HrN5 := Lib.hid ((HrN4.out.below (hb5.mono hs4)).more (show w3.heap.size ≤ w5.heap.size by omega))
      have HrT5 := Lib.hid ((HrT.out.below hb5).more (show w4.heap.size ≤ w5.heap.size by omega))
      clear H5 hownV hb5 hrV HrN4 HrT Hb4
      simp only at HrN5 HrT5 HrV
      by_cases he3 : e3 = 0
      · by_cases he4 : e4 = 0
        · by_cases he5 : e5 = 0
          · by_cases hd : d = (s.size : Int)
            · have HR := Lib.hid (CY4.out he3 he4 he5 hd)
              have hlN := GL'.out he3
              have hlT := GT'.out he4
              have hlV := GV'.out he5
              subst he3 he4 he5
              subst hd
              have hwz := zip_wf (n := n) (N := N) HwT.out HwV.out
              have Hwz := Lib.hid hwz
              have HlN := Lib.hid hlN
              have HlT := Lib.hid hlT
              have HlV := Lib.hid hlV
              have l1 : n ≤ N.length := by omega
              have l2 : n ≤ T.length := by omega
              have l3 : n ≤ V.length := by omega
              clear hwz HwT HwV CY4 CN4 GL' GT' GV' hlN hlT hlV
              go_wp2_with fail
              go_loopw [3, 14, 75] (fun vp _ i wr => ∃ k : Nat, k ≤ n ∧ i = .int .i64 (k : Int) ∧ Hid (wr.ownsRow w5.heap.size 88 3 vp k ((Sg.zip k N T V).flatMap pointCells)) ∧ Hid (Below w5.heap.size w5 wr)) (fun _ _ i _ => n - (intOf i).toNat)
              case atStart => exact ⟨0, Nat.zero_le _, rfl, Lib.hid (own_nil _ _ _ _), Lib.hid (Below.refl _ _)⟩
              case round =>
                obtain ⟨k, hk, rfl, hown, hbw⟩ := hrel
                have hsw := hbw.out.size
                by_cases hlt : k < n
                · have g1 : k < N.length := by omega
                  have g2 : k < T.length := by omega
                  have g3 : k < V.length := by omega
                  obtain ⟨bN, oN, rfl, hbN, hxN⟩ := HrN5.out.2 (by omega)
                  obtain ⟨bT, oT, rfl, hbT, hxT⟩ := HrT5.out.2 (by omega)
                  obtain ⟨bV, oV, rfl, hbV, hxV⟩ := HrV.out.2 (by omega)
                  have cN' := map_cell (wr := wr) (B := w5.heap.size) g1 hxN (fun p hp => hbw.out.cell hp) hbN
                  have cT' := map_cell (wr := wr) (B := w5.heap.size) g2 hxT (fun p hp => hbw.out.cell hp) hbT
                  have cV' := map_cell (wr := wr) (B := w5.heap.size) g3 hxV (fun p hp => hbw.out.cell hp) hbV
                  have Hz := Lib.hid (zip_snoc k N T V g1 g2 g3)
                  have nN := Ne.symm (own_ne_lt hown.out hbN)
                  have nT := Ne.symm (own_ne_lt hown.out hbT)
                  have nV := Ne.symm (own_ne_lt hown.out hbV)
                  have k0 : (0 : Int) ≤ (k : Int) := Int.natCast_nonneg _
                  have k1 : (k : Int) < (N.length : Int) := by omega
                  have k2 : (k : Int) < (T.length : Int) := by omega
                  have k3 : (k : Int) < (V.length : Int) := by omega
                  clear hxN hxT hxV HrN5 HrT5 HrV
                  go_wp2_with fail
                  have hm64 : k + 1 ≤ maxLen := by unfold maxLen; omega
                  have Hown := hown
                  go_region_held3 (fun w' => w'.cell? ⟨bN, oN + k, none⟩ = some (.string N[k]) ∧ w'.cell? ⟨bT, oT + k, none⟩ = some (.int .i64 T[k]) ∧ w'.cell? ⟨bV, oV + k, none⟩ = some (.int .i64 V[k]))
                    (first
                      | go_keep
                      | (go_split_ands
                         refine ⟨?_, ?_, ?_⟩
                         · (rw [hgrow.cell_far _ (by simp; omega) nN]; assumption)
                         · (rw [hgrow.cell_far _ (by simp; omega) nT]; assumption)
                         · (rw [hgrow.cell_far _ (by simp; omega) nV]; assumption)))
                    ((refine step_append_lies _ (by rfl) _ _ _ (by rfl) w5.heap.size 88 i0 _ 3 32 Try.underlying22 hi hz0 hz1 hz2 rfl (by omega) u3 k _ (by rfl) ((hown.out.alloc _).drew)
                        ⟨wr.heap.size, 0, none⟩ 1 1 [.string N[k], .int .i64 T[k], .int .i64 V[k]] (by rfl) (by rfl) (World.news_of_block (cs := #[.string N[k], .int .i64 T[k], .int .i64 V[k]]) (t := 88) (fr := (0, 0)) (heap_alloc_new wr _)) (by simp [Value.oneCell'])
                        (by omega) hm64 (by omega) (by simp; omega) (wr.heap.size + 1) (by simp) ?_; intro gg cap w1 hown1 hgrow hat hlt))
                  rename_i hlt0 _
                  have hbw1 : Hid (Below w5.heap.size w5 w1) := (((hbw.out.alloc hsw _).drew).grown hgrow (by simp; omega) (fun j hj => (own_lt hown.out hj).1))
                  have hown2 : Hid (w1.ownsRow w5.heap.size 88 3 (.slice (some ⟨gg, 0, none⟩) (k + 1) cap) (k + 1) ((Sg.zip (k + 1) N T V).flatMap pointCells)) := by
                    rw [Hz.out, List.flatMap_append]; exact hown1
                  clear hown1 hgrow hat hown Hown hbw Hz
                  go_wp2_with fail
                  go_roundw
                  case rel => exact ⟨k + 1, by omega, by go_num, hown2, hbw1⟩
                  case measure => simp [intOf]; omega
                · have hkn : k = n := by omega
                  subst hkn
                  obtain ⟨AP, cP, rfl, hcapP, hrP⟩ := own_slice hown.out
                  have HM := Lib.hid (sgmay_any AP cP (Sg.zip k N T V) wr wr.heap.size (by rw [zip_len]; exact hrP) (Nat.le_refl _) (by rw [zip_len]; omega) Hwz.out)
                  rw [zip_len] at HM
                  clear hrP Hwz
                  go_wp2_with fail
                  refine HM.out.mono ?_
                  rintro e w6 ⟨rfl, hb6⟩
                  have hown6 := own_only hown.out (Only.new (fun _ => False) hb6) (fun _ _ h => h)
                  go_wp2_with fail
                  go_ret3
                  exact ⟨_, by rw [HR.out]; rfl, by rw [HR.out]; simp only; rw [zip_len]; exact own_down hown6 (by omega), Hb5.out.trans ((hbw.out.trans (hb6.mono hsw)).mono (by omega))⟩
            · have HR := Lib.hid (CN4.out (.inr (.inr (.inr hd))))
              subst he3 he4 he5
              clear CY4 CN4 GL' GT' GV' HwT HwV
              go_wp2_with fail
              go_ret3
              exact ⟨_, by rw [HR.out]; rfl, by rw [HR.out]; exact own_nil _ _ _ _, Hb5.out⟩
          · have HR := Lib.hid (CN4.out (.inr (.inr (.inl he5))))
            subst he3 he4
            clear CY4 CN4 GL' GT' GV' HwT HwV
            go_wp2_with fail
            go_ret3
            exact ⟨_, by rw [HR.out]; rfl, by rw [HR.out]; exact own_nil _ _ _ _, Hb5.out⟩
        · have HR := Lib.hid (CN4.out (.inr (.inl he4)))
          subst he3
          clear CY4 CN4 GL' GT' GV' HwT HwV
          go_wp2_with fail
          go_ret3
          exact ⟨_, by rw [HR.out]; rfl, by rw [HR.out]; exact own_nil _ _ _ _, Hb5.out⟩
      · have HR := Lib.hid (CN4.out (.inl he3))
        clear CY4 CN4 GL' GT' GV' HwT HwV
        go_wp2_with fail
        go_ret3
        exact ⟨_, by rw [HR.out]; rfl, by rw [HR.out]; exact own_nil _ _ _ _, Hb5.out⟩
    · have hme : ((s.extract 0 4).toList == [83, 69, 71, 49]) = false := mark_ne hmk
      have hme2 : ((s.extract 0 4).toList == (⟨#[83, 69, 71, 49]⟩ : ByteArray).toList) = false := str_ne_of (b := Sg.mark) hmk
      have HR := Lib.hid (CB'.out (.inr hmk))
      clear CN CY CB' HX1 HX2 hmk
      go_wp2_with fail
      go_ret3
      exact ⟨_, by rw [HR.out]; rfl, by rw [HR.out]; exact own_nil _ _ _ _, Hb2.out⟩
  · have HR := Lib.hid (CB'.out (.inl rfl))
    clear CN CY CB' HX1 HX2
    go_wp2_with fail
    go_ret3
    exact ⟨_, by rw [HR.out]; rfl, by rw [HR.out]; exact own_nil _ _ _ _, Hb2.out⟩
end Go.Proofs.Ytapdlmiioljpgaa
/- A segment, read: plain, and the walks through segment.Get and segment.Range. -/
namespace Go.Proofs.Ytapdlmiioljpgaa
open Go.RowKit
set_option linter.unusedVariables false

def Sg.getR (s : ByteArray) : Int × List Pt.Point × Int :=
  if s.size < 12 then (0, [], 1300) else
    if Sg.tailB (Sm.hashL (s.extract 0 (s.size - 8)).data.toList) ≠ s.extract (s.size - 8) s.size then (0, [], 1301) else
      if (Sg.colsR (s.extract 0 (s.size - 8))).2.2 = false then (0, [], 1300) else ((Sg.colsR (s.extract 0 (s.size - 8))).1, (Sg.colsR (s.extract 0 (s.size - 8))).2.1, 0)
section
variable {s b t : ByteArray} {m : Nat}
theorem get_short (h : s.size < 12) : Sg.getR s = (0, [], 1300) := by unfold Sg.getR; rw [if_pos h]
theorem get_tail (h : s.size = m + 8) (hm : 4 ≤ m) (hb : s.extract 0 m = b) (ht : s.extract m (m + 8) = t) (hx : Sg.tailB (Sm.hashL b.data.toList) ≠ t) : Sg.getR s = (0, [], 1301) := by
  unfold Sg.getR; rw [if_neg (by omega), h, Nat.add_sub_cancel, hb, ht, if_pos hx]
theorem get_cols (h : s.size = m + 8) (hm : 4 ≤ m) (hb : s.extract 0 m = b) (ht : s.extract m (m + 8) = t) (hx : Sg.tailB (Sm.hashL b.data.toList) = t) (hc : (Sg.colsR b).2.2 = false) : Sg.getR s = (0, [], 1300) := by
  unfold Sg.getR; rw [if_neg (by omega), h, Nat.add_sub_cancel, hb, ht, if_neg (fun e => e hx), if_pos hc]
theorem get_good (h : s.size = m + 8) (hm : 4 ≤ m) (hb : s.extract 0 m = b) (ht : s.extract m (m + 8) = t) (hx : Sg.tailB (Sm.hashL b.data.toList) = t) (hc : (Sg.colsR b).2.2 = true) : Sg.getR s = ((Sg.colsR b).1, (Sg.colsR b).2.1, 0) := by
  unfold Sg.getR; rw [if_neg (by omega), h, Nat.add_sub_cancel, hb, ht, if_neg (fun e => e hx), if_neg (by rw [hc]; simp)]
end
def GetPost (w : World) (q : Int × List Pt.Point × Int) (e : Ending) (w' : World) : Prop :=
  ∃ v, e = .returned (.tuple #[.int .i64 q.1, v, .int .i64 q.2.2]) ∧ w'.ownsRow w.heap.size 88 3 v q.2.1.length (q.2.1.flatMap pointCells) ∧ Below w.heap.size w w'
set_option maxRecDepth 100000 in
set_option maxHeartbeats 1600000 in
theorem sgget_any (s : ByteArray) (w : World) (hs : s.size ≤ 140737488355328) :
    Calls Try.prog 20 #[.string s] w (GetPost w (Sg.getR s)) := by
  by_cases h12 : s.size < 12
  · have HR := Lib.hid (get_short h12)
    generalize Sg.getR s = res at *
    go_enter Try.func20, Try.ntmps20
    go_wp2_with fail
    go_ret3
    exact ⟨_, by rw [HR.out]; rfl, by rw [HR.out]; exact own_nil _ _ _ _, Below.refl _ _⟩
  · obtain ⟨m, hm⟩ : ∃ m, s.size = m + 8 := ⟨s.size - 8, by omega⟩
    have hm4 : 4 ≤ m := by omega
    have hbs : (s.extract 0 m).size = m := by rw [ByteArray.size_extract]; omega
    have HTl := Lib.hid (get_tail (b := s.extract 0 m) (t := s.extract m (m + 8)) hm hm4 rfl rfl)
    have HCl := Lib.hid (get_cols (b := s.extract 0 m) (t := s.extract m (m + 8)) hm hm4 rfl rfl)
    have HGd := Lib.hid (get_good (b := s.extract 0 m) (t := s.extract m (m + 8)) hm hm4 rfl rfl)
    have HC := fun W => Lib.hid (columns_any (s.extract 0 m) W (by omega) (by omega))
    have HH := fun W => Lib.hid (hash_any (s.extract 0 m) W (by unfold maxLen; omega))
    generalize Sg.getR s = res at *
    go_enter Try.func20, Try.ntmps20
    go_wp2_with fail
    have hhl := Sm.hashL_lt (s.extract 0 m).data.toList
    have HT := fun W => Lib.hid (tail_any (Sm.hashL (s.extract 0 m).data.toList) W hhl)
    have hsl : s.extract m s.size = s.extract m (m + 8) := by rw [hm]
    have hle : (m : Int) ≤ (m : Int) + 8 := by omega
    have hle2 : (m : Int) ≤ (s.size : Int) := by omega
    generalize hQ : Sg.colsR (s.extract 0 m) = Q at *
    clear hQ
    generalize Sm.hashL (s.extract 0 m).data.toList = hh at *
    generalize Sg.tailB hh = TB at *
    obtain ⟨r, ps, ok⟩ := Q
    simp only at HCl HGd
    by_cases htl : TB = s.extract m (m + 8)
    · have hz : (TB.toList == (s.extract m (m + 8)).toList) = true := str_eq_of htl
      have HCl' := Lib.hid (HCl.out htl)
      have HGd' := Lib.hid (HGd.out htl)
      clear htl HTl HCl HGd
      refine wp_region_aft w.heap.size w (by kernel_rfl) (by kernel_rfl) (Below.refl _ _) ?_
      repeat (go_big_quiet_step (first | (go_at_call 54; with_reducible exact aft_same (Hid.out (HH _))) | (go_at_call 61; with_reducible exact aft_new (Nat.le_refl _) (Hid.out (HT _)))))
      refine wpQuiet_nil ?_
      rintro _ ⟨x, rfl⟩
      have Hx := Lib.hid x.below
      generalize x.world = w3 at *
      go_wp2_with fail
      refine (HC _).out.mono ?_
      rintro e w4 ⟨v, rfl, hown, hb4⟩
      have Hown := Lib.hid hown
      have hs3 := Hx.out.size
      have Hb4 := Lib.hid (Hx.out.trans (hb4.mono hs3))
      clear hown hb4
      cases ok
      · have HR := Lib.hid (HCl'.out rfl)
        clear HCl' HGd'
        go_wp2_with fail
        go_ret3
        exact ⟨_, by rw [HR.out]; rfl, by rw [HR.out]; exact own_nil _ _ _ _, Hb4.out⟩
      · have HR := Lib.hid (HGd'.out rfl)
        clear HCl' HGd'
        go_wp2_with fail
        go_ret3
        exact ⟨_, by rw [HR.out]; rfl, by rw [HR.out]; exact own_down Hown.out hs3, Hb4.out⟩
    · have hz : (TB.toList == (s.extract m (m + 8)).toList) = false := str_ne_of htl
      have HR := Lib.hid (HTl.out htl)
      clear htl HTl HCl HGd
      refine wp_region_aft w.heap.size w (by kernel_rfl) (by kernel_rfl) (Below.refl _ _) ?_
      repeat (go_big_quiet_step (first | (go_at_call 54; with_reducible exact aft_same (Hid.out (HH _))) | (go_at_call 61; with_reducible exact aft_new (Nat.le_refl _) (Hid.out (HT _)))))
      refine wpQuiet_nil ?_
      rintro _ ⟨x, rfl⟩
      have Hx := Lib.hid x.below
      generalize x.world = w3 at *
      go_wp2_with fail
      go_ret3
      exact ⟨_, by rw [HR.out]; rfl, by rw [HR.out]; exact own_nil _ _ _ _, Hx.out⟩
end Go.Proofs.Ytapdlmiioljpgaa
/- The walk through the reference's Get of a segment. -/
namespace Go.Proofs.Ytapdlmiioljpgaa
open Go.RowKit
set_option linter.unusedVariables false

theorem rd_bad {s : ByteArray} {lo hi a x b e : Int} (h : Wr.getN s.data.toList a = (x, b, e)) (hb : e ≠ 0 ∨ x < lo ∨ hi < x) : Pt.rdNum s lo hi (a, false) = (0, (a, true)) := by
  unfold Pt.rdNum; simp only; rw [h]; simp only
  rw [if_pos (by rcases hb with k | k | k; exact .inl k; exact .inr (.inl k); exact .inr (.inr (.inl k)))]
theorem rd_good {s : ByteArray} {lo hi a x b : Int} (h : Wr.getN s.data.toList a = (x, b, 0)) (hb : lo ≤ x ∧ x ≤ hi) : Pt.rdNum s lo hi (a, false) = (x, (b, false)) := by
  unfold Pt.rdNum; simp only; rw [h]; simp only
  rw [if_neg (by rintro (k | k | k | k); exact k rfl; omega; omega; cases k)]
theorem rd_true {s : ByteArray} {lo hi a : Int} : Pt.rdNum s lo hi (a, true) = (0, (a, true)) := by
  unfold Pt.rdNum; rw [if_pos (.inr (.inr (.inr rfl)))]
section
variable {s : ByteArray} {x a y b e : Int}
theorem rc_mark (h : s.extract 0 4 ≠ Sg.mark) : Sg.colsR s = Sg.no := cols_bad (r := (Pt.rdNum s 1 512 (4, false)).1) (st1 := (Pt.rdNum s 1 512 (4, false)).2) rfl rfl (.inr h)
theorem rc_bad1 (h : Wr.getN s.data.toList 4 = (x, a, e)) (hb : e ≠ 0 ∨ x < 1 ∨ 512 < x) : Sg.colsR s = Sg.no := cols_bad (rd_bad h hb) rd_true (.inl rfl)
theorem rc_bad2 (h : Wr.getN s.data.toList 4 = (x, a, 0)) (h1 : 1 ≤ x ∧ x ≤ 512) (h2 : Wr.getN s.data.toList a = (y, b, e)) (hb : e ≠ 0 ∨ y < 0 ∨ 64 < y) : Sg.colsR s = Sg.no := cols_bad (rd_good h h1) (rd_bad h2 hb) (.inl rfl)
end
theorem getTexts_size (s : ByteArray) (a m : Int) : ∀ x ∈ (Cl.getTexts s a m).1, x.size ≤ s.size := by
  have key2 : ∀ (n : Nat) (ws : List ByteArray) (a : Int) (r : List ByteArray × Int), (∀ x ∈ ws, x.size ≤ s.size) → Cl.rdWords s n ws a = some r → ∀ x ∈ r.1, x.size ≤ s.size := by
    intro n
    induction n with
    | zero => intro ws a r ha h; simp [Cl.rdWords] at h; rw [← h]; exact ha
    | succ n ih =>
      intro ws a r ha h
      rw [Cl.rdWords] at h
      split at h
      · have := (Pt.getT_at s a 12).2.2
        exact ih _ _ r (fun x hx => by rcases List.mem_append.1 hx with k | k; exact ha x k; rw [List.mem_singleton.1 k]; exact this) h
      · cases h
  have key : ∀ (ws : List ByteArray) (n used : Nat) (a : Int) (r : List ByteArray × Nat × Int), (∀ x ∈ ws, x.size ≤ s.size) → Cl.rdPlaces s.data.toList ws n used a = some r → ∀ x ∈ r.1, x.size ≤ s.size := by
    intro ws n
    induction n with
    | zero => intro used a r ha h; simp [Cl.rdPlaces] at h; rw [← h]; simp
    | succ n ih =>
      intro used a r ha h
      rw [Cl.rdPlaces] at h
      split at h
      · rw [Option.map_eq_some_iff] at h
        obtain ⟨q, hq, rfl⟩ := h
        intro x hx
        rcases List.mem_cons.1 hx with rfl | hx
        · rw [List.getD_eq_getElem?_getD]
          generalize (Wr.getN s.data.toList a).1.toNat = i
          cases hi : ws[i]? with
          | none => exact Nat.zero_le _
          | some y => exact ha y (List.mem_of_getElem? hi)
        · exact ih _ _ q ha hq x hx
      · cases h
  unfold Cl.getTexts
  split
  · simp
  · split
    · simp
    · split
      · simp
      · rename_i hw
        split
        · simp
        · rename_i hr
          split
          · exact key _ _ _ _ _ (key2 _ _ _ _ (by simp) hw) hr
          · simp
theorem zip_size {n : Nat} {N : List ByteArray} {T V : List Int} (hN : ∀ x ∈ N, x.size ≤ 9223372036854775807) : ∀ p ∈ Sg.zip n N T V, p.1.size ≤ 9223372036854775807 := by
  intro p hp
  unfold Sg.zip at hp
  rw [List.mem_map] at hp
  obtain ⟨i, _, rfl⟩ := hp
  show (N.getD i ⟨#[]⟩).size ≤ _
  rw [List.getD_eq_getElem?_getD]
  cases h : N[i]? with
  | none => exact Nat.zero_le _
  | some y => exact hN y (List.mem_of_getElem? h)
set_option maxRecDepth 100000 in
set_option maxHeartbeats 3200000 in
theorem rsgget_any (s : ByteArray) (w : World) (hs : s.size ≤ 140737488355328) :
    Calls Try.prog 21 #[.string s] w (GetPost w (Sg.getR s)) := by
  obtain ⟨i0, hi, hz0, hz1, hz2⟩ := info_parts info_pt
  by_cases h12 : s.size < 12
  · have HR := Lib.hid (get_short h12)
    have HB := Lib.hid (Below.refl w.heap.size w)
    generalize Sg.getR s = res at *
    go_enter Try.func21, Try.ntmps21
    go_wp2_with fail
    go_ret3
    exact ⟨_, by rw [HR.out]; rfl, by rw [HR.out]; exact own_nil _ _ _ _, HB.out⟩
  · obtain ⟨m, hm⟩ : ∃ m, s.size = m + 8 := ⟨s.size - 8, by omega⟩
    have hm4 : 4 ≤ m := by omega
    have d12 : decide ((m : Int) + 8 < 12) = false := decide_eq_false (by omega)
    have d12' : decide (m + 8 < 12) = false := decide_eq_false (by omega)
    have hbs : (s.extract 0 m).size = m := by rw [ByteArray.size_extract]; omega
    have HTl := Lib.hid (get_tail (b := s.extract 0 m) (t := s.extract m (m + 8)) hm hm4 rfl rfl)
    have HCl := Lib.hid (get_cols (b := s.extract 0 m) (t := s.extract m (m + 8)) hm hm4 rfl rfl)
    have HGd := Lib.hid (get_good (b := s.extract 0 m) (t := s.extract m (m + 8)) hm hm4 rfl rfl)
    have HH := fun W => Lib.hid (rhash_any (s.extract 0 m) W (by unfold maxLen; omega))
    generalize Sg.getR s = res at *
    go_enter Try.func21, Try.ntmps21
    go_wp2_with fail
    have hhl := Sm.hashL_lt (s.extract 0 m).data.toList
    have HT := fun W => Lib.hid (reight_any (Sm.hashL (s.extract 0 m).data.toList) W hhl)
    have hsl : s.extract m s.size = s.extract m (m + 8) := by rw [hm]
    have hle : (m : Int) ≤ (m : Int) + 8 := by omega
    have hle2 : (m : Int) ≤ (s.size : Int) := by omega
    have hle3 : (0 : Int) ≤ (m : Int) := by omega
    have hw8 : IntKind.i64.wrap ((m : Int) + 8 - 8) = (m : Int) := by rw [show (m : Int) + 8 - 8 = (m : Int) from by omega]; exact IntWalk.i64_in _ (by omega)
    have hw9 : IntKind.i64.wrap ((s.size : Int) - 8) = (m : Int) := by rw [show (s.size : Int) - 8 = (m : Int) from by omega]; exact IntWalk.i64_in _ (by omega)
    generalize Sm.hashL (s.extract 0 m).data.toList = hh at *
    generalize Sg.tailB hh = TB at *
    by_cases htl : TB = s.extract m (m + 8)
    · have hz : (TB.toList == (s.extract m (m + 8)).toList) = true := str_eq_of htl
      have HCl' := Lib.hid (HCl.out htl)
      have HGd' := Lib.hid (HGd.out htl)
      clear htl HTl HCl HGd
      refine wp_region_aft w.heap.size w (by kernel_rfl) (by kernel_rfl) (Below.refl _ _) ?_
      repeat (go_big_quiet_step (first | (go_at_call 48; with_reducible exact aft_same (Hid.out (HH _))) | (go_at_call 66; with_reducible exact aft_new (Nat.le_refl _) (Hid.out (HT _)))))
      refine wpQuiet_nil ?_
      rintro _ ⟨x, rfl⟩
      have HB := Lib.hid x.below
      have hs3 := x.below.size
      generalize x.world = w3 at *
      generalize s.extract 0 m = bd at *
      have HNo := Lib.hid (fun h : Sg.colsR bd = Sg.no => HCl'.out (by rw [h]))
      have hb4 : 4 ≤ bd.size := by omega
      have hb5 : bd.size ≤ 140737488355328 := by omega
      clear HH HT hw8 hw9 hsl
      by_cases hmk : bd.extract 0 4 = Sg.mark
      · have hme : ((bd.extract 0 4).toList == [83, 69, 71, 49]) = true := by rw [hmk]; decide +kernel
        have hme2 : ((bd.extract 0 4).toList == (⟨#[83, 69, 71, 49]⟩ : ByteArray).toList) = true := by rw [hmk]; decide +kernel
        have Hmk := Lib.hid hmk
        have G1 := fun W => Lib.hid (rgetNum_any bd 4 W (by omega) (by omega))
        have hg1 := getN_bd' bd 4 (by omega)
        have B1 := @rc_bad1 bd
        have B2 := @rc_bad2 bd
        have Gd := @rd_good bd 1 512 4
        clear hmk
        generalize Wr.getN bd.data.toList 4 = X1 at *
        obtain ⟨x, a1, e1⟩ := X1
        simp only [gnV] at G1 hg1
        by_cases he1 : e1 = 0
        · subst he1
          by_cases hx1 : x < 1
          · clear B2 Gd
            have HR := Lib.hid (HNo.out (B1 rfl (.inr (.inl hx1))))
            clear B1 HNo HCl' HGd'
            go_wp2_with fail
            refine (G1 _).out.mono ?_
            rintro e w' ⟨rfl, rfl⟩
            clear G1
            go_wp2_with fail
            go_ret3
            exact ⟨_, by rw [HR.out]; rfl, by rw [HR.out]; exact own_nil _ _ _ _, HB.out⟩
          · by_cases hx2 : 512 < x
            · clear B2 Gd
              have HR := Lib.hid (HNo.out (B1 rfl (.inr (.inr hx2))))
              clear B1 HNo HCl' HGd'
              go_wp2_with fail
              refine (G1 _).out.mono ?_
              rintro e w' ⟨rfl, rfl⟩
              clear G1
              go_wp2_with fail
              go_ret3
              exact ⟨_, by rw [HR.out]; rfl, by rw [HR.out]; exact own_nil _ _ _ _, HB.out⟩
            · have dx1 : decide (x < 1) = false := decide_eq_false hx1
              have dx2 : decide (512 < x) = false := decide_eq_false hx2
              have Hd1 := Lib.hid (Gd rfl (by omega))
              have G2 := fun W => Lib.hid (rgetNum_any bd a1 W (by omega) hg1.1)
              have hg2 := getN_bd' bd a1 (by omega)
              have B2' := fun y b e h hb => @B2 x a1 y b e rfl (by omega) h hb
              have Gd2 := @rd_good bd 0 64 a1
              clear B1 B2 Gd
              generalize Wr.getN bd.data.toList a1 = X2 at *
              obtain ⟨y, a2, e2⟩ := X2
              simp only [gnV] at G2 hg2
              have HB2 := Lib.hid (fun hb => HNo.out (B2' y a2 e2 rfl hb))
              clear B2'
              go_wp2_with fail
              refine (G1 _).out.mono ?_
              rintro e w' ⟨rfl, rfl⟩
              clear G1
              go_wp2_with fail
              refine (G2 _).out.mono ?_
              rintro e w' ⟨rfl, rfl⟩
              clear G2
              by_cases he2 : e2 = 0
              · by_cases hy1 : y < 0
                · have HR := Lib.hid (HB2.out (.inr (.inl hy1)))
                  subst he2
                  clear HB2 Gd2 HNo HCl' HGd'
                  go_wp2_with fail
                  go_ret3
                  exact ⟨_, by rw [HR.out]; rfl, by rw [HR.out]; exact own_nil _ _ _ _, HB.out⟩
                · by_cases hy2 : 64 < y
                  · have HR := Lib.hid (HB2.out (.inr (.inr hy2)))
                    subst he2
                    clear HB2 Gd2 HNo HCl' HGd'
                    go_wp2_with fail
                    go_ret3
                    exact ⟨_, by rw [HR.out]; rfl, by rw [HR.out]; exact own_nil _ _ _ _, HB.out⟩
                  · subst he2
                    have Hd2 := Lib.hid (Gd2 rfl (by omega))
                    obtain ⟨n, rfl⟩ : ∃ n : Nat, y = n := ⟨y.toNat, by omega⟩
                    have dy1 : decide ((n : Int) < 0) = false := decide_eq_false hy1
                    have dy2 : decide (64 < (n : Int)) = false := decide_eq_false hy2
                    have dy3 : decide (64 < n) = false := decide_eq_false (by omega)
                    have hn64 : n ≤ 64 := by omega
                    have H3 := fun W => Lib.hid (rgetTexts_any bd a2 (n : Int) W (by omega) hg2.1)
                    have hat3 := getTexts_at bd a2 (n : Int) (by omega)
                    have hszN := getTexts_size bd a2 (n : Int)
                    have CN' := fun N T V b c d e f g => @cols_no bd x (a1, false) n a2 N T V b c d e f g Hd1.out Hd2.out
                    have CY' := fun N T V b c => @cols_yes bd x (a1, false) n a2 N T V b c Hd1.out Hd2.out Hmk.out
                    have GL := @getTexts_ok_len bd a2 n
                    clear HB2 Gd2 Hd1 Hd2
                    generalize Cl.getTexts bd a2 (n : Int) = Y1 at *
                    obtain ⟨N, b, e3⟩ := Y1
                    simp only at hat3 hszN
                    have H4 := fun W => Lib.hid (rgetInts_any bd b (n : Int) W (by omega) hat3)
                    have hat4 := getInts_at bd b (n : Int) (by omega) hat3
                    have hwT := getInts_wf bd b (n : Int)
                    have GT := @getInts_ok_len bd b n
                    have CN2 := fun T V c d f g h4 h5 h => CN' N T V b c d e3 f g rfl h4 h5 h
                    have CY2 := fun (he : e3 = 0) T V c h4 h5 => CY' N T V b c (by rw [he]) h4 h5
                    clear CN' CY'
                    generalize Cl.getInts bd b (n : Int) = Y2 at *
                    obtain ⟨T, c, e4⟩ := Y2
                    simp only at hat4 hwT
                    have H5 := fun W => Lib.hid (rgetInts_any bd c (n : Int) W (by omega) hat4)
                    have hwV := getInts_wf bd c (n : Int)
                    have GV := @getInts_ok_len bd c n
                    have CN3 := fun V d g h5 h => CN2 T V c d e4 g rfl h5 h
                    have CY3 := fun (he : e3 = 0) (hf : e4 = 0) V h5 => CY2 he T V c (by rw [hf]) h5
                    clear CN2 CY2
                    generalize Cl.getInts bd c (n : Int) = Y3 at *
                    obtain ⟨V, d, e5⟩ := Y3
                    simp only at hwV
                    have CN4 := Lib.hid (fun h => HNo.out (CN3 V d e5 rfl h))
                    have CY4 := Lib.hid (fun (he : e3 = 0) (hf : e4 = 0) (hg : e5 = 0) (hd : d = (bd.size : Int)) => CY3 he hf V (by rw [hg, hd]))
                    have HwT := Lib.hid hwT
                    have HwV := Lib.hid hwV
                    have HzN : Hid (∀ x ∈ N, x.size ≤ 9223372036854775807) := fun x hx => by have := hszN x hx; omega
                    have GL' := Lib.hid (fun (h : e3 = 0) => GL (N := N) (c := b) (by rw [h]))
                    have GT' := Lib.hid (fun (h : e4 = 0) => (GT (T := T) (c := c) (by rw [h])).1)
                    have GV' := Lib.hid (fun (h : e5 = 0) => (GV (T := V) (c := d) (by rw [h])).1)
                    clear CN3 CY3 hwT hwV GL GT GV hszN HNo
                    have hs2 := hs3
                    go_wp2_with fail
                    refine (H3 w3).out.mono ?_
                    rintro e w4 ⟨vN, rfl, hownN, hb4'⟩
                    have hs4 := hb4'.size
                    have HB4 : Hid (Below w.heap.size w w4) := HB.out.trans (hb4'.mono hs3)
                    obtain ⟨AN, cN, rfl, hcapN, hrN⟩ := own_slice hownN
                    have HrN := Lib.hid hrN
                    clear H3 hownN hb4' hrN HB
                    by_cases he3 : e3 = 0
                    · go_wp2_with fail
                      refine (H4 w4).out.mono ?_
                      rintro e w5 ⟨vT, rfl, hownT, hb5'⟩
                      have hs5 := hb5'.size
                      have HB5 : Hid (Below w.heap.size w w5) := HB4.out.trans (hb5'.mono (by omega))
                      obtain ⟨AT, cT, rfl, hcapT, hrT⟩ := own_slice hownT
                      have HrT := Lib.hid hrT
                      have HrN4 := Lib.hid (HrN.out.below hb5')
                      clear H4 hownT hb5' hrT HrN HB4
                      by_cases he4 : e4 = 0
                      · go_wp2_with fail
                        refine (H5 w5).out.mono ?_
                        rintro e w6 ⟨vV, rfl, hownV, hb6⟩
                        have hs6 := hb6.size
                        have HB : Hid (Below w.heap.size w w6) := HB5.out.trans (hb6.mono (by omega))
                        obtain ⟨AV, cV, rfl, hcapV, hrV⟩ := own_slice hownV
                        have HrV := Lib.hid hrV
                        have HrN5 := Lib.hid ((HrN4.out.below (hb6.mono hs5)).more (show w4.heap.size ≤ w6.heap.size by omega))
                        have HrT5 := Lib.hid ((HrT.out.below hb6).more (show w5.heap.size ≤ w6.heap.size by omega))
                        clear H5 hownV hb6 hrV HrN4 HrT HB5
                        simp only at HrN5 HrT5 HrV
                        by_cases he5 : e5 = 0
                        · by_cases hd : d = (bd.size : Int)
                          · have HQ := Lib.hid (CY4.out he3 he4 he5 hd)
                            have hlN := GL'.out he3
                            have hlT := GT'.out he4
                            have hlV := GV'.out he5
                            subst he3 he4 he5
                            subst hd
                            have HRn := Lib.hid (fun (h : Sg.riseB (Sg.zip n N T V) = false) => HCl'.out (by rw [HQ.out]; exact h))
                            have HRy := Lib.hid (fun (h : Sg.riseB (Sg.zip n N T V) = true) => (HGd'.out (by rw [HQ.out]; exact h)).trans (show _ = (x, Sg.zip n N T V, 0) by rw [HQ.out]))
                            have Hwz := Lib.hid (zip_wf (n := n) (N := N) HwT.out HwV.out)
                            have Hzz := Lib.hid (zip_size (n := n) (T := T) (V := V) HzN.out)
                            have l1 : n ≤ N.length := by omega
                            have l2 : n ≤ T.length := by omega
                            have l3 : n ≤ V.length := by omega
                            clear HwT HwV CY4 CN4 GL' GT' GV' hlN hlT hlV HQ HCl' HGd' HzN
                            go_wp2_with fail
                            go_loopw [21, 22] (fun vp i wr => ∃ k : Nat, k ≤ n ∧ i = .int .i64 (k : Int) ∧ Hid (wr.ownsRow w6.heap.size 88 3 vp k ((Sg.zip k N T V).flatMap pointCells)) ∧ Hid (Below w6.heap.size w6 wr)) (fun _ i _ => n - (intOf i).toNat)
                            case atStart => exact ⟨0, Nat.zero_le _, rfl, Lib.hid (own_nil _ _ _ _), Lib.hid (Below.refl _ _)⟩
                            case round =>
                              obtain ⟨k, hk, rfl, hown, hbw⟩ := hrel
                              have hsw := hbw.out.size
                              by_cases hlt : k < n
                              · have g1 : k < N.length := by omega
                                have g2 : k < T.length := by omega
                                have g3 : k < V.length := by omega
                                obtain ⟨bN, oN, rfl, hbN, hxN⟩ := HrN5.out.2 (by omega)
                                obtain ⟨bT, oT, rfl, hbT, hxT⟩ := HrT5.out.2 (by omega)
                                obtain ⟨bV, oV, rfl, hbV, hxV⟩ := HrV.out.2 (by omega)
                                have cN' := map_cell (wr := wr) (B := w6.heap.size) g1 hxN (fun p hp => hbw.out.cell hp) hbN
                                have cT' := map_cell (wr := wr) (B := w6.heap.size) g2 hxT (fun p hp => hbw.out.cell hp) hbT
                                have cV' := map_cell (wr := wr) (B := w6.heap.size) g3 hxV (fun p hp => hbw.out.cell hp) hbV
                                have Hz := Lib.hid (zip_snoc k N T V g1 g2 g3)
                                have nN := Ne.symm (own_ne_lt hown.out hbN)
                                have nT := Ne.symm (own_ne_lt hown.out hbT)
                                have nV := Ne.symm (own_ne_lt hown.out hbV)
                                have k0 : (0 : Int) ≤ (k : Int) := Int.natCast_nonneg _
                                have k1 : (k : Int) < (N.length : Int) := by omega
                                have k2 : (k : Int) < (T.length : Int) := by omega
                                have k3 : (k : Int) < (V.length : Int) := by omega
                                clear hxN hxT hxV HrN5 HrT5 HrV
                                go_wp2_with fail
                                have hm64 : k + 1 ≤ maxLen := by unfold maxLen; omega
                                go_region_held3 (fun w' => w'.cell? ⟨bN, oN + k, none⟩ = some (.string N[k]) ∧ w'.cell? ⟨bT, oT + k, none⟩ = some (.int .i64 T[k]) ∧ w'.cell? ⟨bV, oV + k, none⟩ = some (.int .i64 V[k]))
                                  (first
                                    | go_keep
                                    | (go_split_ands
                                       refine ⟨?_, ?_, ?_⟩
                                       · (rw [hgrow.cell_far _ (by simp; omega) nN]; assumption)
                                       · (rw [hgrow.cell_far _ (by simp; omega) nT]; assumption)
                                       · (rw [hgrow.cell_far _ (by simp; omega) nV]; assumption)))
                                  ((refine step_append_lies _ (by rfl) _ _ _ (by rfl) w6.heap.size 88 i0 _ 3 32 Try.underlying22 hi hz0 hz1 hz2 rfl (by omega) u21 k _ (by rfl) ((hown.out.alloc _).drew)
                                      ⟨wr.heap.size, 0, none⟩ 1 1 [.string N[k], .int .i64 T[k], .int .i64 V[k]] (by rfl) (by rfl) (World.news_of_block (cs := #[.string N[k], .int .i64 T[k], .int .i64 V[k]]) (t := 88) (fr := (0, 0)) (heap_alloc_new wr _)) (by simp [Value.oneCell'])
                                      (by omega) hm64 (by omega) (by simp; omega) (wr.heap.size + 1) (by simp) ?_; intro gg cap w1 hown1 hgrow hat hlt))
                                rename_i hlt0 _
                                have hbw1 : Hid (Below w6.heap.size w6 w1) := (((hbw.out.alloc hsw _).drew).grown hgrow (by simp; omega) (fun j hj => (own_lt hown.out hj).1))
                                have hown2 : Hid (w1.ownsRow w6.heap.size 88 3 (.slice (some ⟨gg, 0, none⟩) (k + 1) cap) (k + 1) ((Sg.zip (k + 1) N T V).flatMap pointCells)) := by
                                  rw [Hz.out, List.flatMap_append]; exact hown1
                                clear hown1 hgrow hat hown hbw Hz
                                go_wp2_with fail
                                go_roundw
                                case rel => exact ⟨k + 1, by omega, by go_num, hown2, hbw1⟩
                                case measure => simp [intOf]; omega
                              · have hkn : k = n := by omega
                                subst hkn
                                obtain ⟨AP, cP, rfl, hcapP, hrP⟩ := own_slice hown.out
                                have HM := Lib.hid (rrises_any AP cP (Sg.zip k N T V) wr wr.heap.size (by rw [zip_len]; exact hrP) (Nat.le_refl _) (by rw [zip_len]; omega) Hwz.out Hzz.out)
                                rw [zip_len] at HM
                                clear hrP Hwz Hzz
                                generalize hrb : Sg.riseB (Sg.zip k N T V) = ok at *
                                clear hrb
                                go_wp2_with fail
                                refine HM.out.mono ?_
                                rintro e w7 ⟨rfl, hb7⟩
                                have Hown7 := Lib.hid (own_only hown.out (Only.new (fun _ => False) hb7) (fun _ _ h => h))
                                have HB7 : Hid (Below w.heap.size w w7) := HB.out.trans ((hbw.out.trans (hb7.mono hsw)).mono (by omega))
                                clear hb7 HB
                                have HB := HB7
                                cases ok
                                · have HR := Lib.hid (HRn.out rfl)
                                  clear HRn HRy
                                  go_wp2_with fail
                                  go_ret3
                                  exact ⟨_, by rw [HR.out]; rfl, by rw [HR.out]; exact own_nil _ _ _ _, HB.out⟩
                                · have HR := Lib.hid (HRy.out rfl)
                                  clear HRn HRy
                                  go_wp2_with fail
                                  go_ret3
                                  exact ⟨_, by rw [HR.out]; rfl, by rw [HR.out]; simp only; rw [zip_len]; exact own_down Hown7.out (by omega), HB.out⟩
                          · have HR := Lib.hid (CN4.out (.inr (.inr (.inr hd))))
                            subst he3 he4 he5
                            clear CY4 CN4 GL' GT' GV' HwT HwV HCl' HGd'
                            go_wp2_with fail
                            go_ret3
                            exact ⟨_, by rw [HR.out]; rfl, by rw [HR.out]; exact own_nil _ _ _ _, HB.out⟩
                        · have HR := Lib.hid (CN4.out (.inr (.inr (.inl he5))))
                          subst he3 he4
                          clear CY4 CN4 GL' GT' GV' HwT HwV HCl' HGd'
                          go_wp2_with fail
                          go_ret3
                          exact ⟨_, by rw [HR.out]; rfl, by rw [HR.out]; exact own_nil _ _ _ _, HB.out⟩
                      · have HR := Lib.hid (CN4.out (.inr (.inl he4)))
                        have HB := HB5
                        subst he3
                        clear CY4 CN4 GL' GT' GV' HwT HwV HCl' HGd'
                        go_wp2_with fail
                        go_ret3
                        exact ⟨_, by rw [HR.out]; rfl, by rw [HR.out]; exact own_nil _ _ _ _, HB.out⟩
                    · have HR := Lib.hid (CN4.out (.inl he3))
                      have HB := HB4
                      clear CY4 CN4 GL' GT' GV' HwT HwV HCl' HGd'
                      go_wp2_with fail
                      go_ret3
                      exact ⟨_, by rw [HR.out]; rfl, by rw [HR.out]; exact own_nil _ _ _ _, HB.out⟩
              · have HR := Lib.hid (HB2.out (.inl he2))
                clear HB2 Gd2 HNo HCl' HGd'
                go_wp2_with fail
                go_ret3
                exact ⟨_, by rw [HR.out]; rfl, by rw [HR.out]; exact own_nil _ _ _ _, HB.out⟩
        · clear B2 Gd
          have HR := Lib.hid (HNo.out (B1 rfl (.inl he1)))
          clear B1 HNo HCl' HGd'
          go_wp2_with fail
          refine (G1 _).out.mono ?_
          rintro e w' ⟨rfl, rfl⟩
          clear G1
          go_wp2_with fail
          go_ret3
          exact ⟨_, by rw [HR.out]; rfl, by rw [HR.out]; exact own_nil _ _ _ _, HB.out⟩
      · have hme : ((bd.extract 0 4).toList == [83, 69, 71, 49]) = false := mark_ne hmk
        have hme2 : ((bd.extract 0 4).toList == (⟨#[83, 69, 71, 49]⟩ : ByteArray).toList) = false := str_ne_of (b := Sg.mark) hmk
        have HR := Lib.hid (HNo.out (rc_mark hmk))
        clear HNo HCl' HGd' hmk
        go_wp2_with fail
        go_ret3
        exact ⟨_, by rw [HR.out]; rfl, by rw [HR.out]; exact own_nil _ _ _ _, HB.out⟩
    · have hz : (TB.toList == (s.extract m (m + 8)).toList) = false := str_ne_of htl
      have HR := Lib.hid (HTl.out htl)
      clear htl HTl HCl HGd
      refine wp_region_aft w.heap.size w (by kernel_rfl) (by kernel_rfl) (Below.refl _ _) ?_
      repeat (go_big_quiet_step (first | (go_at_call 48; with_reducible exact aft_same (Hid.out (HH _))) | (go_at_call 66; with_reducible exact aft_new (Nat.le_refl _) (Hid.out (HT _)))))
      refine wpQuiet_nil ?_
      rintro _ ⟨x, rfl⟩
      have HB := Lib.hid x.below
      generalize x.world = w3 at *
      go_wp2_with fail
      go_ret3
      exact ⟨_, by rw [HR.out]; rfl, by rw [HR.out]; exact own_nil _ _ _ _, HB.out⟩
end Go.Proofs.Ytapdlmiioljpgaa
