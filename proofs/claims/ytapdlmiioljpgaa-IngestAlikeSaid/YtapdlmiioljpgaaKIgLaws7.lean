/- The walk through the law IngestAlike (chapter 11). -/
import Derived.Test.YtapdlmiioljpgaaK12
import Derived.Test.YtapdlmiioljpgaaKIgTwo
import Derived.Test.YtapdlmiioljpgaaKSameSums
import Derived.Test.YtapdlmiioljpgaaK3
import Derived.Test.YtapdlmiioljpgaaKEnt
import Derived.Test.YtapdlmiioljpgaaKIgLaws3
import Derived.Test.YtapdlmiioljpgaaK9
import Derived.Deep.DeepCutAuto
import Derived.Deep.RegionHeld3
namespace Go.Proofs.Ytapdlmiioljpgaa
open Go.RowKit
set_option linter.unusedVariables false

theorem Ig.inv_withS {m : Ig.M} (h : Ig.Inv m) {s : List (Int × ByteArray)} (hs : s.length = m.digs.length) : Ig.Inv (Ig.withS m s) :=
  ⟨h.at0, h.at1, h.sorted, h.many, h.pts, h.rows, h.dl, h.dr, by have := h.dl; show (s.length : Int) ≤ m.at_ / 8; omega⟩
set_option maxRecDepth 100000 in
set_option maxHeartbeats 4000000 in
theorem ingestAlike_walk {w : World} (A0 : Option Addr) (c0 : Nat) (z0 : List Ent) (rd0 : Reads w w.heap.size 5 A0 z0.length (z0.flatMap entCells)) (wf0 : ∀ q ∈ z0, EntOk w q) (nb0 : z0.length * 56 ≤ 140737488351232) (sb0 : ∀ q ∈ z0, q.2.2.2.length * 32 ≤ 140737488351232) :
    Calls Try.prog 8 #[.slice A0 z0.length c0] w fun e w' => e = .returned (.bool true) ∧ Below w.heap.size w w' := by
  have HC0 := Lib.hid (ent_cells rd0)
  have HE0 := Lib.hid (fun (j : Nat) (hj : j < z0.length) => And.intro (ent_pts (wf0 z0[j] (List.getElem_mem hj))) (sb0 z0[j] (List.getElem_mem hj)))
  clear rd0 wf0 sb0
  go_enter Try.func8, Try.ntmps8
  go_wp2_with fail
  refine (awake11 _).mono ?_
  rintro e w1 ⟨rfl, hb1⟩
  have Hb1 := Lib.hid hb1
  have hs1 := hb1.size
  clear hb1
  go_wp2_with fail
  refine (newX w1).mono ?_
  rintro e w2 ⟨rfl, hm2, hb2⟩
  have HM2 := Lib.hid hm2
  have Hb2 := Lib.hid hb2
  have hs2 := hb2.size
  clear hm2 hb2
  go_wp2_with fail
  refine (newX w2).mono ?_
  rintro e w3 ⟨rfl, hm3, hb3⟩
  have HT3 := Lib.hid (twoNew HM2.out Hb2.out hm3 hb3)
  have Hb3 : Hid (Below w1.heap.size w1 w3) := Hb2.out.trans (hb3.mono hs2)
  clear hm3 hb3 HM2 Hb2
  go_wp2_with fail
  go_loopw [4, 5, 6, 7, 8, 9, 10, 11, 12, 13, 14, 15, 16] (fun b sl i _ _ _ _ _ _ _ _ _ _ wr => ∃ (j : Nat) (m : Ig.M) (sa : List (Int × ByteArray)) (gb : Nat), j ≤ 80 ∧ i = .int .i64 (j : Int) ∧ sl = .int .i64 (sa.length : Int) ∧ b = .pointer (some ⟨gb, 0, none⟩) ∧ Hid (Two wr w1.heap.size w1.heap.size (Ig.withS m sa) gb m) ∧ Hid (Ig.Inv m) ∧ Hid (Ig.Fit m) ∧ Hid (m.seals = []) ∧ Hid (sa.length = m.digs.length) ∧ Hid (m.at_ = (j : Int)) ∧ Hid (Below w1.heap.size w1 wr)) (fun _ _ i _ _ _ _ _ _ _ _ _ _ _ => 80 - (intOf i).toNat)
  case atStart => exact ⟨0, Ig.m0, [], w2.heap.size, by omega, rfl, rfl, rfl, HT3, Ig.inv0, Lib.hid (by show Ig.m0.rows.all Se.fitsB = true; rfl), Lib.hid rfl, Lib.hid rfl, Lib.hid rfl, Hb3⟩
  case round =>
    obtain ⟨j, m, sa, gb, hj, rfl, rfl, rfl, hT, hI, hf, hse, hsl, hat, hbw⟩ := hrel
    have hsw := hbw.out.size
    by_cases hlt : j < z0.length ∧ j < 80
    · obtain ⟨hl1, hl2⟩ := hlt
      have hd1 : decide (j < z0.length) = true := decide_eq_true hl1
      have hd2 : decide ((j : Int) < 80) = true := decide_eq_true (by omega)
      have hd3 : decide ((j : Int) < (z0.length : Int)) = true := decide_eq_true (by omega)
      obtain ⟨bd, off, rfl, hbd, x0, x1, x2, x3, x4⟩ := HC0.out j hl1
      have hkp : ∀ i, wr.cell? ⟨bd, off + j * 5 + i, none⟩ = w.cell? ⟨bd, off + j * 5 + i, none⟩ := fun i => (hbw.out.cell (p := ⟨bd, off + j * 5 + i, none⟩) (by show bd < _; omega)).trans (Hb1.out.cell (p := ⟨bd, off + j * 5 + i, none⟩) hbd)
      obtain ⟨⟨hrp, hwp⟩, hnp⟩ := HE0.out j hl1
      have HKp := Lib.hid hkp
      clear hkp HC0 HE0
      generalize z0[j] = q at *
      obtain ⟨⟨v, c, s, n⟩, EA, ec, bs⟩ := q
      simp only at x0 x1 x2 x3 x4 hrp hwp hnp
      have y0 := (HKp.out 0).trans x0
      have y1 := (HKp.out 1).trans x1
      have y2 := (HKp.out 2).trans x2
      have y3 := (HKp.out 3).trans x3
      have y4 := (HKp.out 4).trans x4
      rw [Nat.add_zero] at y0
      have hat1 : m.at_ < 4096 := by have := hat.out; omega
      have hAb : 0 < bs.length → ∀ b off, EA = some ⟨b, off, none⟩ → b < w1.heap.size := fun h0 b off e => by
        obtain ⟨b', off', e', hb', _⟩ := hrp.2 h0
        rw [e] at e'; injection e' with e'; injection e' with e' _ _
        omega
      have HAw := Lib.hid (Ig.apply_withS m sa v c s n bs hse.out)
      have HIn := Lib.hid (Ig.inv_apply hI.out v c s n bs)
      have HFt := Lib.hid (Ig.fit_apply hI.out hf.out v c s n bs)
      have HAt : Hid ((Ig.applyM m v c s n bs).1.at_ = ((j + 1 : Nat) : Int)) := by
        show _ = _
        rw [Ig.at_apply _ _ _ _ _ hat1, hat.out]; omega
      have hrw : Reads wr wr.heap.size 3 EA bs.length (bs.flatMap pointCells) := ((hrp.below Hb1.out).below (hbw.out.mono hs1)).more (by omega)
      have HA := Lib.hid (applyT hT.out (Ig.inv_withS hI.out hsl.out) v c s n EA ec bs hrw hwp (by omega) hAb hsw)
      rw [HAw.out] at HA
      have h8c : (¬ (Ig.applyM m v c s n bs).1.at_ % 8 = 0 ∧ (Ig.applyM m v c s n bs).1.seals = [] ∧ (Ig.applyM m v c s n bs).1.digs = m.digs) ∨ ((Ig.applyM m v c s n bs).1.at_ % 8 = 0 ∧ ∃ r S, (Ig.applyM m v c s n bs).1.seals = [(r, S)] ∧ (Ig.applyM m v c s n bs).1.digs = m.digs ++ [(Sm.hashL S.data.toList : Int)] ∧ (Ig.applyM m v c s n bs).1.opn = [] ∧ S.size ≤ maxLen) := by
        rw [Ig.at_apply v c s n bs hat1]
        by_cases h8 : (m.at_ + 1) % 8 = 0
        · exact .inr ⟨h8, Ig.apply_sealed v c s n bs hse.out hat1 h8⟩
        · exact .inl ⟨h8, Ig.apply_noseal v c s n bs hse.out hat1 h8⟩
      have H8c := Lib.hid h8c
      have HIm := Lib.hid hI.out
      have HRp := Lib.hid hrp
      have HAb := Lib.hid hAb
      have Hwp := Lib.hid hwp
      clear HAw hrp hAb hwp h8c hrw
      have hqn : ((Ig.applyM m v c s n bs).2.1 != (Ig.applyM m v c s n bs).2.1) = false := by simp
      have hqn2 : ((Ig.applyM m v c s n bs).2.2 != (Ig.applyM m v c s n bs).2.2) = false := by simp
      generalize hqq : Ig.applyM m v c s n bs = qq at *
      have Hqq := Lib.hid hqq
      clear hqq
      obtain ⟨m2, v2, c2⟩ := qq
      simp only at HIn HFt HAt hqn hqn2 H8c
      go_wp2_with fail
      refine HA.out.mono ?_
      rintro e w5 ⟨rfl, hT5, hb5⟩
      have HT5 := Lib.hid hT5.symm
      have Hb5 : Hid (Below w1.heap.size w1 w5) := hbw.out.trans hb5
      have hs5 := Hb5.out.size
      have hkp5 : ∀ i, w5.cell? ⟨bd, off + j * 5 + i, none⟩ = w.cell? ⟨bd, off + j * 5 + i, none⟩ := fun i => (Hb5.out.cell (p := ⟨bd, off + j * 5 + i, none⟩) (by show bd < _; omega)).trans (Hb1.out.cell (p := ⟨bd, off + j * 5 + i, none⟩) hbd)
      have u0 := (hkp5 0).trans x0
      have u1 := (hkp5 1).trans x1
      have u2 := (hkp5 2).trans x2
      have u3 := (hkp5 3).trans x3
      have u4 := (hkp5 4).trans x4
      rw [Nat.add_zero] at u0
      have HB := Lib.hid (applyT HT5.out HIm.out v c s n EA ec bs (((HRp.out.below Hb1.out).below (Hb5.out.mono hs1)).more (by omega)) Hwp.out (by omega) HAb.out hs5)
      rw [Hqq.out] at HB
      clear hkp5 hT5 hb5 hT HA hbw y0 y1 y2 y3 y4 hI hf hat hat1 hsw HT5
      try simp only
      go_wp2_with fail
      refine HB.out.mono ?_
      rintro e w6 ⟨rfl, hT6, hb6⟩
      have HT6 := Lib.hid hT6.symm
      have Hb6 : Hid (Below w1.heap.size w1 w6) := Hb5.out.trans hb6
      have hs6 := Hb6.out.size
      clear hT6 hb6 HB Hb5 hs5 u0 u1 u2 u3 u4 x0 x1 x2 x3 x4
      have HT6' : Hid (Two w6 w1.heap.size w1.heap.size (Ig.withS m2 (sa ++ m2.seals)) gb m2) := HT6.out
      clear HT6
      have HIm2 : Hid (Ig.Inv m2) := HIn.out
      have hrl := Se.may_len HIm2.out.rows
      have hol := Ig.inv_len HIm2.out
      have hdl : m2.digs.length ≤ 512 := by have := HIm2.out.dl; have := HIm2.out.at1; omega
      have hsal : sa.length ≤ 512 := by have h1 := hsl.out; have h2 := HIm.out.dl; have h3 := HIm.out.at1; omega
      have hsel : m2.seals.length ≤ 512 := by have h1 := HIm2.out.sl; have h2 := HIm2.out.at1; omega
      have hatn : (m2.at_ != m2.at_) = false := by simp
      have hat20 := HIm2.out.at0
      have GA := fun W (hb : Below w6.heap.size w6 W) => (HT6'.out.below hb).fst
      have GB := fun W (hb : Below w6.heap.size w6 W) => (HT6'.out.below hb).snd
      have KAt := fun W hb => Lib.hid (atX (GA W hb))
      have KBt := fun W hb => Lib.hid (atX (GB W hb))
      have KAo := fun W hb => Lib.hid (openX (GA W hb) (by show m2.opn.length ≤ _; omega))
      have KBo := fun W hb => Lib.hid (openX (GB W hb) (by omega))
      have KAd := fun W hb => Lib.hid (digsX (GA W hb) (by show m2.digs.length ≤ _; omega))
      have KBd := fun W hb => Lib.hid (digsX (GB W hb) (by omega))
      have KAr := fun W hb => Lib.hid (rowsX (GA W hb) (by show m2.rows.length ≤ _; omega))
      have KBr := fun W hb => Lib.hid (rowsX (GB W hb) (by omega))
      have KAs := fun W hb => Lib.hid (sealsX (GA W hb) (by show (sa ++ m2.seals).length ≤ _; rw [List.length_append]; omega))
      have KBs := fun W hb => Lib.hid (sealsX (GB W hb) (by omega))
      clear GA GB
      try simp only
      go_wp2_with fail
      refine (KAt _ (Below.refl _ _)).out.mono ?_
      rintro e w' ⟨rfl, rfl⟩
      try simp only [Ig.withS]
      go_wp2_with fail
      refine (KBt _ (Below.refl _ _)).out.mono ?_
      rintro e w' ⟨rfl, rfl⟩
      go_wp2_with fail
      refine (KAo _ (Below.refl _ _)).out.mono ?_
      rintro e w7 ⟨v7, rfl, hown7, hb7⟩
      obtain ⟨A7, c7, rfl, _, hr7⟩ := own_slice hown7
      have Hr7 : Hid (Reads w7 w7.heap.size 3 A7 m2.opn.length (m2.opn.flatMap pointCells)) := hr7
      have Hb7 := Lib.hid hb7
      clear hown7 hb7 hr7
      try simp only [Ig.withS]
      go_wp2_with fail
      refine (KBo _ Hb7.out).out.mono ?_
      rintro e w8 ⟨v8, rfl, hown8, hb8⟩
      obtain ⟨A8, c8, rfl, _, hr8⟩ := own_slice hown8
      have Hr8 := Lib.hid hr8
      have Hr7' := Lib.hid (Hr7.out.below hb8)
      have Hb8 : Hid (Below w6.heap.size w6 w8) := Hb7.out.trans (hb8.mono Hb7.out.size)
      clear hown8 hb8 hr8 Hr7 Hb7
      go_wp2_with fail
      refine (samePoints_true A7 A8 c7 c8 m2.opn _ _ _ Hr7'.out Hr8.out (by omega)).mono ?_
      rintro e w9 ⟨rfl, n9, rfl⟩
      have Hb9 : Hid (Below w6.heap.size w6 (w8.drewN n9)) := below_drewN Hb8.out n9
      clear Hr7' Hr8 Hb8
      generalize w8.drewN n9 = w9 at *
      go_wp2_with fail
      refine (KAd _ Hb9.out).out.mono ?_
      rintro e w10 ⟨v10, rfl, hown10, hb10⟩
      obtain ⟨A10, c10, rfl, _, hr10⟩ := own_slice hown10
      have Hr10 : Hid (Reads w10 w10.heap.size 1 A10 m2.digs.length (m2.digs.map (Value.int .u64))) := by rw [← digs_map]; exact hr10
      have Hb10 : Hid (Below w6.heap.size w6 w10) := Hb9.out.trans (hb10.mono Hb9.out.size)
      clear hown10 hb10 hr10 Hb9
      try simp only [Ig.withS]
      go_wp2_with fail
      refine (KBd _ Hb10.out).out.mono ?_
      rintro e w11 ⟨v11, rfl, hown11, hb11⟩
      obtain ⟨A11, c11, rfl, _, hr11⟩ := own_slice hown11
      have Hr11 : Hid (Reads w11 w11.heap.size 1 A11 m2.digs.length (m2.digs.map (Value.int .u64))) := by rw [← digs_map]; exact hr11
      have Hr10' := Lib.hid (Hr10.out.below hb11)
      have Hb11 : Hid (Below w6.heap.size w6 w11) := Hb10.out.trans (hb11.mono Hb10.out.size)
      clear hown11 hb11 hr11 Hr10 Hb10
      go_wp2_with fail
      refine (sameSums_true A10 A11 c10 c11 m2.digs _ _ _ Hr10'.out Hr11.out (by omega)).mono ?_
      rintro e w12 ⟨rfl, n12, rfl⟩
      have Hb12 : Hid (Below w6.heap.size w6 (w11.drewN n12)) := below_drewN Hb11.out n12
      clear Hr10' Hr11 Hb11
      generalize w11.drewN n12 = w12 at *
      go_wp2_with fail
      refine (KAr _ Hb12.out).out.mono ?_
      rintro e w13 ⟨v13, rfl, hown13, hb13⟩
      obtain ⟨A13, c13, rfl, _, hr13⟩ := own_slice hown13
      have Hr13 : Hid (Reads w13 w13.heap.size 4 A13 m2.rows.length (m2.rows.flatMap rowCells)) := hr13
      have Hb13 : Hid (Below w6.heap.size w6 w13) := Hb12.out.trans (hb13.mono Hb12.out.size)
      clear hown13 hb13 hr13 Hb12
      try simp only [Ig.withS]
      go_wp2_with fail
      refine (KBr _ Hb13.out).out.mono ?_
      rintro e w14 ⟨v14, rfl, hown14, hb14⟩
      obtain ⟨A14, c14, rfl, _, hr14⟩ := own_slice hown14
      have Hr14 := Lib.hid hr14
      have Hr13' := Lib.hid (Hr13.out.below hb14)
      have Hb14 : Hid (Below w6.heap.size w6 w14) := Hb13.out.trans (hb14.mono Hb13.out.size)
      clear hown14 hb14 hr14 Hr13 Hb13
      go_wp2_with fail
      refine (sameRows_true A13 A14 c13 c14 m2.rows _ _ _ Hr13'.out Hr14.out (by omega)).mono ?_
      rintro e w15 ⟨rfl, n15, rfl⟩
      have Hb15 : Hid (Below w6.heap.size w6 (w14.drewN n15)) := below_drewN Hb14.out n15
      clear Hr13' Hr14 Hb14
      generalize w14.drewN n15 = w15 at *
      have Hbw15 : Hid (Below w1.heap.size w1 w15) := Hb6.out.trans (Hb15.out.mono hs6)
      have HT15 := Lib.hid (HT6'.out.below Hb15.out)
      have HSl := Lib.hid hsl.out
      have GA := fun W (hb : Below w6.heap.size w6 W) => (HT6'.out.below hb)
      rcases H8c.out with ⟨h8, hs0, hd0⟩ | ⟨h8, r, S, hs0, hd0, ho0, hS⟩
      · have h8b : (m2.at_ % 8 != 0) = true := by simpa using h8
        have Hs0 := Lib.hid hs0
        have Hd0 := Lib.hid hd0
        have HTf : Hid (Two w15 w1.heap.size w1.heap.size (Ig.withS m2 sa) gb m2) := by
          have := HT15.out
          rw [hs0, List.append_nil] at this
          exact this
        have HLf : Hid (sa.length = m2.digs.length) := by show _ = _; rw [hd0]; exact HSl.out
        clear h8 hs0 hd0 H8c GA KAo KBo KAd KBd KAr KBr KAs KBs KBt HT6'
        go_wp2_with fail
        refine (KAt _ Hb15.out).out.mono ?_
        rintro e w' ⟨rfl, rfl⟩
        clear KAt
        try simp only [Ig.withS]
        go_wp2_with fail
        go_roundw
        case rel => exact ⟨j + 1, m2, sa, gb, by omega, by go_num, rfl, rfl, HTf, HIm2, HFt, Hs0, HLf, HAt, Hbw15⟩
        case measure => simp [intOf]; omega
      · have h8b : (m2.at_ % 8 != 0) = false := by simpa using h8
        have hla : (Ig.withS m2 (sa ++ m2.seals)).seals.length = sa.length + 1 := by show (sa ++ m2.seals).length = _; rw [hs0, List.length_append]; rfl
        have hlb : m2.seals.length = 1 := by rw [hs0]; rfl
        have hld : m2.digs.length = sa.length + 1 := by rw [hd0, List.length_append, HSl.out]; rfl
        have hdg : m2.digs[sa.length]? = some (Sm.hashL S.data.toList : Int) := by rw [hd0, HSl.out]; simp
        have HS := Lib.hid (snapX (GA w6 (Below.refl _ _)).snd HIm2.out)
        have KSn := fun W (hb : Below w6.heap.size w6 W) => Lib.hid (snapX (GA W hb).snd HIm2.out)
        rw [Ig.snap_yes (by omega)] at KSn
        have hsl2 := snapL_len m2
        have KLd := fun W => Lib.hid (load_any ⟨(Ig.snapL m2).toArray⟩ W (by rw [← Wr.len_list]; show (Ig.snapL m2).length ≤ _; omega))
        rw [Ig.load_snap HIm2.out HFt.out h8] at KLd
        have KHs := fun W => Lib.hid (rhash_any S W hS)
        have g1 : ((1 : Int) != 1) = false := by decide
        have g2 : (((sa.length + 1 : Nat) : Int) != (sa.length : Int) + 1) = false := by simp
        have g3 : ((m2.digs.length : Int) != (sa.length : Int) + 1) = false := by rw [hld]; simp
        have g4 : (sa.length : Int) < (m2.digs.length : Int) := by rw [hld]; omega
        have g5 : (0 : Int) ≤ (sa.length : Int) := by omega
        have g7 : (sa.length : Int) < (sa.length : Int) + 1 := by omega
        have g8 : (sa.length : Int) < ((sa.length + 1 : Nat) : Int) := by omega
        have g9 : IntKind.i64.wrap ((sa.length : Int) + 1) = (sa.length : Int) + 1 := IntWalk.i64_in _ (by omega)
        have g6 : ((Sm.hashL S.data.toList : Int) != (Sm.hashL S.data.toList : Int)) = false := by simp
        have HLa := Lib.hid hla
        have HLb := Lib.hid hlb
        have HLd := Lib.hid hld
        have HDg := Lib.hid hdg
        have Hs0 := Lib.hid hs0
        have Ho0 := Lib.hid ho0
        have H8 := Lib.hid h8
        clear h8 hs0 hd0 ho0 hla hlb hld hdg H8c KAo KBo KBd KAr KBr KBt HS hsl2
        generalize (Sm.hashL S.data.toList : Int) = HX at *
        go_wp2_with fail
        refine (KAt _ Hb15.out).out.mono ?_
        rintro e w' ⟨rfl, rfl⟩
        clear KAt
        try simp only [Ig.withS]
        go_wp2_with fail
        refine (KAs _ Hb15.out).out.mono ?_
        rintro e w16 ⟨v16, rfl, hown16, hb16⟩
        obtain ⟨A16, c16, rfl, _, hr16⟩ := own_slice hown16
        rw [HLa.out] at hr16
        rw [HLa.out]
        have Hr16 : Hid (Reads w16 w16.heap.size 2 A16 (sa.length + 1) ((sa ++ [(r, S)]).flatMap fileCells)) := by rw [← Hs0.out]; exact hr16
        have Hb16 : Hid (Below w6.heap.size w6 w16) := Hb15.out.trans (hb16.mono Hb15.out.size)
        clear hown16 hb16 hr16 KAs
        go_wp2_with fail
        refine (KBs _ Hb16.out).out.mono ?_
        rintro e w17 ⟨v17, rfl, hown17, hb17⟩
        obtain ⟨A17, c17, rfl, _, hr17⟩ := own_slice hown17
        rw [HLb.out] at hr17
        rw [HLb.out]
        have Hr17 : Hid (Reads w17 w17.heap.size 2 A17 1 ([(r, S)].flatMap fileCells)) := by rw [← Hs0.out]; exact hr17
        have Hr16' := Lib.hid (Hr16.out.below hb17)
        have Hb17 : Hid (Below w6.heap.size w6 w17) := Hb16.out.trans (hb17.mono Hb16.out.size)
        have hs17 := Hb17.out.size
        have hs1617 := hb17.size
        clear hown17 hb17 hr17 KBs Hr16 Hb16
        obtain ⟨bx, ox, rfl, hbx, hcx⟩ := Hr16'.out.2 (by omega)
        obtain ⟨bY, oY, rfl, hbY, hcY⟩ := Hr17.out.2 (by omega)
        have X0 : w17.cell? ⟨bx, ox + sa.length * 2, none⟩ = some (.int .i64 r) := hcx (sa.length * 2 + 0) _ (by rw [flat_at fileCells 2 (fun _ => rfl) _ sa.length 0 (by simp) (by omega)]; simp [fileCells])
        have X1 : w17.cell? ⟨bx, ox + sa.length * 2 + 1, none⟩ = some (.string S) := hcx (sa.length * 2 + 1) _ (by rw [flat_at fileCells 2 (fun _ => rfl) _ sa.length 1 (by simp) (by omega)]; simp [fileCells])
        have Y0 : w17.cell? ⟨bY, oY, none⟩ = some (.int .i64 r) := hcY 0 _ rfl
        have Y1 : w17.cell? ⟨bY, oY + 1, none⟩ = some (.string S) := hcY 1 _ rfl
        clear hcx hcY Hr16' Hr17
        go_upto_region 14 with fail
        go_cut [136] (fun cx wx => cx = .bool false ∧ Hid (Below w6.heap.size w6 wx))
        case first =>
          have KAd' : ∀ W, Below w6.heap.size w6 W → Hid (Calls Try.prog 45 #[.pointer (some ⟨w1.heap.size, 0, none⟩)] W (OwnDPost W m2.digs)) := KAd
          clear KAd
          have K1 := Lib.hid (KAd' w17.drew Hb17.out.drew).out
          have X0' : w17.drew.cell? ⟨bx, ox + sa.length * 2, none⟩ = some (.int .i64 r) := X0
          have X1' : w17.drew.cell? ⟨bx, ox + sa.length * 2 + 1, none⟩ = some (.string S) := X1
          have Y0' : w17.drew.cell? ⟨bY, oY, none⟩ = some (.int .i64 r) := Y0
          have Y1' : w17.drew.cell? ⟨bY, oY + 1, none⟩ = some (.string S) := Y1
          have sz67 : w16.heap.size ≤ w17.heap.size := hs1617
          refine wp_region_noPanic ?_
          refine wp_region_held_drew (S := (fun W' => W'.cell? ⟨bx, ox + sa.length * 2, none⟩ = some (.int .i64 r) ∧ W'.cell? ⟨bx, ox + sa.length * 2 + 1, none⟩ = some (.string S) ∧ W'.cell? ⟨bY, oY, none⟩ = some (.int .i64 r) ∧ W'.cell? ⟨bY, oY + 1, none⟩ = some (.string S))) (by kernel_rfl) ?_ (fun hHeld => ?_)
          · exact ⟨X0', X1', Y0', Y1'⟩
          ((refine wpAnyH_take (i := 0) (oi := ⟨some 96, _, _, _, _, _⟩) (v := ?_) rfl (by kernel_rfl) (by kernel_rfl) (by kernel_rfl) (fun _ _ _ h => h) (Or.inl ⟨by rfl, ?_⟩) (by assumption) ?_); rotate_left 1; (intro w hSw; (try dsimp only at hSw); go_simp; (try with_reducible rfl)); (try simp only [Act.put, List.setIfInBounds_toArray, List.set_cons_zero, List.set_cons_succ]))
          ((refine wpAnyH_take (i := 1) (oi := ⟨some 97, _, _, _, _, _⟩) (v := ?_) rfl (by kernel_rfl) (by kernel_rfl) (by kernel_rfl) (fun _ _ _ h => h) (Or.inl ⟨by rfl, ?_⟩) (by assumption) ?_); rotate_left 1; (intro w hSw; (try dsimp only at hSw); go_simp; (try with_reducible rfl)); (try simp only [Act.put, List.setIfInBounds_toArray, List.set_cons_zero, List.set_cons_succ]))
          ((refine wpAnyH_take (i := 2) (oi := ⟨some 98, _, _, _, _, _⟩) (v := ?_) rfl (by kernel_rfl) (by kernel_rfl) (by kernel_rfl) (fun _ _ _ h => h) (Or.inl ⟨by rfl, ?_⟩) (by assumption) ?_); rotate_left 1; (intro w hSw; (try dsimp only at hSw); go_simp; (try with_reducible rfl)); (try simp only [Act.put, List.setIfInBounds_toArray, List.set_cons_zero, List.set_cons_succ]))
          ((refine wpAnyH_take (i := 3) (oi := ⟨some 99, _, _, _, _, _⟩) (v := ?_) rfl (by kernel_rfl) (by kernel_rfl) (by kernel_rfl) (fun _ _ _ h => h) (Or.inl ⟨by rfl, ?_⟩) (by assumption) ?_); rotate_left 1; (intro w hSw; (try dsimp only at hSw); go_simp; (try with_reducible rfl)); (try simp only [Act.put, List.setIfInBounds_toArray, List.set_cons_zero, List.set_cons_succ]))
          ((refine wpAnyH_take (i := 4) (oi := ⟨some 100, _, _, _, _, _⟩) (v := ?_) rfl (by kernel_rfl) (by kernel_rfl) (by kernel_rfl) (fun _ _ _ h => h) (Or.inl ⟨by rfl, ?_⟩) (by assumption) ?_); rotate_left 1; (intro w hSw; (try dsimp only at hSw); go_simp; (try with_reducible rfl)); (try simp only [Act.put, List.setIfInBounds_toArray, List.set_cons_zero, List.set_cons_succ]))
          ((refine wpAnyH_take (i := 5) (oi := ⟨some 101, _, _, _, _, _⟩) (v := ?_) rfl (by kernel_rfl) (by kernel_rfl) (by kernel_rfl) (fun _ _ _ h => h) (Or.inl ⟨by rfl, ?_⟩) (by assumption) ?_); rotate_left 1; (intro w hSw; (try dsimp only at hSw); go_simp; (try with_reducible rfl)); (try simp only [Act.put, List.setIfInBounds_toArray, List.set_cons_zero, List.set_cons_succ]))
          ((refine wpAnyH_take (i := 6) (oi := ⟨some 102, _, _, _, _, _⟩) (v := ?_) rfl (by kernel_rfl) (by kernel_rfl) (by kernel_rfl) (fun _ _ _ h => h) (Or.inl ⟨by rfl, ?_⟩) (by assumption) ?_); rotate_left 1; (intro w hSw; (try dsimp only at hSw); go_simp; (try with_reducible rfl)); (try simp only [Act.put, List.setIfInBounds_toArray, List.set_cons_zero, List.set_cons_succ]))
          ((refine wpAnyH_take (i := 7) (oi := ⟨some 103, _, _, _, _, _⟩) (v := ?_) rfl (by kernel_rfl) (by kernel_rfl) (by kernel_rfl) (fun _ _ _ h => h) (Or.inl ⟨by rfl, ?_⟩) (by assumption) ?_); rotate_left 1; (intro w hSw; (try dsimp only at hSw); go_simp; (try with_reducible rfl)); (try simp only [Act.put, List.setIfInBounds_toArray, List.set_cons_zero, List.set_cons_succ]))
          ((refine wpAnyH_take (i := 8) (oi := ⟨some 104, _, _, _, _, _⟩) (v := ?_) rfl (by kernel_rfl) (by kernel_rfl) (by kernel_rfl) (fun _ _ _ h => h) (Or.inl ⟨by rfl, ?_⟩) (by assumption) ?_); rotate_left 1; (intro w hSw; (try dsimp only at hSw); go_simp; (try with_reducible rfl)); (try simp only [Act.put, List.setIfInBounds_toArray, List.set_cons_zero, List.set_cons_succ]))
          ((refine wpAnyH_take (i := 9) (oi := ⟨some 105, _, _, _, _, _⟩) (v := ?_) rfl (by kernel_rfl) (by kernel_rfl) (by kernel_rfl) (fun _ _ _ h => h) (Or.inl ⟨by rfl, ?_⟩) (by assumption) ?_); rotate_left 1; (intro w hSw; (try dsimp only at hSw); go_simp; (try with_reducible rfl)); (try simp only [Act.put, List.setIfInBounds_toArray, List.set_cons_zero, List.set_cons_succ]))
          ((refine wpAnyH_take (i := 10) (oi := ⟨some 106, _, _, _, _, _⟩) (v := ?_) rfl (by kernel_rfl) (by kernel_rfl) (by kernel_rfl) (fun _ _ _ h => h) (Or.inl ⟨by rfl, ?_⟩) (by assumption) ?_); rotate_left 1; (intro w hSw; (try dsimp only at hSw); go_simp; (try with_reducible rfl)); (try simp only [Act.put, List.setIfInBounds_toArray, List.set_cons_zero, List.set_cons_succ]))
          ((refine wpAnyH_take (i := 11) (oi := ⟨some 107, _, _, _, _, _⟩) (v := ?_) rfl (by kernel_rfl) (by kernel_rfl) (by kernel_rfl) (fun _ _ _ h => h) (Or.inl ⟨by rfl, ?_⟩) (by assumption) ?_); rotate_left 1; (intro w hSw; (try dsimp only at hSw); go_simp; (try with_reducible rfl)); (try simp only [Act.put, List.setIfInBounds_toArray, List.set_cons_zero, List.set_cons_succ]))
          ((refine wpAnyH_take (i := 12) (oi := ⟨some 108, _, _, _, _, _⟩) (v := ?_) rfl (by kernel_rfl) (by kernel_rfl) (by kernel_rfl) (fun _ _ _ h => h) (Or.inl ⟨by rfl, ?_⟩) (by assumption) ?_); rotate_left 1; (intro w hSw; (try dsimp only at hSw); go_simp; (try with_reducible rfl)); (try simp only [Act.put, List.setIfInBounds_toArray, List.set_cons_zero, List.set_cons_succ]))
          ((refine wpAnyH_take (i := 13) (oi := ⟨some 109, _, _, _, _, _⟩) (v := ?_) rfl (by kernel_rfl) (by kernel_rfl) (by kernel_rfl) (fun _ _ _ h => h) (Or.inl ⟨by rfl, ?_⟩) (by assumption) ?_); rotate_left 1; (intro w hSw; (try dsimp only at hSw); go_simp; (try with_reducible rfl)); (try simp only [Act.put, List.setIfInBounds_toArray, List.set_cons_zero, List.set_cons_succ]))
          ((refine wpAnyH_take (i := 14) (oi := ⟨some 110, _, _, _, _, _⟩) (v := ?_) rfl (by kernel_rfl) (by kernel_rfl) (by kernel_rfl) (fun _ _ _ h => h) (Or.inl ⟨by rfl, ?_⟩) (by assumption) ?_); rotate_left 1; (intro w hSw; (try dsimp only at hSw); go_simp; (try with_reducible rfl)); (try simp only [Act.put, List.setIfInBounds_toArray, List.set_cons_zero, List.set_cons_succ]))
          ((refine wpAnyH_take (i := 15) (oi := ⟨some 111, _, _, _, _, _⟩) (v := ?_) rfl (by kernel_rfl) (by kernel_rfl) (by kernel_rfl) (fun _ _ _ h => h) (Or.inl ⟨by rfl, ?_⟩) (by assumption) ?_); rotate_left 1; (intro w hSw; (try dsimp only at hSw); go_simp; (try with_reducible rfl)); (try simp only [Act.put, List.setIfInBounds_toArray, List.set_cons_zero, List.set_cons_succ]))
          ((refine wpAnyH_take (i := 16) (oi := ⟨some 112, _, _, _, _, _⟩) (v := ?_) rfl (by kernel_rfl) (by kernel_rfl) (by kernel_rfl) (fun _ _ _ h => h) (Or.inl ⟨by rfl, ?_⟩) (by assumption) ?_); rotate_left 1; (intro w hSw; (try dsimp only at hSw); go_simp; (try with_reducible rfl)); (try simp only [Act.put, List.setIfInBounds_toArray, List.set_cons_zero, List.set_cons_succ]))
          ((refine wpAnyH_take (i := 17) (oi := ⟨some 113, _, _, _, _, _⟩) (v := ?_) rfl (by kernel_rfl) (by kernel_rfl) (by kernel_rfl) (fun _ _ _ h => h) (Or.inl ⟨by rfl, ?_⟩) (by assumption) ?_); rotate_left 1; (intro w hSw; (try dsimp only at hSw); go_simp; (try with_reducible rfl)); (try simp only [Act.put, List.setIfInBounds_toArray, List.set_cons_zero, List.set_cons_succ]))
          ((refine wpAnyH_take (i := 18) (oi := ⟨some 114, _, _, _, _, _⟩) (v := ?_) rfl (by kernel_rfl) (by kernel_rfl) (by kernel_rfl) (fun _ _ _ h => h) (Or.inl ⟨by rfl, ?_⟩) (by assumption) ?_); rotate_left 1; (intro w hSw; (try dsimp only at hSw); go_simp; (try with_reducible rfl)); (try simp only [Act.put, List.setIfInBounds_toArray, List.set_cons_zero, List.set_cons_succ]))
          ((refine wpAnyH_take (i := 19) (oi := ⟨some 115, _, _, _, _, _⟩) (v := ?_) rfl (by kernel_rfl) (by kernel_rfl) (by kernel_rfl) (fun _ _ _ h => h) (Or.inl ⟨by rfl, ?_⟩) (by assumption) ?_); rotate_left 1; (intro w hSw; (try dsimp only at hSw); go_simp; (try with_reducible rfl)); (try simp only [Act.put, List.setIfInBounds_toArray, List.set_cons_zero, List.set_cons_succ]))
          ((refine wpAnyH_take (i := 20) (oi := ⟨some 116, _, _, _, _, _⟩) (v := ?_) rfl (by kernel_rfl) (by kernel_rfl) (by kernel_rfl) (fun _ _ _ h => h) (Or.inl ⟨by rfl, ?_⟩) (by assumption) ?_); rotate_left 1; (intro w hSw; (try dsimp only at hSw); go_simp; (try with_reducible rfl)); (try simp only [Act.put, List.setIfInBounds_toArray, List.set_cons_zero, List.set_cons_succ]))
          ((refine wpAnyH_take (i := 21) (oi := ⟨some 117, _, _, _, _, _⟩) (v := ?_) rfl (by kernel_rfl) (by kernel_rfl) (by kernel_rfl) (fun _ _ _ h => h) (Or.inl ⟨by rfl, ?_⟩) (by assumption) ?_); rotate_left 1; (intro w hSw; (try dsimp only at hSw); go_simp; (try with_reducible rfl)); (try simp only [Act.put, List.setIfInBounds_toArray, List.set_cons_zero, List.set_cons_succ]))
          ((refine wpAnyH_take (i := 24) (oi := ⟨some 120, _, _, _, _, _⟩) (v := ?_) rfl (by kernel_rfl) (by kernel_rfl) (by kernel_rfl) (fun _ _ _ h => h) (Or.inl ⟨by rfl, ?_⟩) (by assumption) ?_); rotate_left 1; (intro w hSw; (try dsimp only at hSw); go_simp; (try with_reducible rfl)); (try simp only [Act.put, List.setIfInBounds_toArray, List.set_cons_zero, List.set_cons_succ]))
          ((refine wpAnyH_take (i := 25) (oi := ⟨some 121, _, _, _, _, _⟩) (v := ?_) rfl (by kernel_rfl) (by kernel_rfl) (by kernel_rfl) (fun _ _ _ h => h) (Or.inl ⟨by rfl, ?_⟩) (by assumption) ?_); rotate_left 1; (intro w hSw; (try dsimp only at hSw); go_simp; (try with_reducible rfl)); (try simp only [Act.put, List.setIfInBounds_toArray, List.set_cons_zero, List.set_cons_succ]))
          refine wpAnyH_ready (rs := [22]) (by kernel_rfl) (by simp) ?_
          refine AllReadyH.cons (o := ⟨some 118, _, _, _, _, _⟩) rfl (fun K' hK => ?_) AllReadyH.nil
          go_simp
          (with_reducible refine K1.out.mono ?_)
          rintro e w18 ⟨v18, rfl, hown18, hb18⟩
          obtain ⟨A18, c18, rfl, _, _⟩ := own_slice hown18
          have Hb18 : Hid (Below w6.heap.size w6 w18) := Hb17.out.drew.trans (hb18.mono hs17)
          have X0b := (hb18.cell (p := ⟨bx, ox + sa.length * 2, none⟩) (Nat.lt_of_lt_of_le hbx sz67)).trans X0'
          have X1b := (hb18.cell (p := ⟨bx, ox + sa.length * 2 + 1, none⟩) (Nat.lt_of_lt_of_le hbx sz67)).trans X1'
          have Y0b := (hb18.cell (p := ⟨bY, oY, none⟩) hbY).trans Y0'
          have Y1b := (hb18.cell (p := ⟨bY, oY + 1, none⟩) hbY).trans Y1'
          have hs18 := hb18.size
          have K2 := Lib.hid (KAd' w18 Hb18.out).out
          clear hown18
          go_wp2_with fail
          refine hK.out _ _ ?_ (fun hHeld => ?_)
          · exact ⟨X0b, X1b, Y0b, Y1b⟩
          clear hK K'
          try simp only [Act.put, List.setIfInBounds_toArray, List.set_cons_zero, List.set_cons_succ]
          ((refine wpAnyH_take (i := 23) (oi := ⟨some 119, _, _, _, _, _⟩) (v := ?_) rfl (by kernel_rfl) (by kernel_rfl) (by kernel_rfl) (fun _ _ _ h => h) (Or.inl ⟨by rfl, ?_⟩) (by assumption) ?_); rotate_left 1; (intro w hSw; (try dsimp only at hSw); go_simp; (try with_reducible rfl)); (try simp only [Act.put, List.setIfInBounds_toArray, List.set_cons_zero, List.set_cons_succ]))
          ((refine wpAnyH_take (i := 26) (oi := ⟨some 122, _, _, _, _, _⟩) (v := ?_) rfl (by kernel_rfl) (by kernel_rfl) (by kernel_rfl) (fun _ _ _ h => h) (Or.inl ⟨by rfl, ?_⟩) (by assumption) ?_); rotate_left 1; (intro w hSw; (try dsimp only at hSw); go_simp; (try with_reducible rfl)); (try simp only [Act.put, List.setIfInBounds_toArray, List.set_cons_zero, List.set_cons_succ]))
          ((refine wpAnyH_take (i := 27) (oi := ⟨some 123, _, _, _, _, _⟩) (v := ?_) rfl (by kernel_rfl) (by kernel_rfl) (by kernel_rfl) (fun _ _ _ h => h) (Or.inl ⟨by rfl, ?_⟩) (by assumption) ?_); rotate_left 1; (intro w hSw; (try dsimp only at hSw); go_simp; (try with_reducible rfl)); (try simp only [Act.put, List.setIfInBounds_toArray, List.set_cons_zero, List.set_cons_succ]))
          ((refine wpAnyH_take (i := 28) (oi := ⟨some 124, _, _, _, _, _⟩) (v := ?_) rfl (by kernel_rfl) (by kernel_rfl) (by kernel_rfl) (fun _ _ _ h => h) (Or.inl ⟨by rfl, ?_⟩) (by assumption) ?_); rotate_left 1; (intro w hSw; (try dsimp only at hSw); go_simp; (try with_reducible rfl)); (try simp only [Act.put, List.setIfInBounds_toArray, List.set_cons_zero, List.set_cons_succ]))
          ((refine wpAnyH_take (i := 29) (oi := ⟨some 125, _, _, _, _, _⟩) (v := ?_) rfl (by kernel_rfl) (by kernel_rfl) (by kernel_rfl) (fun _ _ _ h => h) (Or.inl ⟨by rfl, ?_⟩) (by assumption) ?_); rotate_left 1; (intro w hSw; (try dsimp only at hSw); go_simp; (try with_reducible rfl)); (try simp only [Act.put, List.setIfInBounds_toArray, List.set_cons_zero, List.set_cons_succ]))
          ((refine wpAnyH_take (i := 30) (oi := ⟨some 126, _, _, _, _, _⟩) (v := ?_) rfl (by kernel_rfl) (by kernel_rfl) (by kernel_rfl) (fun _ _ _ h => h) (Or.inl ⟨by rfl, ?_⟩) (by assumption) ?_); rotate_left 1; (intro w hSw; (try dsimp only at hSw); go_simp; (try with_reducible rfl)); (try simp only [Act.put, List.setIfInBounds_toArray, List.set_cons_zero, List.set_cons_succ]))
          ((refine wpAnyH_take (i := 31) (oi := ⟨some 127, _, _, _, _, _⟩) (v := ?_) rfl (by kernel_rfl) (by kernel_rfl) (by kernel_rfl) (fun _ _ _ h => h) (Or.inl ⟨by rfl, ?_⟩) (by assumption) ?_); rotate_left 1; (intro w hSw; (try dsimp only at hSw); go_simp; (try with_reducible rfl)); (try simp only [Act.put, List.setIfInBounds_toArray, List.set_cons_zero, List.set_cons_succ]))
          ((refine wpAnyH_take (i := 32) (oi := ⟨some 128, _, _, _, _, _⟩) (v := ?_) rfl (by kernel_rfl) (by kernel_rfl) (by kernel_rfl) (fun _ _ _ h => h) (Or.inl ⟨by rfl, ?_⟩) (by assumption) ?_); rotate_left 1; (intro w hSw; (try dsimp only at hSw); go_simp; (try with_reducible rfl)); (try simp only [Act.put, List.setIfInBounds_toArray, List.set_cons_zero, List.set_cons_succ]))
          ((refine wpAnyH_take (i := 34) (oi := ⟨some 130, _, _, _, _, _⟩) (v := ?_) rfl (by kernel_rfl) (by kernel_rfl) (by kernel_rfl) (fun _ _ _ h => h) (Or.inl ⟨by rfl, ?_⟩) (by assumption) ?_); rotate_left 1; (intro w hSw; (try dsimp only at hSw); go_simp; (try with_reducible rfl)); (try simp only [Act.put, List.setIfInBounds_toArray, List.set_cons_zero, List.set_cons_succ]))
          ((refine wpAnyH_take (i := 36) (oi := ⟨some 132, _, _, _, _, _⟩) (v := ?_) rfl (by kernel_rfl) (by kernel_rfl) (by kernel_rfl) (fun _ _ _ h => h) (Or.inl ⟨by rfl, ?_⟩) (by assumption) ?_); rotate_left 1; (intro w hSw; (try dsimp only at hSw); go_simp; (try with_reducible rfl)); (try simp only [Act.put, List.setIfInBounds_toArray, List.set_cons_zero, List.set_cons_succ]))
          refine wpAnyH_ready (rs := [33]) (by kernel_rfl) (by simp) ?_
          refine AllReadyH.cons (o := ⟨some 129, _, _, _, _, _⟩) rfl (fun K' hK => ?_) AllReadyH.nil
          go_simp
          (with_reducible refine (KHs _).out.mono ?_)
          rintro e w' ⟨rfl, rfl⟩
          go_wp2_with fail
          refine hK.out _ _ ?_ (fun hHeld => ?_)
          · exact ⟨X0b, X1b, Y0b, Y1b⟩
          clear hK K'
          try simp only [Act.put, List.setIfInBounds_toArray, List.set_cons_zero, List.set_cons_succ]
          refine wpAnyH_ready (rs := [35]) (by kernel_rfl) (by simp) ?_
          refine AllReadyH.cons (o := ⟨some 131, _, _, _, _, _⟩) rfl (fun K' hK => ?_) AllReadyH.nil
          go_simp
          (with_reducible refine K2.out.mono ?_)
          rintro e w19 ⟨v19, rfl, hown19, hb19⟩
          obtain ⟨A19, c19, rfl, _, hr19⟩ := own_slice hown19
          have Hb19 : Hid (Below w6.heap.size w6 w19) := Hb18.out.trans (hb19.mono Hb18.out.size)
          have X0c := (hb19.cell (p := ⟨bx, ox + sa.length * 2, none⟩) (Nat.lt_of_lt_of_le (Nat.lt_of_lt_of_le hbx sz67) hs18)).trans X0b
          have X1c := (hb19.cell (p := ⟨bx, ox + sa.length * 2 + 1, none⟩) (Nat.lt_of_lt_of_le (Nat.lt_of_lt_of_le hbx sz67) hs18)).trans X1b
          have Y0c := (hb19.cell (p := ⟨bY, oY, none⟩) (Nat.lt_of_lt_of_le hbY hs18)).trans Y0b
          have Y1c := (hb19.cell (p := ⟨bY, oY + 1, none⟩) (Nat.lt_of_lt_of_le hbY hs18)).trans Y1b
          obtain ⟨b19, o19, rfl, hb19b, hc19⟩ := hr19.2 (by show 0 < m2.digs.length; omega)
          have Z19 : w19.cell? ⟨b19, o19 + sa.length, none⟩ = some (.int .u64 HX) := hc19 sa.length _ (by rw [digs_map]; show (List.map _ m2.digs)[sa.length]? = _; rw [List.getElem?_map, HDg.out]; rfl)
          go_wp2_with fail
          refine hK.out _ _ ?_ (fun hHeld => ?_)
          · exact ⟨X0c, X1c, Y0c, Y1c⟩
          clear hK K'
          try simp only [Act.put, List.setIfInBounds_toArray, List.set_cons_zero, List.set_cons_succ]
          ((refine wpAnyH_take (i := 37) (oi := ⟨some 133, _, _, _, _, _⟩) (v := ?_) rfl (by kernel_rfl) (by kernel_rfl) (by kernel_rfl) (fun _ _ _ h => h) (Or.inl ⟨by rfl, ?_⟩) (by assumption) ?_); rotate_left 1; (intro w hSw; (try dsimp only at hSw); go_simp; (try with_reducible rfl)); (try simp only [Act.put, List.setIfInBounds_toArray, List.set_cons_zero, List.set_cons_succ]))
          refine wpAnyH_ready (rs := [38]) (by kernel_rfl) (by simp) ?_
          refine AllReadyH.cons (o := ⟨some 134, _, _, _, _, _⟩) rfl (fun K' hK => ?_) AllReadyH.nil
          go_simp
          refine hK.out _ _ ?_ (fun hHeld => ?_)
          · exact ⟨X0c, X1c, Y0c, Y1c⟩
          clear hK K'
          try simp only [Act.put, List.setIfInBounds_toArray, List.set_cons_zero, List.set_cons_succ]
          ((refine wpAnyH_take (i := 39) (oi := ⟨some 135, _, _, _, _, _⟩) (v := ?_) rfl (by kernel_rfl) (by kernel_rfl) (by kernel_rfl) (fun _ _ _ h => h) (Or.inl ⟨by rfl, ?_⟩) (by assumption) ?_); rotate_left 1; (intro w hSw; (try dsimp only at hSw); go_simp; (try with_reducible rfl)); (try simp only [Act.put, List.setIfInBounds_toArray, List.set_cons_zero, List.set_cons_succ]))
          ((refine wpAnyH_take (i := 40) (oi := ⟨some 136, _, _, _, _, _⟩) (v := ?_) rfl (by kernel_rfl) (by kernel_rfl) (by kernel_rfl) (fun _ _ _ h => h) (Or.inl ⟨by rfl, ?_⟩) (by assumption) ?_); rotate_left 1; (intro w hSw; (try dsimp only at hSw); go_simp; (try with_reducible rfl)); (try simp only [Act.put, List.setIfInBounds_toArray, List.set_cons_zero, List.set_cons_succ]))
          refine wpAnyH_done (by kernel_rfl) ?_ _
          refine NoPanic.normal ?_
          all_goals
            go_wp2_with fail
            go_meet
            first | exact ⟨rfl, Hb19⟩ | exact ⟨rfl, by assumption⟩
        case rest =>
          obtain ⟨rfl, hbc⟩ := hcut
          generalize wc = w20 at *
          clear X0 X1 Y0 Y1 KHs KAd g1 g2 g3 g4 g6 HDg HLa HLb
          have hs20 := hbc.out.size
          have Hbw20 : Hid (Below w1.heap.size w1 w20) := Hb6.out.trans (hbc.out.mono hs6)
          have HT20 := Lib.hid (HT6'.out.below hbc.out)
          have hw20 := Hbw20.out.size
          go_wp2_with fail
          refine (KSn _ hbc.out).out.mono ?_
          rintro e w21 ⟨rfl, hb21⟩
          have HT21 := Lib.hid (HT20.out.below hb21)
          have Hbw21 : Hid (Below w1.heap.size w1 w21) := Hbw20.out.trans (hb21.mono hw20)
          have hw21 := Hbw21.out.size
          clear hb21 HT20 KSn HT6' HT15
          try simp only
          go_wp2_with fail
          refine (KLd _).out.mono ?_
          rintro e w22 ⟨g22, vr22, vd22, rfl, hM22, hb22⟩
          have HT22 : Hid (Two w22 w1.heap.size w1.heap.size (Ig.withS ⟨m2.at_, m2.rows, [], m2.digs, []⟩ (sa ++ [(r, S)])) g22 ⟨m2.at_, m2.rows, [], m2.digs, []⟩) := by
            have h := HT21.out.loaded hM22 hb22 hw21
            rw [Hs0.out] at h
            have e : Ig.withS m2 (sa ++ [(r, S)]) = Ig.withS ⟨m2.at_, m2.rows, [], m2.digs, []⟩ (sa ++ [(r, S)]) := by unfold Ig.withS; rw [Ho0.out]
            rw [e] at h
            exact h
          have Hbw22 : Hid (Below w1.heap.size w1 w22) := Hbw21.out.trans (hb22.mono hw21)
          have HI22 : Hid (Ig.Inv ⟨m2.at_, m2.rows, [], m2.digs, []⟩) := ⟨HIm2.out.at0, HIm2.out.at1, Ig.sorted_nil, by simp only [List.length_nil]; omega, fun p hp => by simp at hp, HIm2.out.rows, HIm2.out.dl, HIm2.out.dr, by simp only [List.length_nil]; omega⟩
          have HF22 : Hid (Ig.Fit ⟨m2.at_, m2.rows, [], m2.digs, []⟩) := HFt.out
          have HL22 : Hid ((sa ++ [(r, S)]).length = m2.digs.length) := by show _ = _; rw [HLd.out, List.length_append]; rfl
          have hln22 : (sa ++ [(r, S)]).length = sa.length + 1 := by rw [List.length_append]; rfl
          have Hln := Lib.hid hln22
          clear hM22 hb22 HT21 Hbw21 Hbw20 KLd hln22
          go_wp2_with fail
          refine (errno_any _ _).mono ?_
          rintro e w' ⟨rfl, rfl⟩
          go_wp2_with fail
          refine (errno_any _ _).mono ?_
          rintro e w' ⟨rfl, rfl⟩
          go_wp2_with fail
          go_roundw
          case rel => exact ⟨j + 1, _, sa ++ [(r, S)], g22, by omega, by go_num, by rw [Hln.out]; go_num, rfl, HT22, HI22, HF22, Lib.hid rfl, HL22, HAt, Hbw22⟩
          case measure => simp [intOf]; omega
    · have hend : (decide (j < z0.length) = false ∧ decide ((j : Int) < (z0.length : Int)) = false) ∨ (decide (j < z0.length) = true ∧ decide ((j : Int) < (z0.length : Int)) = true ∧ decide ((j : Int) < 80) = false) := by
        by_cases h : j < z0.length
        · exact .inr ⟨decide_eq_true h, decide_eq_true (by omega), decide_eq_false (by omega)⟩
        · exact .inl ⟨decide_eq_false h, decide_eq_false (by omega)⟩
      clear hlt HC0 HE0
      rcases hend with ⟨hd1, hd3⟩ | ⟨hd1, hd3, hd2⟩
      all_goals
        go_wp2_with fail
        go_ret
        exact ⟨rfl, Hb1.out.trans (hbw.out.mono hs1)⟩
end Go.Proofs.Ytapdlmiioljpgaa
