/- Joined texts: SeGet, IgLoad, IgAwake. -/
import Derived.Test.YtapdlmiioljpgaaK11
import Derived.Test.YtapdlmiioljpgaaK2
import Derived.Test.YtapdlmiioljpgaaK7
import Derived.Deep.DeepCutAuto
/- The walk through session.Get (chapter 10). -/
namespace Go.Proofs.Ytapdlmiioljpgaa
open Go.RowKit
set_option linter.unusedVariables false

theorem rd1_at (s : ByteArray) (st : Pt.St) (hs : s.size ≤ 4611686018427387904) (h : -9223372036854775808 ≤ st.1 ∧ st.1 ≤ 9223372036854775807) : -9223372036854775808 ≤ (Se.rd1 s st).1 ∧ (Se.rd1 s st).1 ≤ 9223372036854775807 :=
  Pt.rdNum_at s _ _ st h.2 h.1 (by omega)
theorem rdK_len (s : ByteArray) (st : Pt.St) (k : Nat) : (Se.rdK s st k).1.length = k := by
  induction k with
  | zero => rfl
  | succ k ih => rw [Se.rdK, List.length_append, ih]; rfl
theorem rdK_snoc (s : ByteArray) (st : Pt.St) (k : Nat) : (Se.rdK s st (k + 1)).1 = (Se.rdK s st k).1 ++ [(Se.rdRow s (Se.rdK s st k).2).1] := by rw [Se.rdK]
theorem rdK_st (s : ByteArray) (st : Pt.St) (k : Nat) : (Se.rdK s st (k + 1)).2 = (Se.rdRow s (Se.rdK s st k).2).2 := by rw [Se.rdK]
def SGetPost (w : World) (q : List Se.Row × Int) (e : Ending) (w' : World) : Prop :=
  ∃ v, e = .returned (.tuple #[v, .int .i64 q.2]) ∧ w'.ownsRow w.heap.size 109 4 v q.1.length (q.1.flatMap rowCells) ∧ Below w.heap.size w w'
theorem sget_ok {s : ByteArray} {k : Int} {st0 : Pt.St} {rows : List Se.Row} (h0 : Pt.rdNum s 0 4 (0, false) = (k, st0)) (hk : Se.rdK s st0 k.toNat = (rows, ((s.size : Int), false))) (hm : Se.mayB rows = true) : Se.getR s = (rows, 0) := by
  unfold Se.getR; rw [h0]; simp only; rw [hk]; simp only; rw [if_pos (by simp [hm])]
theorem sget_no {s : ByteArray} {k : Int} {st0 : Pt.St} {rows : List Se.Row} {a : Int} {bad : Bool} (h0 : Pt.rdNum s 0 4 (0, false) = (k, st0)) (hk : Se.rdK s st0 k.toNat = (rows, (a, bad))) (h : (!bad && a == (s.size : Int)) = false ∨ Se.mayB rows = false) : Se.getR s = ([], 1001) := by
  unfold Se.getR; rw [h0]; simp only; rw [hk]
  show (if bad = false ∧ a = (s.size : Int) ∧ Se.mayB rows = true then _ else _) = _
  rw [if_neg]
  rintro ⟨h1, h2, h3⟩
  rcases h with h | h
  · rw [h1, h2] at h; simp at h
  · rw [h] at h3; cases h3
set_option maxRecDepth 100000 in
set_option maxHeartbeats 2000000 in
theorem seget_any (s : ByteArray) (w : World) (hs : s.size ≤ 140737488355328) :
    Calls Try.prog 34 #[.string s] w (SGetPost w (Se.getR s)) := by
  obtain ⟨i0, hi, hz0, hz1, hz2⟩ := info_parts info_srow
  obtain ⟨k, st0, h0⟩ : ∃ k st0, Pt.rdNum s 0 4 (0, false) = (k, st0) := ⟨_, _, rfl⟩
  have hkr := Pt.rdNum_range s 0 4 (0, false) (by omega) (by omega)
  have hst := Pt.rdNum_at s 0 4 (0, false) (by simp) (by simp) (by omega)
  rw [h0] at hkr hst
  simp only at hkr hst
  obtain ⟨n, rfl⟩ : ∃ n : Nat, k = (n : Int) := ⟨k.toNat, by omega⟩
  have HOk := Lib.hid (fun rows hk hm => @sget_ok s _ st0 rows h0 hk hm)
  have HNo := Lib.hid (fun rows a bad hk h => @sget_no s _ st0 rows a bad h0 hk h)
  have H0 := fun W g hR => Lib.hid (readerNum_any s 0 false 0 4 W g hR (by omega) (by omega))
  rw [h0] at H0
  have Hst := Lib.hid hst
  clear h0 hst
  rw [Int.toNat_natCast] at HOk HNo
  generalize Se.getR s = res at *
  go_enter Try.func34, Try.ntmps34
  go_wp2_with fail
  have hR := RdAt.alloc (RdAt.new w s 0) (.cells #[.pointer (some ⟨w.heap.size, 0, none⟩)] 123)
  have hp := cell_new (w.alloc (.cells #[.string s, .int .i64 0, .bool false] 125)) #[.pointer (some ⟨w.heap.size, 0, none⟩)] 123 0
  rw [World.size_alloc] at hp
  have hb2 : Below w.heap.size w ((w.alloc (.cells #[.string s, .int .i64 0, .bool false] 125)).alloc (.cells #[.pointer (some ⟨w.heap.size, 0, none⟩)] 123)) := ((Below.refl _ _).alloc (Nat.le_refl _) _).alloc (by simp) _
  have hs2 : ((w.alloc (.cells #[.string s, .int .i64 0, .bool false] 125)).alloc (.cells #[.pointer (some ⟨w.heap.size, 0, none⟩)] 123)).heap.size = w.heap.size + 2 := by simp
  generalize (w.alloc (.cells #[.string s, .int .i64 0, .bool false] 125)).alloc (.cells #[.pointer (some ⟨w.heap.size, 0, none⟩)] 123) = w2 at *
  have hgp : w.heap.size + 2 ≤ w2.heap.size := by omega
  have Hb2 := Lib.hid hb2
  have Hp := Lib.hid (show w2.cell? ⟨w.heap.size + 1, 0, none⟩ = some (.pointer (some ⟨w.heap.size, 0, none⟩)) from hp)
  refine (H0 w2 _ hR).out.mono ?_
  clear hb2 hs2 hp hR H0
  rintro e w3 ⟨rfl, hR3, ho3⟩
  have HR3 := Lib.hid hR3
  have Ho3 := Lib.hid ho3
  obtain ⟨g, hg⟩ : ∃ g, g = w.heap.size := ⟨_, rfl⟩
  rw [← hg] at Hp HR3 Ho3 hgp ⊢
  have Hg := Lib.hid hg
  clear hR3 ho3 hg
  go_wp2_with fail
  go_loopw [6, 13] (fun v i wr => ∃ j : Nat, j ≤ n ∧ i = .int .i64 (j : Int) ∧ Hid (RdAt wr g s (Se.rdK s st0 j).2) ∧ Hid (wr.ownsRow (g + 2) 109 4 v j ((Se.rdK s st0 j).1.flatMap rowCells)) ∧ Hid (-9223372036854775808 ≤ (Se.rdK s st0 j).2.1 ∧ (Se.rdK s st0 j).2.1 ≤ 9223372036854775807) ∧ Hid (wr.cell? ⟨g + 1, 0, none⟩ = some (.pointer (some ⟨g, 0, none⟩))) ∧ g + 2 ≤ wr.heap.size ∧ Hid (Below g w wr)) (fun _ i _ => n - (intOf i).toNat)
  case atStart => exact ⟨0, Nat.zero_le _, rfl, Lib.hid (by show RdAt _ _ _ _; rw [Se.rdK]; exact HR3.out), Lib.hid (own_nil _ _ _ _), Lib.hid (by show _ ∧ _; rw [Se.rdK]; exact Hst.out), Lib.hid ((Ho3.out.cell (p := ⟨g + 1, 0, none⟩) (show g + 1 < _ by omega) (show ¬ g + 1 = g by omega)).trans Hp.out), Nat.le_trans hgp Ho3.out.size, Lib.hid ((by rw [Hg.out]; exact Hb2.out : Below g w w2).trans (Ho3.out.below (fun k hk e => by omega) (by omega)))⟩
  case round =>
    obtain ⟨j, hj, rfl, hRd, hown, hbd, hcp, hszr, hbw⟩ := hrel
    by_cases hlt : j < n
    · have hrow : Se.rdRow s (Se.rdK s st0 j).2 = (((Se.rdN s (Se.rdK s st0 j).2).1, (Se.rdN s (Se.rd1 s (Se.rdK s st0 j).2)).1, (Se.rdN s (Se.rd1 s (Se.rd1 s (Se.rdK s st0 j).2))).1, (Se.rdN s (Se.rd1 s (Se.rd1 s (Se.rd1 s (Se.rdK s st0 j).2)))).1), Se.rd1 s (Se.rd1 s (Se.rd1 s (Se.rd1 s (Se.rdK s st0 j).2)))) := by unfold Se.rdRow; rfl
      have hsn := rdK_snoc s st0 j
      have hss := rdK_st s st0 j
      rw [hrow] at hsn hss
      simp only at hsn hss
      have Hsn := Lib.hid hsn
      have Hss := Lib.hid hss
      have hlen := rdK_len s st0 j
      have Hlen := Lib.hid hlen
      clear hrow hsn hss hlen
      generalize (Se.rdK s st0 j).1 = rows at *
      generalize (Se.rdK s st0 j).2 = st at *
      have b1 := Lib.hid (rd1_at s st (by omega) hbd.out)
      have b2 := Lib.hid (rd1_at s _ (by omega) b1.out)
      have b3 := Lib.hid (rd1_at s _ (by omega) b2.out)
      have b4 := Lib.hid (rd1_at s _ (by omega) b3.out)
      have G1 := Lib.hid (getnum1_any s st wr g (g + 1) hcp.out hRd.out (by omega) hbd.out)
      have G2 := fun W hp hR => Lib.hid (getnum1_any s (Se.rd1 s st) W g (g + 1) hp hR (by omega) b1.out)
      have G3 := fun W hp hR => Lib.hid (getnum1_any s (Se.rd1 s (Se.rd1 s st)) W g (g + 1) hp hR (by omega) b2.out)
      have G4 := fun W hp hR => Lib.hid (getnum1_any s (Se.rd1 s (Se.rd1 s (Se.rd1 s st))) W g (g + 1) hp hR (by omega) b3.out)
      generalize Se.rd1 s (Se.rd1 s (Se.rd1 s (Se.rd1 s st))) = st4 at *
      generalize (Se.rdN s (Se.rd1 s (Se.rd1 s (Se.rd1 s st)))).1 = x4 at *
      generalize Se.rd1 s (Se.rd1 s (Se.rd1 s st)) = st3 at *
      generalize (Se.rdN s (Se.rd1 s (Se.rd1 s st))).1 = x3 at *
      generalize Se.rd1 s (Se.rd1 s st) = st2 at *
      generalize (Se.rdN s (Se.rd1 s st)).1 = x2 at *
      generalize Se.rd1 s st = st1 at *
      generalize (Se.rdN s st).1 = x1 at *
      go_wp2_with fail
      refine G1.out.mono ?_
      rintro e wa ⟨rfl, hRa, hoa⟩
      have hsa := hoa.size
      have Hpa := Lib.hid ((hoa.cell (p := ⟨g + 1, 0, none⟩) (show g + 1 < _ by omega) (show ¬ g + 1 = g by omega)).trans hcp.out)
      have HRa := Lib.hid hRa
      have Hoa := Lib.hid hoa
      clear hRa hoa
      go_wp2_with fail
      refine (G2 wa Hpa.out HRa.out).out.mono ?_
      rintro e wb ⟨rfl, hRb, hob⟩
      have hsb := hob.size
      have Hpb := Lib.hid ((hob.cell (p := ⟨g + 1, 0, none⟩) (show g + 1 < _ by omega) (show ¬ g + 1 = g by omega)).trans Hpa.out)
      have HRb := Lib.hid hRb
      have Hob : Hid (Only (fun k => k = g) wr wb) := Hoa.out.trans hob (fun _ _ h => h)
      clear hRb hob
      go_wp2_with fail
      refine (G3 wb Hpb.out HRb.out).out.mono ?_
      rintro e wc ⟨rfl, hRc, hoc⟩
      have hsc := hoc.size
      have Hpc := Lib.hid ((hoc.cell (p := ⟨g + 1, 0, none⟩) (show g + 1 < _ by omega) (show ¬ g + 1 = g by omega)).trans Hpb.out)
      have HRc := Lib.hid hRc
      have Hoc : Hid (Only (fun k => k = g) wr wc) := Hob.out.trans hoc (fun _ _ h => h)
      clear hRc hoc
      go_wp2_with fail
      refine (G4 wc Hpc.out HRc.out).out.mono ?_
      rintro e wd ⟨rfl, hRd4, hod⟩
      have hsd := hod.size
      have Hpd := Lib.hid ((hod.cell (p := ⟨g + 1, 0, none⟩) (show g + 1 < _ by omega) (show ¬ g + 1 = g by omega)).trans Hpc.out)
      have HRd4 := Lib.hid hRd4
      have Hod : Hid (Only (fun k => k = g) wr wd) := Hoc.out.trans hod (fun _ _ h => h)
      have HownD := Lib.hid (own_only hown.out Hod.out (fun k hk e => by have := (own_lt hown.out hk).1; omega))
      clear hRd4 hod
      go_wp2_with (at_builtin; refine wpList_push _ rfl _ _ 41 rfl (g + 2) 109 i0 _ 4 32 Try.underlying41 hi hz0 hz1 hz2 rfl (by decide) _ j _ (by rfl) HownD.out [.int .i64 x1, .int .i64 x2, .int .i64 x3, .int .i64 x4] (by rfl) rfl (by simp [Value.oneCell']) (by unfold maxLen; omega) (by omega) wd (Below.refl _ _) (by omega) ?_; intro v8 w8 hown8 hb8)
      have Hown8 : Hid (w8.ownsRow (g + 2) 109 4 v8 (j + 1) ((Se.rdK s st0 (j + 1)).1.flatMap rowCells)) := by
        show World.ownsRow _ _ _ _ _ _ _
        rw [Hsn.out, List.flatMap_append]; exact hown8
      have HR8 : Hid (RdAt w8 g s (Se.rdK s st0 (j + 1)).2) := by show RdAt _ _ _ _; rw [Hss.out]; exact HRd4.out.below hb8 (by omega)
      have Hb48 : Hid (-9223372036854775808 ≤ (Se.rdK s st0 (j + 1)).2.1 ∧ (Se.rdK s st0 (j + 1)).2.1 ≤ 9223372036854775807) := by show _ ∧ _; rw [Hss.out]; exact b4.out
      have Hp8 := Lib.hid ((hb8.cell (p := ⟨g + 1, 0, none⟩) (show g + 1 < g + 2 by omega)).trans Hpd.out)
      have hs8 := hb8.size
      have Hbw8 : Hid (Below g w w8) := hbw.out.trans ((Hod.out.below (B := g) (fun k hk e => by omega) (by omega)).trans (hb8.mono (by omega)))
      clear hown8 hb8
      go_wp2_with fail
      go_roundw
      case rel => exact ⟨j + 1, by omega, by go_num, HR8, Hown8, Hb48, Hp8, by omega, Hbw8⟩
      case measure => simp [intOf]; omega
    · obtain rfl : j = n := by omega
      have hcp' := hcp.out
      have Hbw' : Hid (Below w.heap.size w wr) := by show Below _ _ _; rw [← Hg.out]; exact hbw.out
      have hwg : w.heap.size ≤ g + 2 := by rw [Hg.out]; omega
      have hlen := rdK_len s st0 j
      have HOk' := Lib.hid (fun rows hk hm => HOk.out rows hk hm)
      have HNo' := Lib.hid (fun rows a bad hk h => HNo.out rows a bad hk h)
      clear HOk HNo
      generalize Se.rdK s st0 j = q at *
      obtain ⟨rows, a, bad⟩ := q
      simp only at hRd hown hbd hlen
      obtain ⟨Aq, cq, rfl, hnq, hrd⟩ := own_slice hown.out
      have Hrd : Hid (Reads wr wr.heap.size 4 Aq rows.length (rows.flatMap rowCells)) := by show Reads _ _ _ _ _ _; rw [hlen]; exact hrd
      have HOv := Lib.hid (over_any s a bad wr g hRd.out)
      have hE := Lib.hid (fun h => HOk'.out rows h)
      have hN := Lib.hid (fun h => HNo'.out rows a bad rfl h)
      have Hlen := Lib.hid hlen
      clear HOk' HNo' hrd hlen
      cases hov : (!bad && a == (s.size : Int))
      · have Hres := Lib.hid (hN.out (.inl hov))
        rw [hov] at HOv
        clear hov hE hN
        go_wp2_with fail
        refine HOv.out.mono ?_
        rintro e w9 ⟨rfl, n9, rfl⟩
        go_wp2_with fail
        go_ret2
        exact ⟨_, by rw [Hres.out]; rfl, by rw [Hres.out]; exact own_nil _ _ _ _, below_drewN Hbw'.out _⟩
      · rw [hov] at HOv
        have hbad : bad = false ∧ a = (s.size : Int) := by simpa using hov
        have HM := fun n9 => Lib.hid (semay_any Aq cq rows (wr.drewN n9) wr.heap.size (Hrd.out.drewN n9))
        rw [Hlen.out] at HM
        cases hmay : Se.mayB rows
        · have Hres := Lib.hid (hN.out (.inr hmay))
          rw [hmay] at HM
          clear hov hE hN hbad hmay
          go_wp2_with fail
          refine HOv.out.mono ?_
          rintro e w9 ⟨rfl, n9, rfl⟩
          go_wp2_with fail
          refine (HM n9).out.mono ?_
          rintro e w10 ⟨rfl, n10, rfl⟩
          go_wp2_with fail
          go_ret2
          exact ⟨_, by rw [Hres.out]; rfl, by rw [Hres.out]; exact own_nil _ _ _ _, below_drewN Hbw'.out _⟩
        · have Hres := Lib.hid (hE.out (by rw [hbad.1, hbad.2]) hmay)
          rw [hmay] at HM
          clear hov hE hN hbad hmay
          go_wp2_with fail
          refine HOv.out.mono ?_
          rintro e w9 ⟨rfl, n9, rfl⟩
          go_wp2_with fail
          refine (HM n9).out.mono ?_
          rintro e w10 ⟨rfl, n10, rfl⟩
          go_wp2_with fail
          go_ret2
          exact ⟨_, by rw [Hres.out]; rfl, by rw [Hres.out, Hlen.out]; exact own_drewN (own_down hown.out hwg) (n9 + n10), below_drewN Hbw'.out _⟩
end Go.Proofs.Ytapdlmiioljpgaa
/- The walk through Load of a machine (chapter 11). -/
namespace Go.Proofs.Ytapdlmiioljpgaa
open Go.RowKit
set_option linter.unusedVariables false

def LoadPost (w : World) (q : Option Ig.M) (e : Ending) (w' : World) : Prop :=
  match q with
  | none => e = .returned (.tuple #[.pointer none, .int .i64 1101]) ∧ Below w.heap.size w w'
  | some m => ∃ g vr vd, e = .returned (.tuple #[.pointer (some ⟨g, 0, none⟩), .int .i64 0]) ∧ Mach w' w.heap.size g m vr (.slice none 0 0) vd (.slice none 0 0) ∧ Below w.heap.size w w'
theorem foot_rd {w : World} {base g r : Nat} {m : Ig.M} {vr vo vd vs : Value} {s : ByteArray} {st : Pt.St} (h : Mach w base g m vr vo vd vs) (hR : RdAt w r s st) : ∀ k, Foot g vr vo vd vs k → ¬ k = r := fun k hk e => by
  subst e
  rcases hk with q | q | q | q | q
  · exact Blk.ne_ h.blk hR (by decide) q.symm
  · exact own_blk_ne h.rows hR (by decide) q
  · exact own_blk_ne h.opn hR (by decide) q
  · exact own_blk_ne h.digs hR (by decide) q
  · exact own_blk_ne h.seals hR (by decide) q
def LdCut (bad : Prop) (w5 : World) (g gm : Nat) (s : ByteArray) (st : Pt.St) (cs : Array Value) (c : Value) (wx : World) : Prop :=
  (c = .bool true ∧ bad ∨ c = .bool false ∧ ¬ bad) ∧ RdAt wx g s st ∧ Blk wx gm 128 cs ∧ Only (fun k => k = g) w5 wx
set_option maxRecDepth 100000 in
set_option maxHeartbeats 8000000 in
theorem load_any (s : ByteArray) (w : World) (hs : s.size ≤ 140737488355328) :
    Calls Try.prog 50 #[.string s] w (LoadPost w (Ig.loadR s)) := by
  have HNo := Lib.hid (fun (t : ByteArray) (at_ k e : Int) (st1 st2 st3 : Pt.St) (rows : List Se.Row) => @Ig.load_no s t at_ k e st1 st2 st3 rows)
  have HOv := Lib.hid (fun (t : ByteArray) (at_ k e : Int) (st1 st2 st3 : Pt.St) (rows : List Se.Row) => @Ig.load_over s t at_ k e st1 st2 st3 rows)
  have HYe := Lib.hid (fun (t : ByteArray) (at_ k e : Int) (st1 st2 st3 : Pt.St) (rows : List Se.Row) => @Ig.load_yes s t at_ k e st1 st2 st3 rows)
  have hR0 := RdAt.new w s 0
  have HR0 := Lib.hid hR0
  have Hb0 : Hid (Below w.heap.size w (w.alloc (.cells #[.string s, .int .i64 0, .bool false] 125))) := (Below.refl _ _).alloc (Nat.le_refl _) _
  have hs0 : w.heap.size + 1 ≤ (w.alloc (.cells #[.string s, .int .i64 0, .bool false] 125)).heap.size := by simp
  have hin0 : Ig.In s (0, false) := ⟨0, Nat.zero_le _, rfl⟩
  have H1 := fun W (hR : RdAt W w.heap.size s (0, false)) => Lib.hid (readerNum_any s 0 false 0 4096 W w.heap.size hR (by omega) (by omega))
  have hin1 := Ig.in_num 0 4096 hin0
  have hrg1 := Pt.rdNum_range s 0 4096 (0, false) (by omega) (by omega)
  generalize Ig.loadR s = res at *
  generalize hq1 : Pt.rdNum s 0 4096 (0, false) = q1 at *
  obtain ⟨at_, st1⟩ := q1
  obtain ⟨a1, b1⟩ := st1
  obtain ⟨j1, hj1, ha1⟩ := hin1
  simp only at ha1 hrg1
  subst ha1
  have H2 := fun W (hR : RdAt W w.heap.size s ((j1 : Int), b1)) => Lib.hid (readerText_any s (j1 : Int) b1 65536 W w.heap.size hR (by omega) (by omega) (by omega))
  have hin2 := Ig.in_text 65536 (show Ig.In s ((j1 : Int), b1) from ⟨j1, hj1, rfl⟩)
  have hts : (Pt.rdText s 65536 ((j1 : Int), b1)).1.size ≤ s.size := by
    unfold Pt.rdText
    split
    · show 0 ≤ s.size; omega
    · exact (Pt.getT_at s (j1 : Int) 65536).2.2
  generalize hq2 : Pt.rdText s 65536 ((j1 : Int), b1) = q2 at *
  obtain ⟨t, st2⟩ := q2
  obtain ⟨a2, b2⟩ := st2
  obtain ⟨j2, hj2, ha2⟩ := hin2
  simp only at ha2 hts
  subst ha2
  have H3 := fun W => Lib.hid (seget_any t W (by omega))
  generalize hq3 : Se.getR t = q3 at *
  obtain ⟨rows, ge⟩ := q3
  have H4 := fun W (hR : RdAt W w.heap.size s ((j2 : Int), b2)) => Lib.hid (readerNum_any s (j2 : Int) b2 0 512 W w.heap.size hR (by omega) (by omega))
  have hin4 := Ig.in_num 0 512 (show Ig.In s ((j2 : Int), b2) from ⟨j2, hj2, rfl⟩)
  generalize hq4 : Pt.rdNum s 0 512 ((j2 : Int), b2) = q4 at *
  obtain ⟨k, st3⟩ := q4
  have Hbb : Hid (st3.2 = false → b2 = false) := by
    show _ → _
    intro hb
    cases b2
    · rfl
    · rw [Pt.rdNum_bad] at hq4
      rw [← (Prod.mk.inj hq4).2] at hb
      cases hb
  have HNo' := Lib.hid (fun h => HNo.out t at_ k ge _ _ st3 rows rfl hq2 hq3 hq4 h)
  have HOv' := Lib.hid (fun h => HOv.out t at_ k ge _ _ st3 rows rfl hq2 hq3 hq4 h)
  have HYe' := Lib.hid (fun h h5 => HYe.out t at_ k ge _ _ st3 rows rfl hq2 hq3 hq4 h h5)
  have Hin4 := Lib.hid hin4
  obtain ⟨hat0, hat1⟩ := hrg1
  clear HNo HOv HYe hq1 hq2 hq3 hq4 hin0 hR0 hin4
  go_enter Try.func50, Try.ntmps50
  go_wp2_with fail
  generalize w.alloc (.cells #[.string s, .int .i64 0, .bool false] 125) = w1 at *
  refine (H1 _ HR0.out).out.mono ?_
  rintro e w2 ⟨rfl, hR2, ho2⟩
  have hs2 := ho2.size
  have HR2 := Lib.hid hR2
  have Hb2 : Hid (Below w.heap.size w w2) := Hb0.out.trans (ho2.below (fun k hk e => by omega) (by omega))
  clear hR2 ho2 HR0 Hb0 H1
  go_wp2_with fail
  have hM := Blk.new w2 128 #[.int .i64 at_, .slice none 0 0, .slice none 0 0, .slice none 0 0, .slice none 0 0]
  have HM := Lib.hid hM
  have HR3 := Lib.hid (HR2.out.alloc (.cells #[.int .i64 at_, .slice none 0 0, .slice none 0 0, .slice none 0 0, .slice none 0 0] 128))
  have Hb3 : Hid (Below w.heap.size w (w2.alloc (.cells #[.int .i64 at_, .slice none 0 0, .slice none 0 0, .slice none 0 0, .slice none 0 0] 128))) := Hb2.out.alloc (by omega) _
  have hs3 : w2.heap.size + 1 ≤ (w2.alloc (.cells #[.int .i64 at_, .slice none 0 0, .slice none 0 0, .slice none 0 0, .slice none 0 0] 128)).heap.size := by simp
  clear hM HR2 Hb2
  generalize w2.alloc (.cells #[.int .i64 at_, .slice none 0 0, .slice none 0 0, .slice none 0 0, .slice none 0 0] 128) = w3 at *
  have hgm : w.heap.size < w2.heap.size := by omega
  generalize w2.heap.size = gm at *
  have hgw : ¬ gm = w.heap.size := by omega
  refine (H2 _ HR3.out).out.mono ?_
  rintro e w4 ⟨rfl, hR4, ho4⟩
  have hs4 := ho4.size
  have HR4 := Lib.hid hR4
  have HM4 := Lib.hid (HM.out.only ho4 hgw)
  have Hb4 : Hid (Below w.heap.size w w4) := Hb3.out.trans (ho4.below (fun k hk e => by omega) (by omega))
  clear hR4 ho4 HR3 HM Hb3 H2
  go_wp2_with fail
  refine (H3 _).out.mono ?_
  rintro e w5 ⟨vr, rfl, hown5, hb5⟩
  have hs5 := hb5.size
  have HR5 := Lib.hid (HR4.out.below hb5 HR4.out.lt)
  have HM5 := Lib.hid (Blk.below HM4.out hb5 HM4.out.lt)
  have Hb5 : Hid (Below w.heap.size w w5) := Hb4.out.trans (hb5.mono (by omega))
  have Hown5 := Lib.hid (own_down hown5 (show w.heap.size ≤ w4.heap.size by omega))
  obtain ⟨Ar, cr, rfl, hncr, _⟩ := own_slice hown5
  have hrow5 : Hid (∀ k, Value.ownBlock (.slice Ar rows.length cr) = some k → k ≠ w.heap.size ∧ k ≠ gm) := fun k hk => by
    have h1 := (own_lt hown5 hk).1
    have h2 := Blk.lt HM4.out
    omega
  clear hb5 HR4 HM4 Hb4 hown5 H3
  have hn5 : w.heap.size + 2 ≤ w5.heap.size := by omega
  have H4d := Lib.hid (H4 w5.drew HR5.out).out
  have m0 := HM5.out.cell 0
  have m0d : w5.drew.cell? ⟨gm, 0, none⟩ = some (.int .i64 at_) := m0
  have r2 := HR5.out.cell2
  obtain ⟨a3, b3⟩ := st3
  have w8 : IntKind.i64.wrap (at_.tdiv 8) = at_ / 8 := by rw [Int.tdiv_eq_ediv_of_nonneg hat0]; exact IntWalk.i64_in _ (by omega)
  have w8' : IntKind.i64.wrap (at_.tmod 8) = at_ % 8 := by rw [Int.tmod_eq_emod_of_nonneg hat0]; exact IntWalk.i64_in _ (by omega)
  have w8'' : at_.tmod 8 = at_ % 8 := by rw [Int.tmod_eq_emod_of_nonneg hat0]
  go_upto_region 4 with fail
  go_cut [49] (fun cx wx => LdCut (k ≠ at_ / 8 ∨ at_ % 8 ≠ 0 ∨ b3 = true ∨ ge ≠ 0) w5 w.heap.size gm s (a3, b3) #[.int .i64 at_, .slice none 0 0, .slice none 0 0, .slice none 0 0, .slice none 0 0] cx wx)
  case first =>
    have hcs : ((k != at_ / 8) = true) ∨ ((k != at_ / 8) = false ∧ (at_ % 8 != 0) = true) ∨ ((k != at_ / 8) = false ∧ (at_ % 8 != 0) = false ∧ b3 = true) ∨ ((k != at_ / 8) = false ∧ (at_ % 8 != 0) = false ∧ b3 = false ∧ (ge != 0) = true) ∨ ((k != at_ / 8) = false ∧ (at_ % 8 != 0) = false ∧ b3 = false ∧ (ge != 0) = false) := by
      cases k != at_ / 8 <;> cases at_ % 8 != 0 <;> cases b3 <;> cases ge != 0 <;> simp
    have HCut : Hid (∀ cx W, (cx = .bool true ∧ (k ≠ at_ / 8 ∨ at_ % 8 ≠ 0 ∨ b3 = true ∨ ge ≠ 0) ∨ cx = .bool false ∧ ¬ (k ≠ at_ / 8 ∨ at_ % 8 ≠ 0 ∨ b3 = true ∨ ge ≠ 0)) → RdAt W w.heap.size s (a3, b3) → Only (fun k => k = w.heap.size) w5.drew W → LdCut (k ≠ at_ / 8 ∨ at_ % 8 ≠ 0 ∨ b3 = true ∨ ge ≠ 0) w5 w.heap.size gm s (a3, b3) #[.int .i64 at_, .slice none 0 0, .slice none 0 0, .slice none 0 0, .slice none 0 0] cx W) := fun cx W h1 h2 h3 => ⟨h1, h2, HM5.out.only (((Only.refl _ w5).drew).trans h3 (fun _ _ h => h)) hgw, ((Only.refl _ w5).drew).trans h3 (fun _ _ h => h)⟩
    have HBad : Hid ((((k != at_ / 8) = true) ∨ (at_ % 8 != 0) = true ∨ b3 = true ∨ (ge != 0) = true) → (k ≠ at_ / 8 ∨ at_ % 8 ≠ 0 ∨ b3 = true ∨ ge ≠ 0)) := by
      show _ → _
      intro h
      rcases h with h | h | h | h
      · exact .inl (by simpa using h)
      · exact .inr (.inl (by simpa using h))
      · exact .inr (.inr (.inl h))
      · exact .inr (.inr (.inr (by simpa using h)))
    have HGood : Hid ((k != at_ / 8) = false → (at_ % 8 != 0) = false → b3 = false → (ge != 0) = false → ¬ (k ≠ at_ / 8 ∨ at_ % 8 ≠ 0 ∨ b3 = true ∨ ge ≠ 0)) := by
      show _ → _
      intro h1 h2 h3 h4 h
      have g1 : k = at_ / 8 := by simpa using h1
      have g2 : at_ % 8 = 0 := by simpa using h2
      have g4 : ge = 0 := by simpa using h4
      rcases h with h | h | h | h
      · exact h g1
      · exact h g2
      · rw [h3] at h; cases h
      · exact h g4
    clear HNo' HOv' HYe' Hin4 Hown5
    rcases hcs with h1 | ⟨h1, h2⟩ | ⟨h1, h2, h3⟩ | ⟨h1, h2, h3, h4⟩ | ⟨h1, h2, h3, h4⟩
    · have HB := Lib.hid (HBad.out (.inl h1))
      clear HBad HGood
      first
        | go_region_with (first | (go_at_call 86; refine H4d.out.mono ?_; rintro e w6 ⟨rfl, hR6, ho6⟩; have n0 : w6.cell? ⟨gm, 0, none⟩ = some (.int .i64 at_) := (HM5.out.drew.only ho6 hgw).cell 0; have q2 : w6.cell? ⟨w.heap.size, 2, none⟩ = some (.bool b3) := hR6.cell2))
        | fail
      all_goals (go_wp2_with fail; go_meet; exact HCut.out _ _ (.inl ⟨rfl, HB.out⟩) hR6 ho6)
    · have HB := Lib.hid (HBad.out (.inr (.inl h2)))
      clear HBad HGood
      first
        | go_region_with (first | (go_at_call 86; refine H4d.out.mono ?_; rintro e w6 ⟨rfl, hR6, ho6⟩; have n0 : w6.cell? ⟨gm, 0, none⟩ = some (.int .i64 at_) := (HM5.out.drew.only ho6 hgw).cell 0; have q2 : w6.cell? ⟨w.heap.size, 2, none⟩ = some (.bool b3) := hR6.cell2))
        | fail
      all_goals (go_wp2_with fail; go_meet; exact HCut.out _ _ (.inl ⟨rfl, HB.out⟩) hR6 ho6)
    · have HB := Lib.hid (HBad.out (.inr (.inr (.inl h3))))
      clear HBad HGood
      subst h3
      first
        | go_region_with (first | (go_at_call 86; refine H4d.out.mono ?_; rintro e w6 ⟨rfl, hR6, ho6⟩; have n0 : w6.cell? ⟨gm, 0, none⟩ = some (.int .i64 at_) := (HM5.out.drew.only ho6 hgw).cell 0; have q2 : w6.cell? ⟨w.heap.size, 2, none⟩ = some (.bool true) := hR6.cell2))
        | fail
      all_goals (go_wp2_with fail; go_meet; exact HCut.out _ _ (.inl ⟨rfl, HB.out⟩) hR6 ho6)
    · have HB := Lib.hid (HBad.out (.inr (.inr (.inr h4))))
      clear HBad HGood
      subst h3
      have hb2 := Hbb.out rfl
      subst hb2
      have r2d : w5.drew.cell? ⟨w.heap.size, 2, none⟩ = some (.bool false) := r2
      go_region_held3 (fun w' => w'.cell? ⟨gm, 0, none⟩ = some (.int .i64 at_) ∧ w'.cell? ⟨w.heap.size, 2, none⟩ = some (.bool false)) (first | exact ⟨m0d, r2d⟩ | exact ⟨n0, q2⟩ | (go_keep; done)) (first | (go_at_call 86; refine H4d.out.mono ?_; rintro e w6 ⟨rfl, hR6, ho6⟩; have n0 : w6.cell? ⟨gm, 0, none⟩ = some (.int .i64 at_) := (HM5.out.drew.only ho6 hgw).cell 0; have q2 : w6.cell? ⟨w.heap.size, 2, none⟩ = some (.bool false) := hR6.cell2))
      all_goals (go_wp2_with fail; go_meet; exact HCut.out _ _ (.inl ⟨rfl, HB.out⟩) hR6 ho6)
    · have HG := Lib.hid (HGood.out h1 h2 h3 h4)
      clear HBad HGood
      subst h3
      have hb2 := Hbb.out rfl
      subst hb2
      have r2d : w5.drew.cell? ⟨w.heap.size, 2, none⟩ = some (.bool false) := r2
      go_region_held3 (fun w' => w'.cell? ⟨gm, 0, none⟩ = some (.int .i64 at_) ∧ w'.cell? ⟨w.heap.size, 2, none⟩ = some (.bool false)) (first | exact ⟨m0d, r2d⟩ | exact ⟨n0, q2⟩ | (go_keep; done)) (first | (go_at_call 86; refine H4d.out.mono ?_; rintro e w6 ⟨rfl, hR6, ho6⟩; have n0 : w6.cell? ⟨gm, 0, none⟩ = some (.int .i64 at_) := (HM5.out.drew.only ho6 hgw).cell 0; have q2 : w6.cell? ⟨w.heap.size, 2, none⟩ = some (.bool false) := hR6.cell2))
      all_goals (go_wp2_with fail; go_meet; exact HCut.out _ _ (.inr ⟨rfl, HG.out⟩) hR6 ho6)
  case rest =>
    clear w8 w8' w8'' H4d m0 m0d r2 Hbb H4
    obtain ⟨hbad, hR6, hM6, ho6⟩ := hcut
    generalize wc = w6 at *
    have hs6 := ho6.size
    have HR6 := Lib.hid hR6
    have HM6 := Lib.hid hM6
    have HO6 := Lib.hid ho6
    have Hb6 : Hid (Below w.heap.size w w6) := Hb5.out.trans (ho6.below (fun k hk e => by omega) (by omega))
    have Hown6 := Lib.hid (own_only Hown5.out ho6 (fun k hk e => (hrow5.out k hk).1 e))
    clear hR6 hM6 ho6 HR5 HM5 Hb5 Hown5 HO6
    rcases hbad with ⟨rfl, hbad⟩ | ⟨rfl, hbad⟩
    · have Hres := Lib.hid (HNo'.out hbad)
      clear hbad HNo' HOv' HYe' Hin4
      go_wp2_with fail
      go_ret2
      rw [Hres.out]
      exact ⟨rfl, Hb6.out⟩
    · have HY := Lib.hid (HYe'.out hbad)
      have HV := Lib.hid HOv'.out
      obtain ⟨n, hn8⟩ : ∃ n : Nat, at_ / 8 = (n : Int) := ⟨(at_ / 8).toNat, by omega⟩
      have hn : n ≤ 512 := by omega
      have hb3 : b3 = false := by
        cases b3
        · rfl
        · exact absurd (.inr (.inr (.inl rfl))) hbad
      subst hb3
      rw [hn8, Int.toNat_natCast] at HY HV
      clear hbad HNo' HOv' HYe'
      have HM7 : Hid (Mach (w6.setCell ⟨gm, 1, none⟩ (.slice Ar rows.length cr)) w.heap.size gm ⟨at_, rows, [], [], []⟩ (.slice Ar rows.length cr) (.slice none 0 0) (.slice none 0 0) (.slice none 0 0)) :=
        ⟨HM6.out.set_ 1 _, by omega, own_only Hown6.out (only_cell w6 gm 1 _) (fun k hk => (hrow5.out k hk).2), own_nil _ _ _ _, own_nil _ _ _ _, own_nil _ _ _ _⟩
      have HR7 : Hid (RdAt (w6.setCell ⟨gm, 1, none⟩ (.slice Ar rows.length cr)) w.heap.size s (a3, false)) := HR6.out.far (p := ⟨gm, 1, none⟩) (fun e => hgw e.symm) _
      have Hb7 : Hid (Below w.heap.size w (w6.setCell ⟨gm, 1, none⟩ (.slice Ar rows.length cr))) := Hb6.out.setCell (p := ⟨gm, 1, none⟩) (by show w.heap.size ≤ gm; omega) _
      have f1 := HM6.out.frozen 1
      have m1 := HM6.out.cell 1
      have c0 : (w6.setCell ⟨gm, 1, none⟩ (.slice Ar rows.length cr)).cell? ⟨gm, 0, none⟩ = some (.int .i64 at_) := HM7.out.cells.1
      clear HM6 HR6 Hb6 Hown6
      go_wp2_with fail
      clear f1 m1 c0
      generalize w6.setCell ⟨gm, 1, none⟩ (.slice Ar rows.length cr) = w7 at *
      have Hin := Lib.hid (fun q => Ig.in_digs Hin4.out q)
      have HDn := Lib.hid (fun q => Ig.digs_len s (a3, false) q)
      have HSn1 : Hid (∀ q, (Ig.rdDigs s (a3, false) (q + 1)).1 = (Ig.rdDigs s (a3, false) q).1 ++ [(Ig.num8 (Ig.rdBytes s (Ig.rdDigs s (a3, false) q).2).1.data.toList : Int)]) := fun q => by rw [Ig.rdDigs]
      have HSn2 : Hid (∀ q, (Ig.rdDigs s (a3, false) (q + 1)).2 = (Ig.rdBytes s (Ig.rdDigs s (a3, false) q).2).2) := fun q => by rw [Ig.rdDigs]
      have Hn8 := Lib.hid hn8
      obtain ⟨i0, hi, hz0, hz1, hz2⟩ := info_parts info_cloneD
      clear hn8 Hin4
      go_loopw [8, 10, 59] (fun _ _ i wr => ∃ (q : Nat) (vd : Value), q ≤ n ∧ i = .int .i64 (q : Int) ∧ Hid (RdAt wr w.heap.size s (Ig.rdDigs s (a3, false) q).2) ∧ Hid (Mach wr w.heap.size gm ⟨at_, rows, [], (Ig.rdDigs s (a3, false) q).1, []⟩ (.slice Ar rows.length cr) (.slice none 0 0) vd (.slice none 0 0)) ∧ Hid (Below w.heap.size w wr)) (fun _ _ i _ => n - (intOf i).toNat)
      case atStart => exact ⟨0, _, Nat.zero_le _, rfl, HR7, HM7, Hb7⟩
      case round =>
        obtain ⟨q, vd, hq, rfl, hR, hM, hbw⟩ := hrel
        have hsw := hbw.out.size
        have hgr := hM.out.blk.lt
        by_cases hlt : q < n
        · have hlt2 : (q : Int) < at_ / 8 := by have := Hn8.out; omega
          have Hs1 := Lib.hid (HSn1.out q)
          have Hs2 := Lib.hid (HSn2.out q)
          have hiq := Hin.out q
          have hdl := HDn.out q
          clear Hin HDn HSn1 HSn2 HY HV
          generalize Ig.rdDigs s (a3, false) q = dq at *
          obtain ⟨dl, aq, bq⟩ := dq
          obtain ⟨jq, hjq, haq⟩ := hiq
          simp only at haq hdl Hs1 Hs2 hR hM
          subst haq
          have hdl' : dl.length ≤ 512 := by omega
          clear hdl
          have HBy := Lib.hid (readerBytes_any s jq bq wr w.heap.size hR.out (by omega) hjq)
          have hbsz := Ig.bytes_size s ((jq : Int), bq)
          generalize Ig.rdBytes s ((jq : Int), bq) = by8 at *
          obtain ⟨B, stB⟩ := by8
          simp only at Hs1 Hs2 hbsz
          go_wp2_with fail
          refine HBy.out.mono ?_
          rintro e w8 ⟨rfl, hR8, ho8⟩
          have hs8 := ho8.size
          have HM8 := Lib.hid (hM.out.only ho8 (foot_rd hM.out hR.out))
          have Hb8 : Hid (Below w.heap.size w w8) := hbw.out.trans (ho8.below (fun k hk e => by omega) (by omega))
          have HR8 := Lib.hid hR8
          have hcv := to_bytes (P := Try.prog) 9 115 5 Try.underlying9 Try.underlying115 Try.underlying5 B w8
          have hbc := fun k (hk : k < B.size) => (drew_cell _ _).trans (bytes_cell w8 5 B (grownCap w8 B.size 0 5) k hk)
          have HBc := Lib.hid hbc
          have Hb9 : Hid (Below w8.heap.size w8 ((w8.alloc (bytesObj 5 B (grownCap w8 B.size 0 5))).drew)) := ((Below.refl _ w8).alloc (Nat.le_refl _) _).drew
          clear hR8 ho8 HBy hbc
          go_wp2_with fail
          clear hcv
          generalize grownCap w8 B.size 0 5 = gc at *
          generalize (w8.alloc (bytesObj 5 B gc)).drew = w9 at *
          have HM9 := Lib.hid (HM8.out.below Hb9.out)
          have HR9 := Lib.hid (HR8.out.below Hb9.out HR8.out.lt)
          have Hb9' : Hid (Below w.heap.size w w9) := Hb8.out.trans (Hb9.out.mono (by have := Hb8.out.size; omega))
          clear HM8 HR8 Hb8 Hb9 hM hR hbw
          generalize w8.heap.size = bb at *
          go_loop [8, 10, 65] (fun x _ i => ∃ p : Nat, p ≤ B.size ∧ i = .int .i64 (p : Int) ∧ x = .int .u64 (Ig.num8 (B.data.toList.take p) : Int)) (fun _ _ i => B.size - (intOf i).toNat)
          case atStart => exact ⟨0, Nat.zero_le _, rfl, rfl⟩
          case round =>
            obtain ⟨p, hp, rfl, rfl⟩ := hrel
            by_cases hpl : p < B.size
            · have hcp := HBc.out p hpl
              have hts := Lib.hid (take_snoc B p hpl)
              have hnl : 256 * Ig.num8 (B.data.toList.take p) + (B[p]).toNat < 18446744073709551616 := by
                rw [← Ig.num8_snoc, ← take_snoc B p hpl]
                exact Ig.num8_lt8 (by rw [List.length_take]; omega)
              have Hst := Lib.hid (Ig.num8_step (Ig.num8 (B.data.toList.take p)) B[p] hnl)
              have Hns : Hid ((Ig.num8 (B.data.toList.take (p + 1)) : Int) = ((256 * Ig.num8 (B.data.toList.take p) + (B[p]).toNat : Nat) : Int)) := by show _ = _; rw [hts.out, Ig.num8_snoc]
              clear hnl hts
              generalize Ig.num8 (B.data.toList.take p) = x at *
              go_wp2_with fail
              go_round
              case rel => exact ⟨p + 1, by omega, by go_num, by rw [Hst.out, Hns.out]⟩
              case measure => simp [intOf]; omega
            · have hpe : B.data.toList.take p = B.data.toList := List.take_of_length_le (by simp; omega)
              rw [hpe]
              clear HBc hpe
              generalize Ig.num8 B.data.toList = x at *
              have hs9 := Hb9'.out.size
              have HDs : Hid (w9.ownsRow w.heap.size 75 1 vd dl.length (dl.flatMap digCells)) := HM9.out.digs
              have c3 : w9.cell? ⟨gm, 3, none⟩ = some vd := HM9.out.cells.2.2.2.1
              go_wp2_with (at_builtin; refine wpList_push_only w9 rfl _ _ 68 rfl w.heap.size 75 i0 _ 1 8 Try.underlying68 hi hz0 hz1 hz2 rfl (by decide) _ dl.length _ (by rfl) HDs.out [.int .u64 x] (by rfl) rfl (by simp [Value.oneCell']) (by unfold maxLen; omega) (by omega) hs9 ?_; intro v11 w11 hown11 ho11 hg11; obtain ⟨A11, c11, rfl, hnc11, _⟩ := own_slice hown11; have hm11 := HM9.out.blk.only ho11 (fun q => HM9.out.apart HM9.out.digs (by decide) gm q rfl); have t3 := hm11.cell 3; have f3 := hm11.frozen 3)
              have HM12 := Lib.hid (HM9.out.setDigs ho11 (D := dl ++ [(x : Int)]) (by rw [digs_snoc, List.length_append]; exact hown11))
              have HR12 : Hid (RdAt (w11.setCell ⟨gm, 3, none⟩ (.slice A11 (dl.length + 1) c11)) w.heap.size s stB) := (HR9.out.only ho11 (fun e => foot_rd HM9.out HR9.out _ (.inr (.inr (.inr (.inl e)))) rfl)).far (p := ⟨gm, 3, none⟩) (fun e => hgw e.symm) _
              have Hb12 : Hid (Below w.heap.size w (w11.setCell ⟨gm, 3, none⟩ (.slice A11 (dl.length + 1) c11))) := (Hb9'.out.trans (ho11.below (fun k hk e => by have := (own_lt HDs.out e).1; omega) hs9)).setCell (p := ⟨gm, 3, none⟩) (by show w.heap.size ≤ gm; omega) _
              clear hown11 ho11 hg11 hm11 t3 f3 c3 HM9 HR9 HDs
              go_roundw
              case rel => exact ⟨q + 1, _, by omega, by go_num, by rw [Hs2.out]; exact HR12, by rw [Hs1.out]; exact HM12, Hb12⟩
              case measure => simp [intOf]; omega
        · have hlt2 : ¬ (q : Int) < at_ / 8 := by have := Hn8.out; omega
          obtain rfl : q = n := by omega
          clear Hin HDn HSn1 HSn2
          generalize Ig.rdDigs s (a3, false) q = dq at *
          obtain ⟨dl, aq, bq⟩ := dq
          simp only at hR hM HY HV
          have HOv := Lib.hid (over_any s aq bq wr w.heap.size hR.out)
          cases hov : (!bq && aq == (s.size : Int))
          · have Hres := Lib.hid (HV.out (fun e => by
              rw [(Prod.mk.inj e).1, (Prod.mk.inj e).2] at hov
              simp at hov))
            rw [hov] at HOv
            clear hov HY HV
            go_wp2_with fail
            refine HOv.out.mono ?_
            rintro e w13 ⟨rfl, n13, rfl⟩
            go_wp2_with fail
            go_ret2
            rw [Hres.out]
            exact ⟨rfl, below_drewN hbw.out _⟩
          · have hov' : bq = false ∧ aq = (s.size : Int) := by simpa using hov
            have Hres := Lib.hid (HY.out (by rw [hov'.1, hov'.2]))
            rw [hov] at HOv
            clear hov HY HV hov'
            go_wp2_with fail
            refine HOv.out.mono ?_
            rintro e w13 ⟨rfl, n13, rfl⟩
            go_wp2_with fail
            go_ret2
            rw [Hres.out]
            exact ⟨_, _, _, rfl, hM.out.below (below_drewN (Below.refl _ _) n13), below_drewN hbw.out _⟩
end Go.Proofs.Ytapdlmiioljpgaa
/- The walks through begun, write and awake of cachetlaw11 (chapter 11). -/
namespace Go.Proofs.Ytapdlmiioljpgaa
open Go.RowKit
set_option linter.unusedVariables false

theorem ig_reads_one (W : World) (t v : Int) : Reads (W.alloc (.cells #[.string ⟨#[115]⟩, .int .i64 t, .int .i64 v] 88)) (W.heap.size + 1) 3 (some ⟨W.heap.size, 0, none⟩) [Ig.pt t v].length ([Ig.pt t v].flatMap pointCells) :=
  Reads.new W 88 3 1 (pointCells (Ig.pt t v)) rfl
def BegunPost (w : World) (e : Ending) (w' : World) : Prop := e = .returned (.pointer (some ⟨w.heap.size, 0, none⟩)) ∧ MachX w' w.heap.size w.heap.size Ig.m1 (fun _ => False) ∧ Below w.heap.size w w'
set_option maxRecDepth 100000 in
theorem begun_any (w : World) : Calls Try.prog 37 #[] w (BegunPost w) := by
  have HN := Lib.hid (newX w)
  go_enter Try.func37, Try.ntmps37
  go_wp2_with fail
  refine HN.out.mono ?_
  rintro e w1 ⟨rfl, hm, hb⟩
  have Hb := Lib.hid hb
  have hs := hb.size
  have HA := Lib.hid (applyX hm Ig.inv0 0 0 0 0 none 0 0 [] rfl Reads.none_ (fun p hp => by simp at hp) (by simp) (fun k h => absurd h id) (fun b off h => by cases h) hs)
  rw [Ig.begun_eq] at HA
  clear hm hb
  go_wp2_with fail
  refine HA.out.mono ?_
  rintro e w2 ⟨rfl, hm2, ho2⟩
  have HM2 := Lib.hid hm2
  have Hb2 : Hid (Below w.heap.size w w2) := Hb.out.trans (ho2.below (fun k hk q => by omega) hs)
  clear hm2 ho2
  go_wp2_with fail
  go_ret
  exact ⟨rfl, HM2.out, Hb2.out⟩
def WritePost (w : World) (k t v : Int) (e : Ending) (w' : World) : Prop :=
  ∃ b, e = .returned (.agg #[.int .i64 0, .int .i64 0, .int .i64 1, .int .i64 k, .slice (some ⟨b, 0, none⟩) 1 1]) ∧ Reads w' w'.heap.size 3 (some ⟨b, 0, none⟩) 1 ([Ig.pt t v].flatMap pointCells) ∧ w.heap.size ≤ b ∧ b < w'.heap.size ∧ Below w.heap.size w w'
set_option maxRecDepth 100000 in
theorem writeE_any (k t v : Int) (w : World) : Calls Try.prog 39 #[.int .i64 k, .int .i64 t, .int .i64 v] w (WritePost w k t v) := by
  go_enter Try.func39, Try.ntmps39
  go_wp2_with fail
  have hb : Below w.heap.size w ((w.alloc (.cells #[.int .i64 0, .int .i64 0, .int .i64 1, .int .i64 k, .slice (some ⟨w.heap.size + 1, 0, none⟩) 1 1] 43)).alloc (.cells #[.string ⟨#[115]⟩, .int .i64 t, .int .i64 v] 88)) := ((Below.refl _ _).alloc (Nat.le_refl _) _).alloc (by simp) _
  have hr := ig_reads_one (w.alloc (.cells #[.int .i64 0, .int .i64 0, .int .i64 1, .int .i64 k, .slice (some ⟨w.heap.size + 1, 0, none⟩) 1 1] 43)) t v
  rw [World.size_alloc] at hr
  refine bodyPost_ret (v := .agg #[.int .i64 0, .int .i64 0, .int .i64 1, .int .i64 k, .slice (some ⟨w.heap.size + 1, 0, none⟩) 1 1]) (by simp [results, Try.results39, go_sem]) rfl ?_
  exact ⟨w.heap.size + 1, rfl, hr.more (by simp), by omega, by simp, hb⟩
/-- an entry that write made is applied -/
theorem applyW {w w2 : World} {base g b : Nat} {m : Ig.M} {X : Nat → Prop} {t v : Int} (hm : MachX w base g m X) (hI : Ig.Inv m) (hX : ∀ k, X k → k < w.heap.size) (hbase : base ≤ w.heap.size) (hb : Below w.heap.size w w2) (hb1 : w.heap.size ≤ b) (hb2 : b < w2.heap.size) (hr : Reads w2 w2.heap.size 3 (some ⟨b, 0, none⟩) 1 ([Ig.pt t v].flatMap pointCells)) (h1 : -2147483648 ≤ t ∧ t ≤ 2147483647) (h2 : -2147483648 ≤ v ∧ v ≤ 2147483647) (k : Int) :
    Calls Try.prog 38 #[.pointer (some ⟨g, 0, none⟩), .agg #[.int .i64 0, .int .i64 0, .int .i64 1, .int .i64 k, .slice (some ⟨b, 0, none⟩) 1 1]] w2 (ApplyPost' w2 base g X (Ig.applyM m 0 0 1 k [Ig.pt t v])) := by
  have hs := hb.size
  refine (applyX (hm.more (Y := fun k => X k ∨ k = b) hb (fun k q => ?_)) hI 0 0 1 k (some ⟨b, 0, none⟩) 1 1 [Ig.pt t v] rfl hr (Ig.pt_wf h1 h2) (by simp) (fun k q => ?_) (fun b' off e => .inl (.inr ?_)) (by omega)).mono fun e w' h => ?_
  · rcases q with q | q
    · exact .inl q
    · exact .inr (by omega)
  · rcases q with q | q
    · have := hX k q; omega
    · omega
  · injection e with e; injection e with e _ _; exact e.symm
  · obtain ⟨he, hm', ho⟩ := h
    exact ⟨he, hm'.less (fun k _ _ q => .inl q), ho.mono fun k _ q => ⟨q.1, fun z => q.2 (.inl z)⟩⟩
/-- an entry with effect -/
theorem ig_a0 : Ig.mayB 0 0 1 1 [Ig.pt 2 3] = true := by decide +kernel
def Ig.a1 : Ig.M := ⟨2, [(1, 1, 2, 2)], [Ig.pt 2 3], [], []⟩
def Ig.a2 : Ig.M := ⟨3, [(1, 1, 2, 2)], [Ig.pt 2 3], [], []⟩
theorem ig_a1 : Ig.applyM Ig.m1 0 0 1 1 [Ig.pt 2 3] = (Ig.a1, 2, 0) := by rfl
theorem ig_a2 : Ig.applyM Ig.a1 0 0 9 1 [] = (Ig.a2, -1, 4) := by rfl
theorem ig_a3 : Ig.snapR Ig.a2 = (⟨#[]⟩, 1100) := by rfl
theorem ig_a4 : Ig.loadR ⟨#[120]⟩ = none := by rfl
set_option maxRecDepth 100000 in
set_option maxHeartbeats 2000000 in
theorem awake11 (w : World) : Calls Try.prog 36 #[] w fun e w' => e = .returned (.bool true) ∧ Below w.heap.size w w' := by
  have HN := Lib.hid (newX w)
  have i1 := Ig.inv1
  have i2 : Ig.Inv Ig.a1 := by have := Ig.inv_apply i1 0 0 1 1 [Ig.pt 2 3]; rw [ig_a1] at this; exact this
  have i3 : Ig.Inv Ig.a2 := by have := Ig.inv_apply i2 0 0 9 1 []; rw [ig_a2] at this; exact this
  have I1 := Lib.hid i1
  have I2 := Lib.hid i2
  have I3 := Lib.hid i3
  have HL := fun W => Lib.hid (load_any ⟨#[120]⟩ W (by decide))
  rw [ig_a4] at HL
  clear i1 i2 i3
  go_enter Try.func36, Try.ntmps36
  go_wp2_with fail
  refine HN.out.mono ?_
  rintro e w1 ⟨rfl, hm, hb⟩
  have Hb := Lib.hid hb
  have hs := hb.size
  have HA := Lib.hid (applyX hm Ig.inv0 0 0 0 0 none 0 0 [] rfl Reads.none_ (fun p hp => by simp at hp) (by simp) (fun k h => absurd h id) (fun b off h => by cases h) hs)
  rw [Ig.begun_eq] at HA
  clear hm hb
  go_wp2_with fail
  refine HA.out.mono ?_
  rintro e w2 ⟨rfl, hm2, ho2⟩
  have HM2 := Lib.hid hm2
  have Hb2 : Hid (Below w.heap.size w w2) := Hb.out.trans (ho2.below (fun k hk q => by omega) hs)
  have hs2 := Hb2.out.size
  clear hm2 ho2 HA Hb
  simp only
  have HA := Lib.hid (applyX (HM2.out.more (Y := fun k => k = w2.heap.size) ((Below.refl _ w2).alloc (Nat.le_refl _) (.cells #[.string ⟨#[115]⟩, .int .i64 2, .int .i64 3] 88)) (fun k h => .inr (by rw [h]; exact Nat.le_refl _))) I1.out 0 0 1 1 (some ⟨w2.heap.size, 0, none⟩) 1 1 [Ig.pt 2 3] rfl ((ig_reads_one w2 2 3).more (by simp)) (fun p hp => by rw [List.mem_singleton] at hp; subst hp; exact ⟨⟨by decide, by decide⟩, ⟨by decide, by decide⟩⟩) (by simp) (fun k h => by rw [h]; simp) (fun b off h => .inl (by injection h with h; injection h with h _ _; exact h.symm)) (by simp; omega))
  rw [ig_a1] at HA
  have Hb2' : Hid (Below w.heap.size w (w2.alloc (.cells #[.string ⟨#[115]⟩, .int .i64 2, .int .i64 3] 88))) := Hb2.out.alloc hs2 _
  go_wp2_with fail
  refine HA.out.mono ?_
  rintro e w4 ⟨rfl, hm4, ho4⟩
  have HM4 : Hid (MachX w4 w.heap.size w.heap.size Ig.a1 (fun _ => False)) := (hm4.less (Y := fun _ => False) (fun k _ _ h => absurd h id))
  have Hb4 : Hid (Below w.heap.size w w4) := Hb2'.out.trans (ho4.below (fun k hk q => by omega) Hb2'.out.size)
  have hs4 := Hb4.out.size
  clear hm4 ho4 HA Hb2 Hb2' HM2 I1 hs2
  simp only
  have HA := Lib.hid (applyX HM4.out I2.out 0 0 9 1 none 0 0 [] rfl Reads.none_ (fun p hp => by simp at hp) (by simp) (fun k h => absurd h id) (fun b off h => by cases h) hs4)
  rw [ig_a2] at HA
  go_wp2_with fail
  refine HA.out.mono ?_
  rintro e w5 ⟨rfl, hm5, ho5⟩
  have HM5 : Hid (MachX w5 w.heap.size w.heap.size Ig.a2 (fun _ => False)) := hm5
  have Hb5 : Hid (Below w.heap.size w w5) := Hb4.out.trans (ho5.below (fun k hk q => by omega) hs4)
  have hs5 := Hb5.out.size
  clear hm5 ho5 HA Hb4 HM4 I2 hs4
  simp only
  have HA := Lib.hid (snapX HM5.out I3.out)
  rw [ig_a3] at HA
  go_wp2_with fail
  refine HA.out.mono ?_
  rintro e w6 ⟨rfl, hb6⟩
  have HM6 := Lib.hid (HM5.out.below hb6)
  have Hb6 : Hid (Below w.heap.size w w6) := Hb5.out.trans (hb6.mono hs5)
  have hs6 := Hb6.out.size
  clear hb6 HA Hb5 HM5 hs5 I3
  simp only
  go_wp2_with fail
  refine (HL w6).out.mono ?_
  rintro e w7 ⟨rfl, hb7⟩
  have HM7 := Lib.hid (HM6.out.below hb7)
  have Hb7 : Hid (Below w.heap.size w w7) := Hb6.out.trans (hb7.mono hs6)
  have hs7 := Hb7.out.size
  clear hb7 HL Hb6 HM6 hs6
  have Hat := Lib.hid (atX HM7.out)
  have Hop := Lib.hid (openX HM7.out (by show 1 ≤ _; omega))
  go_wp2_with fail
  refine Hat.out.mono ?_
  rintro e w' ⟨rfl, rfl⟩
  have a2a : Ig.a2.at_ = 3 := rfl
  rw [a2a]
  go_wp2_with fail
  refine Hop.out.mono ?_
  rintro e w8 ⟨v8, rfl, hown8, hb8⟩
  obtain ⟨A8, c8, rfl, _, hr8⟩ := own_slice hown8
  have a2o : Ig.a2.opn.length = 1 := rfl
  have Hr8 : Hid (Reads w8 w8.heap.size 3 A8 [Ig.pt 2 3].length ([Ig.pt 2 3].flatMap pointCells)) := hr8
  have Hb8 : Hid (Below w.heap.size w w8) := Hb7.out.trans (hb8.mono hs7)
  have hs8 := Hb8.out.size
  clear hown8 hb8 hr8
  rw [a2o]
  clear a2o a2a
  go_wp2_with fail
  have hb9 : Below w8.heap.size w8 (w8.alloc (.cells #[.string ⟨#[115]⟩, .int .i64 2, .int .i64 3] 88)) := (Below.refl _ _).alloc (Nat.le_refl _) _
  refine (samePoints_true A8 _ c8 _ [Ig.pt 2 3] _ w8.heap.size (w8.heap.size + 1) (Hr8.out.below hb9) (ig_reads_one w8 2 3) (by simp)).mono ?_
  rintro e w9 ⟨rfl, n9, rfl⟩
  have Hb9 : Hid (Below w.heap.size w (w8.alloc (.cells #[.string ⟨#[115]⟩, .int .i64 2, .int .i64 3] 88))) := Hb8.out.trans (hb9.mono hs8)
  clear hb9
  go_wp2_with fail
  refine (errno_any _ _).mono ?_
  rintro e w' ⟨rfl, rfl⟩
  go_wp2_with fail
  refine (errno_any _ _).mono ?_
  rintro e w' ⟨rfl, rfl⟩
  go_wp2_with fail
  go_ret
  exact ⟨rfl, below_drewN Hb9.out _⟩
end Go.Proofs.Ytapdlmiioljpgaa
