/- The walk through session.Get (chapter 10). -/
import Derived.Test.YtllbjegnjjeaeaaSeAsk
namespace Go.Proofs.Ytllbjegnjjeaeaa
open Go.RowKit
set_option linter.unusedVariables false

theorem rd1_at (s : ByteArray) (st : Pt.St) (hs : s.size ≤ 4611686018427387904) (h : -9223372036854775808 ≤ st.1 ∧ st.1 ≤ 9223372036854775807) : -9223372036854775808 ≤ (Se.rd1 s st).1 ∧ (Se.rd1 s st).1 ≤ 9223372036854775807 :=
  Pt.rdNum_at s _ _ st h.2 h.1 (by omega)
theorem rdK_len (s : ByteArray) (st : Pt.St) (k : Nat) : (Se.rdK s st k).1.length = k := by
  induction k with
  | zero => rfl
  | succ k ih => rw [Se.rdK, List.length_append, ih]; rfl
theorem rdK_snoc (s : ByteArray) (st : Pt.St) (k : Nat) : (Se.rdK s st (k + 1)).1 = (Se.rdK s st k).1 ++ [(Se.rdRow s (Se.rdK s st k).2).1] := by rw [Se.rdK]
theorem rdK_st (s : ByteArray) (st : Pt.St) (k : Nat) : (Se.rdK s st (k + 1)).2 = (Se.rdRow s (Se.rdK s st k).2).2 := by rw [Se.rdK]
def SGetPost (w : World) (q : List Se.Row × Int) (e : Ending) (w' : World) : Prop :=
  ∃ v, e = .returned (.tuple #[v, .int .i64 q.2]) ∧ w'.ownsRow w.heap.size 49 4 v q.1.length (q.1.flatMap rowCells) ∧ Below w.heap.size w w'
theorem sget_ok {s : ByteArray} {k : Int} {st0 : Pt.St} {rows : List Se.Row} (h0 : Pt.rdNum s 0 4 (0, false) = (k, st0)) (hk : Se.rdK s st0 k.toNat = (rows, ((s.size : Int), false))) (hm : Se.mayB rows = true) : Se.getR s = (rows, 0) := by
  unfold Se.getR; rw [h0]; simp only; rw [hk]; simp only; rw [if_pos (by simp [hm])]
theorem sget_no {s : ByteArray} {k : Int} {st0 : Pt.St} {rows : List Se.Row} {a : Int} {bad : Bool} (h0 : Pt.rdNum s 0 4 (0, false) = (k, st0)) (hk : Se.rdK s st0 k.toNat = (rows, (a, bad))) (h : (!bad && a == (s.size : Int)) = false ∨ Se.mayB rows = false) : Se.getR s = ([], 1001) := by
  unfold Se.getR; rw [h0]; simp only; rw [hk]
  show (if bad = false ∧ a = (s.size : Int) ∧ Se.mayB rows = true then _ else _) = _
  rw [if_neg]
  rintro ⟨h1, h2, h3⟩
  rcases h with h | h
  · rw [h1, h2] at h; simp at h
  · rw [h] at h3; cases h3
set_option maxRecDepth 100000 in
set_option maxHeartbeats 2000000 in
theorem seget_any (s : ByteArray) (w : World) (hs : s.size ≤ 140737488355328) :
    Calls Try.prog 19 #[.string s] w (SGetPost w (Se.getR s)) := by
  obtain ⟨i0, hi, hz0, hz1, hz2⟩ := info_parts info_srow
  obtain ⟨k, st0, h0⟩ : ∃ k st0, Pt.rdNum s 0 4 (0, false) = (k, st0) := ⟨_, _, rfl⟩
  have hkr := Pt.rdNum_range s 0 4 (0, false) (by omega) (by omega)
  have hst := Pt.rdNum_at s 0 4 (0, false) (by simp) (by simp) (by omega)
  rw [h0] at hkr hst
  simp only at hkr hst
  obtain ⟨n, rfl⟩ : ∃ n : Nat, k = (n : Int) := ⟨k.toNat, by omega⟩
  have HOk := Lib.hid (fun rows hk hm => @sget_ok s _ st0 rows h0 hk hm)
  have HNo := Lib.hid (fun rows a bad hk h => @sget_no s _ st0 rows a bad h0 hk h)
  have H0 := fun W g hR => Lib.hid (readerNum_any s 0 false 0 4 W g hR (by omega) (by omega))
  rw [h0] at H0
  have Hst := Lib.hid hst
  clear h0 hst
  rw [Int.toNat_natCast] at HOk HNo
  generalize Se.getR s = res at *
  go_enter Try.func19, Try.ntmps19
  go_wp2_with fail
  have hR := RdAt.alloc (RdAt.new w s 0) (.cells #[.pointer (some ⟨w.heap.size, 0, none⟩)] 68)
  have hp := cell_new (w.alloc (.cells #[.string s, .int .i64 0, .bool false] 70)) #[.pointer (some ⟨w.heap.size, 0, none⟩)] 68 0
  rw [World.size_alloc] at hp
  have hb2 : Below w.heap.size w ((w.alloc (.cells #[.string s, .int .i64 0, .bool false] 70)).alloc (.cells #[.pointer (some ⟨w.heap.size, 0, none⟩)] 68)) := ((Below.refl _ _).alloc (Nat.le_refl _) _).alloc (by simp) _
  have hs2 : ((w.alloc (.cells #[.string s, .int .i64 0, .bool false] 70)).alloc (.cells #[.pointer (some ⟨w.heap.size, 0, none⟩)] 68)).heap.size = w.heap.size + 2 := by simp
  generalize (w.alloc (.cells #[.string s, .int .i64 0, .bool false] 70)).alloc (.cells #[.pointer (some ⟨w.heap.size, 0, none⟩)] 68) = w2 at *
  have hgp : w.heap.size + 2 ≤ w2.heap.size := by omega
  have Hb2 := Lib.hid hb2
  have Hp := Lib.hid (show w2.cell? ⟨w.heap.size + 1, 0, none⟩ = some (.pointer (some ⟨w.heap.size, 0, none⟩)) from hp)
  refine (H0 w2 _ hR).out.mono ?_
  clear hb2 hs2 hp hR H0
  rintro e w3 ⟨rfl, hR3, ho3⟩
  have HR3 := Lib.hid hR3
  have Ho3 := Lib.hid ho3
  obtain ⟨g, hg⟩ : ∃ g, g = w.heap.size := ⟨_, rfl⟩
  rw [← hg] at Hp HR3 Ho3 hgp ⊢
  have Hg := Lib.hid hg
  clear hR3 ho3 hg
  go_wp2_with fail
  go_loopw [6, 13] (fun v i wr => ∃ j : Nat, j ≤ n ∧ i = .int .i64 (j : Int) ∧ Hid (RdAt wr g s (Se.rdK s st0 j).2) ∧ Hid (wr.ownsRow (g + 2) 49 4 v j ((Se.rdK s st0 j).1.flatMap rowCells)) ∧ Hid (-9223372036854775808 ≤ (Se.rdK s st0 j).2.1 ∧ (Se.rdK s st0 j).2.1 ≤ 9223372036854775807) ∧ Hid (wr.cell? ⟨g + 1, 0, none⟩ = some (.pointer (some ⟨g, 0, none⟩))) ∧ g + 2 ≤ wr.heap.size ∧ Hid (Below g w wr)) (fun _ i _ => n - (intOf i).toNat)
  case atStart => exact ⟨0, Nat.zero_le _, rfl, Lib.hid (by show RdAt _ _ _ _; rw [Se.rdK]; exact HR3.out), Lib.hid (own_nil _ _ _ _), Lib.hid (by show _ ∧ _; rw [Se.rdK]; exact Hst.out), Lib.hid ((Ho3.out.cell (p := ⟨g + 1, 0, none⟩) (show g + 1 < _ by omega) (show ¬ g + 1 = g by omega)).trans Hp.out), Nat.le_trans hgp Ho3.out.size, Lib.hid ((by rw [Hg.out]; exact Hb2.out : Below g w w2).trans (Ho3.out.below (fun k hk e => by omega) (by omega)))⟩
  case round =>
    obtain ⟨j, hj, rfl, hRd, hown, hbd, hcp, hszr, hbw⟩ := hrel
    by_cases hlt : j < n
    · have hrow : Se.rdRow s (Se.rdK s st0 j).2 = (((Se.rdN s (Se.rdK s st0 j).2).1, (Se.rdN s (Se.rd1 s (Se.rdK s st0 j).2)).1, (Se.rdN s (Se.rd1 s (Se.rd1 s (Se.rdK s st0 j).2))).1, (Se.rdN s (Se.rd1 s (Se.rd1 s (Se.rd1 s (Se.rdK s st0 j).2)))).1), Se.rd1 s (Se.rd1 s (Se.rd1 s (Se.rd1 s (Se.rdK s st0 j).2)))) := by unfold Se.rdRow; rfl
      have hsn := rdK_snoc s st0 j
      have hss := rdK_st s st0 j
      rw [hrow] at hsn hss
      simp only at hsn hss
      have Hsn := Lib.hid hsn
      have Hss := Lib.hid hss
      have hlen := rdK_len s st0 j
      have Hlen := Lib.hid hlen
      clear hrow hsn hss hlen
      generalize (Se.rdK s st0 j).1 = rows at *
      generalize (Se.rdK s st0 j).2 = st at *
      have b1 := Lib.hid (rd1_at s st (by omega) hbd.out)
      have b2 := Lib.hid (rd1_at s _ (by omega) b1.out)
      have b3 := Lib.hid (rd1_at s _ (by omega) b2.out)
      have b4 := Lib.hid (rd1_at s _ (by omega) b3.out)
      have G1 := Lib.hid (getnum1_any s st wr g (g + 1) hcp.out hRd.out (by omega) hbd.out)
      have G2 := fun W hp hR => Lib.hid (getnum1_any s (Se.rd1 s st) W g (g + 1) hp hR (by omega) b1.out)
      have G3 := fun W hp hR => Lib.hid (getnum1_any s (Se.rd1 s (Se.rd1 s st)) W g (g + 1) hp hR (by omega) b2.out)
      have G4 := fun W hp hR => Lib.hid (getnum1_any s (Se.rd1 s (Se.rd1 s (Se.rd1 s st))) W g (g + 1) hp hR (by omega) b3.out)
      generalize Se.rd1 s (Se.rd1 s (Se.rd1 s (Se.rd1 s st))) = st4 at *
      generalize (Se.rdN s (Se.rd1 s (Se.rd1 s (Se.rd1 s st)))).1 = x4 at *
      generalize Se.rd1 s (Se.rd1 s (Se.rd1 s st)) = st3 at *
      generalize (Se.rdN s (Se.rd1 s (Se.rd1 s st))).1 = x3 at *
      generalize Se.rd1 s (Se.rd1 s st) = st2 at *
      generalize (Se.rdN s (Se.rd1 s st)).1 = x2 at *
      generalize Se.rd1 s st = st1 at *
      generalize (Se.rdN s st).1 = x1 at *
      go_wp2_with fail
      refine G1.out.mono ?_
      rintro e wa ⟨rfl, hRa, hoa⟩
      have hsa := hoa.size
      have Hpa := Lib.hid ((hoa.cell (p := ⟨g + 1, 0, none⟩) (show g + 1 < _ by omega) (show ¬ g + 1 = g by omega)).trans hcp.out)
      have HRa := Lib.hid hRa
      have Hoa := Lib.hid hoa
      clear hRa hoa
      go_wp2_with fail
      refine (G2 wa Hpa.out HRa.out).out.mono ?_
      rintro e wb ⟨rfl, hRb, hob⟩
      have hsb := hob.size
      have Hpb := Lib.hid ((hob.cell (p := ⟨g + 1, 0, none⟩) (show g + 1 < _ by omega) (show ¬ g + 1 = g by omega)).trans Hpa.out)
      have HRb := Lib.hid hRb
      have Hob : Hid (Only (fun k => k = g) wr wb) := Hoa.out.trans hob (fun _ _ h => h)
      clear hRb hob
      go_wp2_with fail
      refine (G3 wb Hpb.out HRb.out).out.mono ?_
      rintro e wc ⟨rfl, hRc, hoc⟩
      have hsc := hoc.size
      have Hpc := Lib.hid ((hoc.cell (p := ⟨g + 1, 0, none⟩) (show g + 1 < _ by omega) (show ¬ g + 1 = g by omega)).trans Hpb.out)
      have HRc := Lib.hid hRc
      have Hoc : Hid (Only (fun k => k = g) wr wc) := Hob.out.trans hoc (fun _ _ h => h)
      clear hRc hoc
      go_wp2_with fail
      refine (G4 wc Hpc.out HRc.out).out.mono ?_
      rintro e wd ⟨rfl, hRd4, hod⟩
      have hsd := hod.size
      have Hpd := Lib.hid ((hod.cell (p := ⟨g + 1, 0, none⟩) (show g + 1 < _ by omega) (show ¬ g + 1 = g by omega)).trans Hpc.out)
      have HRd4 := Lib.hid hRd4
      have Hod : Hid (Only (fun k => k = g) wr wd) := Hoc.out.trans hod (fun _ _ h => h)
      have HownD := Lib.hid (own_only hown.out Hod.out (fun k hk e => by have := (own_lt hown.out hk).1; omega))
      clear hRd4 hod
      go_wp2_with (at_builtin; refine wpList_push _ rfl _ _ 22 rfl (g + 2) 49 i0 _ 4 32 Try.underlying22 hi hz0 hz1 hz2 rfl (by decide) _ j _ (by rfl) HownD.out [.int .i64 x1, .int .i64 x2, .int .i64 x3, .int .i64 x4] (by rfl) rfl (by simp [Value.oneCell']) (by unfold maxLen; omega) (by omega) wd (Below.refl _ _) (by omega) ?_; intro v8 w8 hown8 hb8)
      have Hown8 : Hid (w8.ownsRow (g + 2) 49 4 v8 (j + 1) ((Se.rdK s st0 (j + 1)).1.flatMap rowCells)) := by
        show World.ownsRow _ _ _ _ _ _ _
        rw [Hsn.out, List.flatMap_append]; exact hown8
      have HR8 : Hid (RdAt w8 g s (Se.rdK s st0 (j + 1)).2) := by show RdAt _ _ _ _; rw [Hss.out]; exact HRd4.out.below hb8 (by omega)
      have Hb48 : Hid (-9223372036854775808 ≤ (Se.rdK s st0 (j + 1)).2.1 ∧ (Se.rdK s st0 (j + 1)).2.1 ≤ 9223372036854775807) := by show _ ∧ _; rw [Hss.out]; exact b4.out
      have Hp8 := Lib.hid ((hb8.cell (p := ⟨g + 1, 0, none⟩) (show g + 1 < g + 2 by omega)).trans Hpd.out)
      have hs8 := hb8.size
      have Hbw8 : Hid (Below g w w8) := hbw.out.trans ((Hod.out.below (B := g) (fun k hk e => by omega) (by omega)).trans (hb8.mono (by omega)))
      clear hown8 hb8
      go_wp2_with fail
      go_roundw
      case rel => exact ⟨j + 1, by omega, by go_num, HR8, Hown8, Hb48, Hp8, by omega, Hbw8⟩
      case measure => simp [intOf]; omega
    · obtain rfl : j = n := by omega
      have hcp' := hcp.out
      have Hbw' : Hid (Below w.heap.size w wr) := by show Below _ _ _; rw [← Hg.out]; exact hbw.out
      have hwg : w.heap.size ≤ g + 2 := by rw [Hg.out]; omega
      have hlen := rdK_len s st0 j
      have HOk' := Lib.hid (fun rows hk hm => HOk.out rows hk hm)
      have HNo' := Lib.hid (fun rows a bad hk h => HNo.out rows a bad hk h)
      clear HOk HNo
      generalize Se.rdK s st0 j = q at *
      obtain ⟨rows, a, bad⟩ := q
      simp only at hRd hown hbd hlen
      obtain ⟨Aq, cq, rfl, hnq, hrd⟩ := own_slice hown.out
      have Hrd : Hid (Reads wr wr.heap.size 4 Aq rows.length (rows.flatMap rowCells)) := by show Reads _ _ _ _ _ _; rw [hlen]; exact hrd
      have HOv := Lib.hid (over_any s a bad wr g hRd.out)
      have hE := Lib.hid (fun h => HOk'.out rows h)
      have hN := Lib.hid (fun h => HNo'.out rows a bad rfl h)
      have Hlen := Lib.hid hlen
      clear HOk' HNo' hrd hlen
      cases hov : (!bad && a == (s.size : Int))
      · have Hres := Lib.hid (hN.out (.inl hov))
        rw [hov] at HOv
        clear hov hE hN
        go_wp2_with fail
        refine HOv.out.mono ?_
        rintro e w9 ⟨rfl, n9, rfl⟩
        go_wp2_with fail
        go_ret2
        exact ⟨_, by rw [Hres.out]; rfl, by rw [Hres.out]; exact own_nil _ _ _ _, below_drewN Hbw'.out _⟩
      · rw [hov] at HOv
        have hbad : bad = false ∧ a = (s.size : Int) := by simpa using hov
        have HM := fun n9 => Lib.hid (semay_any Aq cq rows (wr.drewN n9) wr.heap.size (Hrd.out.drewN n9))
        rw [Hlen.out] at HM
        cases hmay : Se.mayB rows
        · have Hres := Lib.hid (hN.out (.inr hmay))
          rw [hmay] at HM
          clear hov hE hN hbad hmay
          go_wp2_with fail
          refine HOv.out.mono ?_
          rintro e w9 ⟨rfl, n9, rfl⟩
          go_wp2_with fail
          refine (HM n9).out.mono ?_
          rintro e w10 ⟨rfl, n10, rfl⟩
          go_wp2_with fail
          go_ret2
          exact ⟨_, by rw [Hres.out]; rfl, by rw [Hres.out]; exact own_nil _ _ _ _, below_drewN Hbw'.out _⟩
        · have Hres := Lib.hid (hE.out (by rw [hbad.1, hbad.2]) hmay)
          rw [hmay] at HM
          clear hov hE hN hbad hmay
          go_wp2_with fail
          refine HOv.out.mono ?_
          rintro e w9 ⟨rfl, n9, rfl⟩
          go_wp2_with fail
          refine (HM n9).out.mono ?_
          rintro e w10 ⟨rfl, n10, rfl⟩
          go_wp2_with fail
          go_ret2
          exact ⟨_, by rw [Hres.out]; rfl, by rw [Hres.out, Hlen.out]; exact own_drewN (own_down hown.out hwg) (n9 + n10), below_drewN Hbw'.out _⟩
end Go.Proofs.Ytllbjegnjjeaeaa
