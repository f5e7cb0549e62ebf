/- The walk through QueryAlike. -/
import Derived.Test.YthdbmgjlegpbaaaKRfCom
import Derived.Test.YthdbmgjlegpbaaaKRfAlikeP
namespace Go.Proofs.Ythdbmgjlegpbaaa
open Go.RowKit
set_option linter.unusedVariables false

set_option maxRecDepth 100000 in
set_option maxHeartbeats 4000000 in
theorem queryAlike_go {w : World} (A0 : Option Addr) (c0 : Nat) (z0 : List Lay) (ok0 : ListsOk w A0 z0) (A1 : Option Addr) (c1 : Nat) (z1 : List Pt.Point) (rd1 : Reads w w.heap.size 3 A1 z1.length (z1.flatMap pointCells)) (nb1 : z1.length ≤ 1048576) (s : ByteArray) (t : Int) :
    Calls Try.prog 9 #[.slice A0 z0.length c0, .slice A1 z1.length c1, .string s, .int .i64 t] w fun e w' => e = .returned (.bool true) ∧ Below w.heap.size w w' := by
  have HF := fun W (h : Below w.heap.size w W) => Lib.hid (files_of ok0 c0 false W h)
  obtain ⟨X, hX⟩ : ∃ X, X = Rf.segsR (z0.map (·.2.2)) false := ⟨_, rfl⟩
  have hXl : X.length ≤ 513 := by rw [hX]; exact Rf.segs_len _ _
  have hXs : ∀ s ∈ X, s.size ≤ 140737488355328 := fun s hs => by
    have := Rf.segs_size _ _ s (by rw [← hX]; exact hs)
    omega
  have hXo : Qr.okS X = true := by rw [hX]; exact Rf.segs_ok _
  obtain ⟨q, hq1, hq2⟩ := Qm.alike X z1 s t hXo
  rw [← hX] at HF
  have htl := Rf.tot_len X z1 hXl (by omega)
  have HLs := Lib.hid (fun (W : World) (Ax : Option Addr) (cx : Nat) (hx : Reads W W.heap.size 1 Ax X.length (X.map Value.string)) (hb : Below w.heap.size w W) => last_any Ax cx X (A1, c1, z1) s t W W.heap.size hx ((rd1.below hb).more hb.size) (Nat.le_refl _) (by omega) hXs (by dsimp only; omega))
  have HRg := Lib.hid (fun (W : World) (Ax : Option Addr) (cx : Nat) (hx : Reads W W.heap.size 1 Ax X.length (X.map Value.string)) (hb : Below w.heap.size w W) => range_any Ax cx X (A1, c1, z1) s t t W W.heap.size hx (Nat.le_refl _) (by omega) hXs ((rd1.below hb).more hb.size) (by dsimp only; omega))
  have HMo := Lib.hid (fun (W : World) (hb : Below w.heap.size w W) => merge_any (A1, c1, z1) (A1, c1, z1) w.heap.size W (rd1.below hb) (rd1.below hb) hb.size (by dsimp only; omega))
  unfold layV at HLs HRg HMo
  dsimp only at HLs HRg HMo
  rw [hq2] at HLs
  rw [hq1] at HRg
  unfold LastPost at HLs
  unfold RangePost at HRg
  dsimp only at HLs HRg
  have hms : Ig.Sorted (Qm.mergeP z1 z1) := Ig.setAll_sorted Ig.sorted_nil _
  have hml := Qm.mergeP_len z1 z1
  have HM1 := Lib.hid (Qm.merge_self hms)
  have HM2 := Lib.hid (Qm.merge_nil_left hms)
  have HM3 := Lib.hid (Qm.merge_nil_right hms)
  generalize Qm.mergeP z1 z1 = M at *
  clear hX ok0 rd1 hXs hXo hq1 hq2 hms htl
  unfold TxtPost at HF
  go_enter Try.func9, Try.ntmps9
  go_wp2_with fail
  refine (awake15 _).mono ?_
  rintro e w1 ⟨rfl, hb1⟩
  have Hb1 := Lib.hid hb1
  have hs1 := hb1.size
  have HF1 := HF w1 hb1
  clear hb1 HF
  go_wp2_with fail
  refine HF1.out.mono ?_
  rintro e w2 ⟨v2, rfl, hown2, hb2⟩
  obtain ⟨Ax, cx, rfl, _, hrx⟩ := own_slice hown2
  have Hrx := Lib.hid hrx
  have Hb2 : Hid (Below w.heap.size w w2) := Hb1.out.trans (hb2.mono hs1)
  have hs2 := Hb2.out.size
  have HL2 := Lib.hid (HLs.out w2 Ax cx hrx Hb2.out)
  clear HF1 hown2 hb2 hrx HLs Hb1
  go_wp2_with fail
  refine HL2.out.mono ?_
  rintro e w3 ⟨rfl, hb3⟩
  have hs23 := hb3.size
  have Hb3 : Hid (Below w.heap.size w w3) := Hb2.out.trans (hb3.mono hs2)
  have hs3 := Hb3.out.size
  have HR3 := Lib.hid (HRg.out w3 Ax cx ((Hrx.out.below hb3).more hs23) Hb3.out)
  clear HL2 hb3 HRg Hrx Hb2
  go_wp2_with fail
  refine HR3.out.mono ?_
  rintro e w4 ⟨v4, rfl, hown4, hb4⟩
  obtain ⟨A4, c4, rfl, _, hr4⟩ := own_slice hown4
  have Hr4 := Lib.hid hr4
  have Hb4 : Hid (Below w.heap.size w w4) := Hb3.out.trans (hb4.mono hs3)
  have hs4 := Hb4.out.size
  have HM4 := Lib.hid (HMo.out w4 Hb4.out)
  clear HR3 hown4 hb4 hr4 HMo Hb3
  go_wp2_with fail
  refine HM4.out.mono ?_
  rintro e w5 ⟨v5, rfl, hown5, hb5⟩
  obtain ⟨A5, c5, rfl, _, hr5⟩ := own_slice hown5
  have Hb5 : Hid (Below w.heap.size w w5) := Hb4.out.trans (hb5.mono hs4)
  have hs5 := Hb5.out.size
  have Hr45 : Hid (Reads w5 w5.heap.size 3 A4 q.toList.length (q.toList.flatMap pointCells)) := (Hr4.out.below hb5).more hb5.size
  have HMa := Lib.hid (merge_any (A5, c5, M) (A5, c5, M) w5.heap.size w5 hr5 hr5 (Nat.le_refl _) (by dsimp only; omega))
  have HMb := Lib.hid (fun W (h : Below w5.heap.size w5 W) => merge_any (none, 0, []) (A5, c5, M) w5.heap.size W Reads.none_ (hr5.below h) h.size (by dsimp only [List.length_nil]; omega))
  have HMc := Lib.hid (fun W (h : Below w5.heap.size w5 W) => merge_any (A5, c5, M) (none, 0, []) w5.heap.size W (hr5.below h) Reads.none_ h.size (by dsimp only [List.length_nil]; omega))
  have HSm := Lib.hid (fun (W : World) (B : Option Addr) (d : Nat) (b : Nat) (h : Below w5.heap.size w5 W) (hB : Reads W b 3 B M.length (M.flatMap pointCells)) => samePoints_true B A5 d c5 M W b w5.heap.size hB (hr5.below h) (by omega))
  unfold layV RowOf at HMa HMb HMc
  dsimp only [List.length_nil] at HMa HMb HMc
  rw [HM1.out] at HMa
  rw [HM2.out] at HMb
  rw [HM3.out] at HMc
  clear HM4 hown5 hb5 hr5 Hr4 Hb4 HM1 HM2 HM3
  cases q with
  | none =>
    dsimp only [Option.toList, Option.map, Option.getD, Option.isSome, List.length_nil] at *
    clear Hr45
    go_wp2_with fail
    refine (errno_any _ _).mono ?_
    rintro e w' ⟨rfl, rfl⟩
    go_wp2_with fail
    refine (errno_any _ _).mono ?_
    rintro e w' ⟨rfl, rfl⟩
    go_wp2_with fail
    refine HMa.out.mono ?_
    rintro e w6 ⟨v6, rfl, hown6, hb6⟩
    have Hb6 := Lib.hid hb6
    obtain ⟨A6, c6, rfl, _, hr6⟩ := own_slice hown6
    have HS6 := Lib.hid (HSm.out w6 A6 c6 _ hb6 hr6)
    clear hown6 hb6 hr6 HMa
    go_wp2_with fail
    refine HS6.out.mono ?_
    rintro e w' ⟨rfl, n6, rfl⟩
    have hb7 : Below w5.heap.size w5 (w6.drewN n6) := below_drewN Hb6.out n6
    generalize w6.drewN n6 = w7 at *
    have Hb7 := Lib.hid hb7
    have HMb7 := Lib.hid (HMb.out w7 hb7)
    clear HS6 hb7 HMb Hb6
    go_wp2_with fail
    refine HMb7.out.mono ?_
    rintro e w8 ⟨v8, rfl, hown8, hb8⟩
    have hb58 := Hb7.out.trans (hb8.mono Hb7.out.size)
    obtain ⟨A8, c8, rfl, _, hr8⟩ := own_slice hown8
    have HS8 := Lib.hid (HSm.out w8 A8 c8 _ hb58 hr8)
    have Hb8 := Lib.hid hb58
    clear hown8 hb8 hr8 HMb7 hb58 Hb7
    go_wp2_with fail
    refine HS8.out.mono ?_
    rintro e w' ⟨rfl, n8, rfl⟩
    have hb9 : Below w5.heap.size w5 (w8.drewN n8) := below_drewN Hb8.out n8
    generalize w8.drewN n8 = w9 at *
    have Hb9 := Lib.hid hb9
    have HMc9 := Lib.hid (HMc.out w9 hb9)
    clear HS8 hb9 HMc Hb8
    go_wp2_with fail
    refine HMc9.out.mono ?_
    rintro e w10 ⟨v10, rfl, hown10, hb10⟩
    have hb510 := Hb9.out.trans (hb10.mono Hb9.out.size)
    obtain ⟨A10, c10, rfl, _, hr10⟩ := own_slice hown10
    have HS10 := Lib.hid (HSm.out w10 A10 c10 _ hb510 hr10)
    have Hb10 := Lib.hid hb510
    clear hown10 hb10 hr10 HMc9 hb510 Hb9 HSm
    go_wp2_with fail
    refine HS10.out.mono ?_
    rintro e w' ⟨rfl, n10, rfl⟩
    have Hb11 : Hid (Below w.heap.size w (w10.drewN n10)) := Hb5.out.trans ((below_drewN Hb10.out n10).mono hs5)
    clear HS10 Hb10
    go_wp2_with fail
    go_ret
    exact ⟨rfl, Hb11.out⟩
  | some p =>
    obtain ⟨pn, pt, pv⟩ := p
    dsimp only [Option.toList, Option.map, Option.getD, Option.isSome, List.length_cons, List.length_nil] at *
    obtain ⟨b4, off4, rfl, hbl4, hc4⟩ := Hr45.out.2 (by omega)
    have hcell : w5.cell? ⟨b4, off4 + 2, none⟩ = some (.int .i64 pv) := hc4 2 _ rfl
    have hpv : (pv != pv) = false := by simp
    clear Hr45 hc4
    go_wp2_with fail
    refine (errno_any _ _).mono ?_
    rintro e w' ⟨rfl, rfl⟩
    go_wp2_with fail
    refine (errno_any _ _).mono ?_
    rintro e w' ⟨rfl, rfl⟩
    go_wp2_with fail
    refine HMa.out.mono ?_
    rintro e w6 ⟨v6, rfl, hown6, hb6⟩
    have Hb6 := Lib.hid hb6
    obtain ⟨A6, c6, rfl, _, hr6⟩ := own_slice hown6
    have HS6 := Lib.hid (HSm.out w6 A6 c6 _ hb6 hr6)
    clear hown6 hb6 hr6 HMa hcell
    go_wp2_with fail
    refine HS6.out.mono ?_
    rintro e w' ⟨rfl, n6, rfl⟩
    have hb7 : Below w5.heap.size w5 (w6.drewN n6) := below_drewN Hb6.out n6
    generalize w6.drewN n6 = w7 at *
    have Hb7 := Lib.hid hb7
    have HMb7 := Lib.hid (HMb.out w7 hb7)
    clear HS6 hb7 HMb Hb6
    go_wp2_with fail
    refine HMb7.out.mono ?_
    rintro e w8 ⟨v8, rfl, hown8, hb8⟩
    have hb58 := Hb7.out.trans (hb8.mono Hb7.out.size)
    obtain ⟨A8, c8, rfl, _, hr8⟩ := own_slice hown8
    have HS8 := Lib.hid (HSm.out w8 A8 c8 _ hb58 hr8)
    have Hb8 := Lib.hid hb58
    clear hown8 hb8 hr8 HMb7 hb58 Hb7
    go_wp2_with fail
    refine HS8.out.mono ?_
    rintro e w' ⟨rfl, n8, rfl⟩
    have hb9 : Below w5.heap.size w5 (w8.drewN n8) := below_drewN Hb8.out n8
    generalize w8.drewN n8 = w9 at *
    have Hb9 := Lib.hid hb9
    have HMc9 := Lib.hid (HMc.out w9 hb9)
    clear HS8 hb9 HMc Hb8
    go_wp2_with fail
    refine HMc9.out.mono ?_
    rintro e w10 ⟨v10, rfl, hown10, hb10⟩
    have hb510 := Hb9.out.trans (hb10.mono Hb9.out.size)
    obtain ⟨A10, c10, rfl, _, hr10⟩ := own_slice hown10
    have HS10 := Lib.hid (HSm.out w10 A10 c10 _ hb510 hr10)
    have Hb10 := Lib.hid hb510
    clear hown10 hb10 hr10 HMc9 hb510 Hb9 HSm
    go_wp2_with fail
    refine HS10.out.mono ?_
    rintro e w' ⟨rfl, n10, rfl⟩
    have Hb11 : Hid (Below w.heap.size w (w10.drewN n10)) := Hb5.out.trans ((below_drewN Hb10.out n10).mono hs5)
    clear HS10 Hb10
    go_wp2_with fail
    go_ret
    exact ⟨rfl, Hb11.out⟩
theorem queryAlike_walk {w : World} (A0 : Option Addr) (c0 : Nat) (z0 : List Lst) (A1 : Option Addr) (c1 : Nat) (z1 : List Pt.Point) (a2 : ByteArray) (a3 : Int) (rd0 : Reads w w.heap.size 1 A0 z0.length (z0.map lstV)) (ok0 : ∀ y ∈ z0, LstOk w y) (rd1 : Reads w w.heap.size 3 A1 z1.length (z1.flatMap pointCells)) (wf1 : ∀ f ∈ z1, (Lit.int .i64 f.2.1).wf = true ∧ (Lit.int .i64 f.2.2).wf = true ∧ f.1.size ≤ maxLen) (w2 : a2.size ≤ maxLen) (w3 : (Lit.int .i64 a3).wf = true) (ub : (z0.map fun y : Lst => (y.2.2.map fun p : ByteArray × Int × Int => p.1.size + 4).sum).sum + (z1.map fun p : ByteArray × Int × Int => p.1.size + 4).sum + a2.size ≤ 1048576) (lb0 : z0.length ≤ 1048576) :
    Calls Try.prog 9 #[.slice A0 z0.length c0, .slice A1 z1.length c1, .string a2, .int .i64 a3] w fun e w' => e = .returned (.bool true) ∧ Below w.heap.size w w' := by
  have h1 := sum_ge_length (fun p : ByteArray × Int × Int => p.1.size + 4) 4 (fun _ => by omega) z1
  exact queryAlike_go A0 c0 z0 (listsOk_of rd0 ok0 lb0 (by omega)) A1 c1 z1 rd1 (by omega) a2 a3
end Go.Proofs.Ythdbmgjlegpbaaa
