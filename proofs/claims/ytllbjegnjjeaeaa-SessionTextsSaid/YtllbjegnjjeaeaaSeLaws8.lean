/- The walk through SessionTexts. -/
import Derived.Test.YtllbjegnjjeaeaaSeLaws4
import Derived.Test.YtllbjegnjjeaeaaSeRput
import Derived.Test.YtllbjegnjjeaeaaSeRget
import Derived.Test.YtllbjegnjjeaeaaSpoilRows
namespace Go.Proofs.Ytllbjegnjjeaeaa
open Go.RowKit
set_option linter.unusedVariables false

theorem getR_len (s : ByteArray) : (Se.getR s).1.length ≤ 4 := by
  have h := Pt.rdNum_range s 0 4 (0, false) (by omega) (by omega)
  unfold Se.getR
  split
  · simp only [rdK_len]; omega
  · simp
set_option maxRecDepth 100000 in
set_option maxHeartbeats 4000000 in
theorem sessionTexts_walk {w : World} (A0 : Option Addr) (c0 : Nat) (z0 : List Se.Row) (a1 : ByteArray) (rd0 : Reads w w.heap.size 4 A0 z0.length (z0.flatMap rowCells)) (wf0 : ∀ f ∈ z0, (Lit.int .i64 f.1).wf = true ∧ (Lit.int .i64 f.2.1).wf = true ∧ (Lit.int .i64 f.2.2.1).wf = true ∧ (Lit.int .i64 f.2.2.2).wf = true) (nb0 : z0.length * 32 ≤ 140737488351232) (b1 : a1.size ≤ 140737488351232) :
    Calls Try.prog 4 #[.slice A0 z0.length c0, .string a1] w fun e w' => e = .returned (.bool true) ∧ Below w.heap.size w w' := by
  have Hr0 := Lib.hid rd0
  have HP := fun g cap W B (hr : Reads W B 4 (some ⟨g, 0, none⟩) z0.length (z0.flatMap rowCells)) (hB : B ≤ W.heap.size) => Lib.hid (seput_any (some ⟨g, 0, none⟩) cap z0 W B hr hB)
  have HRP := fun W (hb : Below w.heap.size w W) => Lib.hid (rseput_any A0 c0 z0 W w.heap.size (Hr0.out.below hb) hb.size (by omega))
  have HG := fun W => Lib.hid (seget_any a1 W (by omega))
  have HRG := fun W => Lib.hid (rseget_any a1 W (by omega))
  have HLd := fun W (hb : Below w.heap.size w W) => Lib.hid (lendRows_any A0 c0 z0 W w.heap.size (Hr0.out.below hb) hb.size nb0)
  have hql := getR_len a1
  generalize Se.getR a1 = q at *
  generalize Se.putR z0 = p at *
  obtain ⟨R, r⟩ := q
  obtain ⟨T, t⟩ := p
  unfold PutPost at HP HRP
  unfold SGetPost at HG HRG
  simp only at HP HRP HG HRG hql
  have hrr : (r != r) = false := by simp
  have htt : (t != t) = false := by simp
  have hss : (T.toList == T.toList) = true := by simp
  clear wf0 rd0
  go_enter Try.func4, Try.ntmps4
  go_wp2_with fail
  refine (HLd w (Below.refl _ _)).out.mono ?_
  rintro e w1 ⟨g, cap, rfl, hg, hcap, hmax, hown1, hb1⟩
  have hrX := Reads.of_own hown1
  have hrH := hrX.head (xs := z0.flatMap rowCells) (ys := roomRows) (flat_length rowCells 4 (fun _ => rfl) z0)
  have HK := fun W (hx : Below w1.heap.size w1 W) (hw : Below w.heap.size w W) => Lib.hid (keptRows_true A0 g c0 cap z0 W w1.heap.size w.heap.size (hrX.below hx) (Hr0.out.below hw) hcap (by omega))
  have HrH := Lib.hid hrH
  have Hb1 : Hid (Below w.heap.size w w1) := hb1
  have hs1 := Hb1.out.size
  clear hown1 hb1 hrX hrH HLd Hr0 hg hmax
  go_wp2_with fail
  refine (HP g cap w1 w1.heap.size HrH.out (Nat.le_refl _)).out.mono ?_
  rintro e w2 ⟨rfl, hb2⟩
  have Hb12 : Hid (Below w1.heap.size w1 w2) := hb2
  have Hb02 : Hid (Below w.heap.size w w2) := Hb1.out.trans (hb2.mono hs1)
  have hs2 := hb2.size
  clear hb2 HP
  go_wp2_with fail
  refine (HRP w2 Hb02.out).out.mono ?_
  rintro e w3 ⟨rfl, hb3⟩
  have Hb13 : Hid (Below w1.heap.size w1 w3) := Hb12.out.trans (hb3.mono hs2)
  have hs3 := Hb13.out.size
  clear hb3 HRP Hb12 Hb02
  go_wp2_with fail
  refine (HG w3).out.mono ?_
  rintro e w4 ⟨v4, rfl, hown4, hb4⟩
  obtain ⟨A4, c4, rfl, hnc4, _⟩ := own_slice hown4
  have Hown4 := Lib.hid hown4
  have Hb34 := Lib.hid hb4
  have hs4 := hb4.size
  clear hown4 hb4
  go_wp2_with fail
  refine (HG w4).out.mono ?_
  rintro e w5 ⟨v5, rfl, hown5, hb5⟩
  obtain ⟨A5, c5, rfl, hnc5, _⟩ := own_slice hown5
  have Hown5 := Lib.hid hown5
  have Hb45 := Lib.hid hb5
  have hs5 := hb5.size
  clear hown5 hb5
  go_wp2_with fail
  refine (HRG w5).out.mono ?_
  rintro e w6 ⟨v6, rfl, hown6, hb6⟩
  obtain ⟨A6, c6, rfl, hnc6, _⟩ := own_slice hown6
  have Hown6 := Lib.hid hown6
  have Hb56 := Lib.hid hb6
  have Hb46 : Hid (Below w4.heap.size w4 w6) := Hb45.out.trans (hb6.mono hs5)
  have Hb16 : Hid (Below w1.heap.size w1 w6) := Hb13.out.trans ((Hb34.out.trans (Hb46.out.mono hs4)).mono hs3)
  have Hb06 : Hid (Below w.heap.size w w6) := Hb1.out.trans (Hb16.out.mono hs1)
  have HO4 := Lib.hid (own_only Hown4.out (Only.new (fun _ => False) Hb46.out) (fun _ _ h => h))
  have HO5 := Lib.hid (own_only Hown5.out (Only.new (fun _ => False) Hb56.out) (fun _ _ h => h))
  have Hlt4 : Hid (∀ k, Value.ownBlock (.slice A4 R.length c4) = some k → w3.heap.size ≤ k ∧ k < w4.heap.size) := fun k hk => own_lt Hown4.out hk
  clear hown6 hb6
  go_wp2_with fail
  refine (errno_any _ _).mono ?_
  rintro e w' ⟨rfl, rfl⟩
  go_wp2_with fail
  refine (HK w6 Hb16.out Hb06.out).out.mono ?_
  rintro e w7 ⟨rfl, n7, rfl⟩
  go_wp2_with fail
  refine (sameRows_true A4 A6 c4 c6 R (w6.drewN n7) _ _ (Reads.of_own (own_drewN HO4.out n7)) (Reads.of_own (own_drewN Hown6.out n7)) (by omega)).mono ?_
  rintro e w8 ⟨rfl, n8, rfl⟩
  go_wp2_with fail
  refine (errno_any _ _).mono ?_
  rintro e w' ⟨rfl, rfl⟩
  go_wp2_with fail
  refine (errno_any _ _).mono ?_
  rintro e w' ⟨rfl, rfl⟩
  go_wp2_with fail
  refine (spoilRows_any A4 c4 R _ w3.heap.size (own_drewN HO4.out (n7 + n8)) (by omega)).mono ?_
  rintro e w9 ⟨rfl, ho9⟩
  have hO5' := own_only (own_drewN HO5.out (n7 + n8)) ho9 (fun g hg e => by have := (Hlt4.out g e).2; have := (own_lt HO5.out hg).1; omega)
  have hO6' := own_only (own_drewN Hown6.out (n7 + n8)) ho9 (fun g hg e => by have := (Hlt4.out g e).2; have := (own_lt Hown6.out hg).1; omega)
  have Hr5 := Lib.hid (Reads.of_own hO5')
  have Hr6 := Lib.hid (Reads.of_own hO6')
  have Hb19 : Hid (Below w1.heap.size w1 w9) := (below_drewN Hb16.out (n7 + n8)).trans (ho9.below (fun k hk e => by have := (Hlt4.out k e).1; omega) (below_drewN Hb16.out (n7 + n8)).size)
  have Hb09 : Hid (Below w.heap.size w w9) := Hb1.out.trans (Hb19.out.mono hs1)
  clear ho9 hO5' hO6'
  go_wp2_with fail
  refine (sameRows_true A5 A6 c5 c6 R _ _ _ Hr5.out Hr6.out (by omega)).mono ?_
  rintro e w10 ⟨rfl, n10, rfl⟩
  go_wp2_with fail
  refine (awake10 _).mono ?_
  rintro e w12 ⟨rfl, hb12⟩
  have Hb12 : Hid (Below w.heap.size w w12) := (below_drewN Hb09.out n10).trans (hb12.mono (below_drewN Hb09.out n10).size)
  clear hb12
  go_wp2_with fail
  go_ret
  exact ⟨rfl, Hb12.out⟩
end Go.Proofs.Ytllbjegnjjeaeaa
