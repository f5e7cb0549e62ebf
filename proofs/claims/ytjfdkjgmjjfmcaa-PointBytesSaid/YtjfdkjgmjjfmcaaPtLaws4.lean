/- The walks through SpoilPoints and PointBytes. -/
import Derived.Test.YtjfdkjgmjjfmcaaPtRefGet
import Derived.Test.YtjfdkjgmjjfmcaaPtLaws3
namespace Go.Proofs.Ytjfdkjgmjjfmcaa
open Go.RowKit
set_option linter.unusedVariables false

def SpoilOk (cur : Array Value) (n : Nat) : Prop := ∀ j, j < n → ∃ x, cur[j * 3 + 2]? = some (.int .i64 x)
theorem SpoilOk.set_ {cur : Array Value} {n k : Nat} (h : SpoilOk cur n) (hk : k < n) (y : Int) : SpoilOk (cur.setIfInBounds (k * 3 + 2) (.int .i64 y)) n := by
  intro j hj
  by_cases e : j = k
  · subst e
    obtain ⟨x, hx⟩ := h j hj
    have hlt := (Array.getElem?_eq_some_iff.1 hx).1
    exact ⟨y, by rw [Array.getElem?_setIfInBounds]; simp [hlt]⟩
  · obtain ⟨x, hx⟩ := h j hj
    exact ⟨x, by rw [Array.getElem?_setIfInBounds, if_neg (by omega)]; exact hx⟩
set_option maxRecDepth 100000 in
set_option maxHeartbeats 400000 in
theorem spoilPoints_any (A : Option Addr) (c : Nat) (ps : List Pt.Point) (w : World) (base : Nat) (hown : w.ownsRow base 85 3 (.slice A ps.length c) ps.length (ps.flatMap pointCells)) (hn : ps.length ≤ 140737488355328) :
    Calls Try.prog 63 #[.slice A ps.length c] w fun e w' => e = .returned (.tuple #[]) ∧ Only (fun k => Value.ownBlock (.slice A ps.length c) = some k) w w' := by
  rcases hown.2 with ⟨hv, h0⟩ | ⟨g, cap, cur, hv, hg, hh, hnc, hcm, hcs, hx⟩
  · injection hv with e1 e2 e3
    subst e1
    have hz : ps.length < 1 := by omega
    have hz0 : ¬ 0 < ps.length := by omega
    have hneg : decide ((0 : Int) < (ps.length : Int)) = false := decide_eq_false (by omega)
    clear hown h0 e2
    go_enter Try.func63, Try.ntmps63
    go_wp2
    go_loop [2] (fun i => i = .int .i64 0) (fun _ => 0)
    case atStart => rfl
    case round =>
      subst hrel
      go_wp2
      go_end0
      exact ⟨rfl, Only.refl _ _⟩
  · injection hv with e1 e2 e3
    subst e1; subst e3
    have hB : Blk w g 85 cur := hh
    have hS : SpoilOk cur ps.length := fun j hj => by
      have h1 := hown.cells (g := g) rfl (j * 3 + 2) (.int .i64 ps[j].2.2) (by rw [flat_at pointCells 3 (fun _ => rfl) ps j 2 hj (by omega)]; rfl)
      rw [add_mk, Nat.zero_add, hB.cell] at h1
      exact ⟨_, h1⟩
    have HB := Lib.hid hB
    have HS := Lib.hid hS
    clear hown hh hcs hx hB hS e2
    go_enter Try.func63, Try.ntmps63
    go_wp2
    go_loopw [2] (fun i wr => ∃ (k : Nat) (cs : Array Value), k ≤ ps.length ∧ i = .int .i64 (k : Int) ∧ Hid (Blk wr g 85 cs) ∧ Hid (SpoilOk cs ps.length) ∧ Hid (Only (fun k => k = g) w wr)) (fun i _ => ps.length - (intOf i).toNat)
    case atStart => exact ⟨0, cur, Nat.zero_le _, rfl, HB, HS, Lib.hid (Only.refl _ _)⟩
    case round =>
      obtain ⟨k, cs, hk, rfl, hb, hs, ho⟩ := hrel
      by_cases hlt : k < ps.length
      · obtain ⟨x, hxk⟩ := hs.out k hlt
        have hc : wr.cell? ⟨g, k * 3 + 2, none⟩ = some (.int .i64 x) := (hb.out.cell _).trans hxk
        have hf : wr.frozen? ⟨g, k * 3 + 2, none⟩ = false := hb.out.frozen _
        clear hxk
        go_wp2
        go_roundw
        case rel => exact ⟨k + 1, _, by omega, by go_num, Lib.hid (hb.out.set_ _ _), Lib.hid (hs.out.set_ hlt _), Lib.hid (ho.out.setCell (fun _ => rfl) _)⟩
        case measure => simp [intOf]; omega
      · go_wp2
        go_end0
        exact ⟨rfl, ho.out.mono (fun j _ e => by rw [e]; rfl)⟩

set_option maxRecDepth 100000 in
set_option maxHeartbeats 2000000 in
theorem pointBytes_walk {w : World} (A0 : Option Addr) (c0 : Nat) (z0 : List Pt.Point) (a1 : ByteArray) (a2 : Int) (rd0 : Reads w w.heap.size 3 A0 z0.length (z0.flatMap pointCells)) (wf0 : ∀ p ∈ z0, (Lit.int .i64 p.2.1).wf = true ∧ (Lit.int .i64 p.2.2).wf = true ∧ p.1.size ≤ maxLen) (nb0 : z0.length * 32 ≤ 140737488351232) (b1 : a1.size ≤ 140737488351232) (w2 : (Lit.int .i64 a2).wf = true) :
    Calls Try.prog 17 #[.slice A0 z0.length c0, .string a1, .int .i64 a2] w fun e w' => e = .returned (.bool true) ∧ Below w.heap.size w w' := by
  have hwf := pt_wf_of wf0
  have ha2 := wf_int w2
  have HLd := Lib.hid (lendPoints_any A0 c0 z0 w w.heap.size rd0 (Nat.le_refl _) nb0)
  have HRb := fun W (hb : Below w.heap.size w W) => Lib.hid (rbatch_any A0 c0 z0 W w.heap.size (rd0.below hb) hb.size (by omega) hwf)
  have HG := fun W => Lib.hid (get_any a1 a2 W (by omega) ha2)
  have HRG := fun W => Lib.hid (rgetPoints_any a1 a2 W (by omega) ha2)
  have HRl : (Pt.getPts a1 a2).1.length ≤ 8 := by
    unfold Pt.getPts
    split
    · simp
    · unfold Pt.readPts
      simp only
      split
      · simp
      · rw [Pt.rdPts_length]
        have := Pt.rdNum_range a1 0 8 (a2, false) (by omega) (by omega)
        omega
  generalize Pt.getPts a1 a2 = X at *
  obtain ⟨R, to, eR⟩ := X
  simp only at HRl
  have htt : (to != to) = false := by simp
  have hee : (eR != eR) = false := by simp
  have Hrd0 := Lib.hid rd0
  have Hwf := Lib.hid hwf
  clear wf0 hwf rd0 w2
  go_enter Try.func17, Try.ntmps17
  go_wp2_with fail
  refine HLd.out.mono ?_
  rintro e w1 ⟨g, cap, rfl, hg, hcap, hmax, hown1, hb1⟩
  have hrX := Reads.of_own hown1
  have hrH := hrX.head (xs := z0.flatMap pointCells) (ys := roomPoints) (flat_length pointCells 3 (fun _ => rfl) z0)
  have HP := Lib.hid (put_any (some ⟨g, 0, none⟩) cap z0 w1 w1.heap.size hrH (Nat.le_refl _) (by omega) Hwf.out)
  have HK := fun W (hx : Below w1.heap.size w1 W) (hw : Below w.heap.size w W) => Lib.hid (keptPoints_true A0 g c0 cap z0 W w1.heap.size w.heap.size (hrX.below hx) (Hrd0.out.below hw) hcap (by omega))
  have HRp := fun W (hw : Below w.heap.size w W) => Lib.hid (fun hbt => rpoints_any A0 c0 z0 W w.heap.size (Hrd0.out.below hw) hw.size hbt)
  have Hb1 := Lib.hid hb1
  have hs1 := hb1.size
  clear hown1 hb1 hrX hrH HLd Hrd0 Hwf hg hmax
  cases hbt : Pt.batchB z0
  · rw [putR_no hbt] at HP
    rw [hbt] at HRb
    clear HRp hbt
    go_wp2_with fail
    refine HP.out.mono ?_
    rintro e w2 ⟨rfl, hb2⟩
    have Hb2 := Lib.hid hb2
    clear hb2
    simp only
    go_wp2_with fail
    refine (HRb w2 (Hb1.out.trans (Hb2.out.mono hs1))).out.mono ?_
    rintro e w3 ⟨rfl, hb3⟩
    have Hb3 : Hid (Below w1.heap.size w1 w3) := Hb2.out.trans (hb3.mono Hb2.out.size)
    have hs3 := Hb3.out.size
    clear hb3 Hb2
    go_wp2_with fail
    refine (HG _).out.mono ?_
    rintro e w4 ⟨v4, rfl, hown4, hb4⟩
    obtain ⟨A4, c4, rfl, hnc4, hrd4⟩ := own_slice hown4
    have Hown4 := Lib.hid hown4
    have Hrd4 := Lib.hid hrd4
    have Hb4 : Hid (Below w1.heap.size w1 w4) := Hb3.out.trans (hb4.mono Hb3.out.size)
    have hs4 := hb4.size
    clear hown4 hrd4 hb4
    go_wp2_with fail
    refine (HG _).out.mono ?_
    rintro e w5 ⟨v5, rfl, hown5, hb5⟩
    obtain ⟨A5, c5, rfl, hnc5, _⟩ := own_slice hown5
    have Hown5 := Lib.hid hown5
    have Hb5 := Lib.hid hb5
    clear hown5 hb5
    go_wp2_with fail
    refine (HRG _).out.mono ?_
    rintro e w6 ⟨v6, rfl, hown6, hb6⟩
    obtain ⟨A6, c6, rfl, hnc6, hrd6⟩ := own_slice hown6
    have Hown6 := Lib.hid hown6
    have Hrd6 := Lib.hid hrd6
    have Hb6 := Lib.hid hb6
    have Hb46 : Hid (Below w4.heap.size w4 w6) := Hb5.out.trans (hb6.mono Hb5.out.size)
    have Hb16 : Hid (Below w1.heap.size w1 w6) := Hb4.out.trans (Hb46.out.mono Hb4.out.size)
    have Hb06 : Hid (Below w.heap.size w w6) := Hb1.out.trans (Hb16.out.mono hs1)
    have hs5 := Hb5.out.size
    clear hown6 hrd6 hb6
    go_wp2_with fail
    refine (errno_any _ _).mono ?_
    rintro e w' ⟨rfl, rfl⟩
    go_wp2_with fail
    refine (HK w6 Hb16.out Hb06.out).out.mono ?_
    rintro e w7 ⟨rfl, n7, rfl⟩
    go_wp2_with fail
    refine (samePoints_true A4 A6 c4 c6 R _ w4.heap.size w6.heap.size ((Hrd4.out.below Hb46.out).drewN n7) (Hrd6.out.drewN n7) (by omega)).mono ?_
    rintro e w8 ⟨rfl, n8, rfl⟩
    go_wp2_with fail
    refine (errno_any _ _).mono ?_
    rintro e w' ⟨rfl, rfl⟩
    go_wp2_with fail
    refine (errno_any _ _).mono ?_
    rintro e w' ⟨rfl, rfl⟩
    go_wp2_with fail
    have hO4 : (w6.drewN (n7 + n8)).ownsRow w3.heap.size 85 3 (.slice A4 R.length c4) R.length (R.flatMap pointCells) := own_drewN (own_only Hown4.out (Only.new (fun _ => False) Hb46.out) (fun _ _ h => h)) _
    have hO5 : (w6.drewN (n7 + n8)).ownsRow w4.heap.size 85 3 (.slice A5 R.length c5) R.length (R.flatMap pointCells) := own_drewN (own_only Hown5.out (Only.new (fun _ => False) Hb6.out) (fun _ _ h => h)) _
    have hO6 : (w6.drewN (n7 + n8)).ownsRow w5.heap.size 85 3 (.slice A6 R.length c6) R.length (R.flatMap pointCells) := own_drewN Hown6.out _
    have hlt4 : ∀ k, Value.ownBlock (.slice A4 R.length c4) = some k → w3.heap.size ≤ k ∧ k < w4.heap.size := fun k hk => own_lt Hown4.out hk
    have Hlt4 := Lib.hid hlt4
    refine (spoilPoints_any A4 c4 R _ w3.heap.size hO4 (by omega)).mono ?_
    rintro e w9 ⟨rfl, ho9⟩
    have hO5' := own_only hO5 ho9 (fun g hg e => by have := (Hlt4.out g e).2; have := (own_lt hO5 hg).1; omega)
    have hO6' := own_only hO6 ho9 (fun g hg e => by have := (Hlt4.out g e).2; have := (own_lt hO6 hg).1; omega)
    have Hr5 := Lib.hid (Reads.of_own hO5')
    have Hr6 := Lib.hid (Reads.of_own hO6')
    have Hb9 : Hid (Below w.heap.size w w9) := (below_drewN Hb06.out (n7 + n8)).trans (ho9.below (fun k hk e => by have := (Hlt4.out k e).1; omega) (below_drewN Hb06.out (n7 + n8)).size)
    clear hO4 hO5 hO6 hlt4 ho9 hO5' hO6'
    go_wp2_with fail
    refine (samePoints_true A5 A6 c5 c6 R _ _ _ Hr5.out Hr6.out (by omega)).mono ?_
    rintro e w10 ⟨rfl, n10, rfl⟩
    go_wp2_with fail
    refine (awake3 _).mono ?_
    rintro e w11 ⟨rfl, hb11⟩
    have Hb11 : Hid (Below w.heap.size w w11) := (below_drewN Hb9.out n10).trans (hb11.mono (below_drewN Hb9.out n10).size)
    clear hb11
    go_wp2_with fail
    go_ret
    exact ⟨rfl, Hb11.out⟩
  · rw [putR_ok hbt] at HP
    rw [hbt] at HRb
    have HRp' := fun W hw => Lib.hid ((HRp W hw).out hbt)
    clear HRp hbt
    generalize Pt.ptsB z0 = S at *
    go_wp2_with fail
    refine HP.out.mono ?_
    rintro e w2 ⟨rfl, hb2⟩
    have Hb2 := Lib.hid hb2
    clear hb2
    simp only
    go_wp2_with fail
    refine (HRb w2 (Hb1.out.trans (Hb2.out.mono hs1))).out.mono ?_
    rintro e w22 ⟨rfl, hb22⟩
    have Hb22 : Hid (Below w1.heap.size w1 w22) := Hb2.out.trans (hb22.mono Hb2.out.size)
    clear hb22 Hb2
    go_wp2_with fail
    refine (HRp' w22 (Hb1.out.trans (Hb22.out.mono hs1))).out.mono ?_
    rintro e w3 ⟨rfl, hb3⟩
    have Hb3 : Hid (Below w1.heap.size w1 w3) := Hb22.out.trans (hb3.mono Hb22.out.size)
    have hs3 := Hb3.out.size
    clear hb3 Hb22
    go_wp2_with fail
    refine (HG _).out.mono ?_
    rintro e w4 ⟨v4, rfl, hown4, hb4⟩
    obtain ⟨A4, c4, rfl, hnc4, hrd4⟩ := own_slice hown4
    have Hown4 := Lib.hid hown4
    have Hrd4 := Lib.hid hrd4
    have Hb4 : Hid (Below w1.heap.size w1 w4) := Hb3.out.trans (hb4.mono Hb3.out.size)
    have hs4 := hb4.size
    clear hown4 hrd4 hb4
    go_wp2_with fail
    refine (HG _).out.mono ?_
    rintro e w5 ⟨v5, rfl, hown5, hb5⟩
    obtain ⟨A5, c5, rfl, hnc5, _⟩ := own_slice hown5
    have Hown5 := Lib.hid hown5
    have Hb5 := Lib.hid hb5
    clear hown5 hb5
    go_wp2_with fail
    refine (HRG _).out.mono ?_
    rintro e w6 ⟨v6, rfl, hown6, hb6⟩
    obtain ⟨A6, c6, rfl, hnc6, hrd6⟩ := own_slice hown6
    have Hown6 := Lib.hid hown6
    have Hrd6 := Lib.hid hrd6
    have Hb6 := Lib.hid hb6
    have Hb46 : Hid (Below w4.heap.size w4 w6) := Hb5.out.trans (hb6.mono Hb5.out.size)
    have Hb16 : Hid (Below w1.heap.size w1 w6) := Hb4.out.trans (Hb46.out.mono Hb4.out.size)
    have Hb06 : Hid (Below w.heap.size w w6) := Hb1.out.trans (Hb16.out.mono hs1)
    have hs5 := Hb5.out.size
    clear hown6 hrd6 hb6
    go_wp2_with fail
    refine (errno_any _ _).mono ?_
    rintro e w' ⟨rfl, rfl⟩
    go_wp2_with fail
    refine (HK w6 Hb16.out Hb06.out).out.mono ?_
    rintro e w7 ⟨rfl, n7, rfl⟩
    go_wp2_with fail
    refine (samePoints_true A4 A6 c4 c6 R _ w4.heap.size w6.heap.size ((Hrd4.out.below Hb46.out).drewN n7) (Hrd6.out.drewN n7) (by omega)).mono ?_
    rintro e w8 ⟨rfl, n8, rfl⟩
    go_wp2_with fail
    refine (errno_any _ _).mono ?_
    rintro e w' ⟨rfl, rfl⟩
    go_wp2_with fail
    refine (errno_any _ _).mono ?_
    rintro e w' ⟨rfl, rfl⟩
    go_wp2_with fail
    have hO4 : (w6.drewN (n7 + n8)).ownsRow w3.heap.size 85 3 (.slice A4 R.length c4) R.length (R.flatMap pointCells) := own_drewN (own_only Hown4.out (Only.new (fun _ => False) Hb46.out) (fun _ _ h => h)) _
    have hO5 : (w6.drewN (n7 + n8)).ownsRow w4.heap.size 85 3 (.slice A5 R.length c5) R.length (R.flatMap pointCells) := own_drewN (own_only Hown5.out (Only.new (fun _ => False) Hb6.out) (fun _ _ h => h)) _
    have hO6 : (w6.drewN (n7 + n8)).ownsRow w5.heap.size 85 3 (.slice A6 R.length c6) R.length (R.flatMap pointCells) := own_drewN Hown6.out _
    have hlt4 : ∀ k, Value.ownBlock (.slice A4 R.length c4) = some k → w3.heap.size ≤ k ∧ k < w4.heap.size := fun k hk => own_lt Hown4.out hk
    have Hlt4 := Lib.hid hlt4
    refine (spoilPoints_any A4 c4 R _ w3.heap.size hO4 (by omega)).mono ?_
    rintro e w9 ⟨rfl, ho9⟩
    have hO5' := own_only hO5 ho9 (fun g hg e => by have := (Hlt4.out g e).2; have := (own_lt hO5 hg).1; omega)
    have hO6' := own_only hO6 ho9 (fun g hg e => by have := (Hlt4.out g e).2; have := (own_lt hO6 hg).1; omega)
    have Hr5 := Lib.hid (Reads.of_own hO5')
    have Hr6 := Lib.hid (Reads.of_own hO6')
    have Hb9 : Hid (Below w.heap.size w w9) := (below_drewN Hb06.out (n7 + n8)).trans (ho9.below (fun k hk e => by have := (Hlt4.out k e).1; omega) (below_drewN Hb06.out (n7 + n8)).size)
    clear hO4 hO5 hO6 hlt4 ho9 hO5' hO6'
    go_wp2_with fail
    refine (samePoints_true A5 A6 c5 c6 R _ _ _ Hr5.out Hr6.out (by omega)).mono ?_
    rintro e w10 ⟨rfl, n10, rfl⟩
    go_wp2_with fail
    refine (awake3 _).mono ?_
    rintro e w11 ⟨rfl, hb11⟩
    have Hb11 : Hid (Below w.heap.size w w11) := (below_drewN Hb9.out n10).trans (hb11.mono (below_drewN Hb9.out n10).size)
    clear hb11
    go_wp2_with fail
    go_ret
    exact ⟨rfl, Hb11.out⟩
end Go.Proofs.Ytjfdkjgmjjfmcaa
