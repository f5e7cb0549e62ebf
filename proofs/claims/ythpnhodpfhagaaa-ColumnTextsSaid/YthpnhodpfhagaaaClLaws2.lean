/- The walks through ColumnInts and ColumnTexts. -/
import Derived.Test.YthpnhodpfhagaaaClLaws
namespace Go.Proofs.Ythpnhodpfhagaaa
open Go.RowKit
set_option linter.unusedVariables false

theorem goInts_len (l : List UInt8) (n : Nat) (last a : Int) (r : List Int × Int) (h : Cl.goInts l n last a = some r) : r.1.length = n := by
  induction n generalizing last a r with
  | zero => simp [Cl.goInts] at h; rw [← h]; rfl
  | succ n ih =>
    rw [Cl.goInts] at h
    split at h
    · rw [Option.map_eq_some_iff] at h
      obtain ⟨q, hq, rfl⟩ := h
      simp [ih _ _ q hq]
    · cases h
theorem getInts_len (s : ByteArray) (a m : Int) : (Cl.getInts s a m).1.length ≤ 65536 := by
  unfold Cl.getInts
  split
  · simp
  · split
    · simp
    · rename_i h _ r hr
      simp only
      rw [goInts_len _ _ _ _ _ hr]; omega
theorem rdPlaces_len (l : List UInt8) (ws : List ByteArray) (n used : Nat) (a : Int) (r : List ByteArray × Nat × Int) (h : Cl.rdPlaces l ws n used a = some r) : r.1.length = n ∧ ∀ x ∈ r.1, x ∈ ws ∨ x = ⟨#[]⟩ := by
  induction n generalizing used a r with
  | zero => simp [Cl.rdPlaces] at h; rw [← h]; simp
  | succ n ih =>
    rw [Cl.rdPlaces] at h
    split at h
    · rw [Option.map_eq_some_iff] at h
      obtain ⟨q, hq, rfl⟩ := h
      obtain ⟨h1, h2⟩ := ih _ _ q hq
      refine ⟨by simp [h1], fun x hx => ?_⟩
      rcases List.mem_cons.1 hx with rfl | hx
      · rw [List.getD_eq_getElem?_getD]
        cases hg : ws[(Wr.getN l a).1.toNat]? with
        | none => right; rfl
        | some y => left; exact List.mem_of_getElem? hg
      · exact h2 x hx
    · cases h
theorem rdWords_size (s : ByteArray) (n : Nat) (ws : List ByteArray) (a : Int) (r : List ByteArray × Int) (h : Cl.rdWords s n ws a = some r) (hw : ∀ x ∈ ws, x.size ≤ s.size) : ∀ x ∈ r.1, x.size ≤ s.size := by
  induction n generalizing ws a with
  | zero => simp [Cl.rdWords] at h; rw [← h]; exact hw
  | succ n ih =>
    rw [Cl.rdWords] at h
    split at h
    · refine ih _ _ h (fun x hx => ?_)
      rcases List.mem_append.1 hx with hx | hx
      · exact hw x hx
      · simp at hx; subst hx; exact (Pt.getT_at s a 12).2.2
    · cases h
theorem getTexts_len (s : ByteArray) (a m : Int) : (Cl.getTexts s a m).1.length ≤ 65536 := by
  unfold Cl.getTexts
  split
  · simp
  · split
    · simp
    · split
      · simp
      · split
        · simp
        · split
          · rename_i h _ _ _ _ _ _ _ _ hr _
            simp only
            have := (rdPlaces_len _ _ _ _ _ _ hr).1
            simp only at this
            omega
          · simp
theorem getTexts_size (s : ByteArray) (a m : Int) : ∀ x ∈ (Cl.getTexts s a m).1, x.size ≤ s.size := by
  unfold Cl.getTexts
  split
  · simp
  · split
    · simp
    · split
      · simp
      · rename_i hw
        split
        · simp
        · rename_i hr
          split
          · intro x hx
            rcases (rdPlaces_len _ _ _ _ _ _ hr).2 x hx with h | h
            · exact rdWords_size s _ [] _ _ hw (by simp) x h
            · rw [h]; exact Nat.zero_le _
          · simp

set_option maxRecDepth 100000 in
set_option maxHeartbeats 2000000 in
theorem columnInts_walk {w : World} (A0 : Option Addr) (c0 : Nat) (z0 : List Int) (a1 : ByteArray) (a2 a3 : Int) (rd0 : Reads w w.heap.size 1 A0 z0.length (z0.map (Value.int .i64))) (wf0 : ∀ n ∈ z0, (Lit.int .i64 n).wf = true) (nb0 : z0.length * 8 ≤ 140737488351232) (b1 : a1.size ≤ 140737488351232) (w2 : (Lit.int .i64 a2).wf = true) (w3 : (Lit.int .i64 a3).wf = true) :
    Calls Try.prog 3 #[.slice A0 z0.length c0, .string a1, .int .i64 a2, .int .i64 a3] w fun e w' => e = .returned (.bool true) ∧ Below w.heap.size w w' := by
  have ha2 := wf_int w2
  have hwf := fun x hx => wf_int (wf0 x hx)
  have HLd := Lib.hid (lendInts_any A0 c0 z0 w w.heap.size rd0 (Nat.le_refl _) nb0)
  have HRb := fun W (hb : Below w.heap.size w W) => Lib.hid (rints_any A0 c0 z0 W w.heap.size (rd0.below hb) hb.size (by omega) hwf)
  have HG := fun W => Lib.hid (getInts_any a1 a2 a3 W (by omega) ha2)
  have HRG := fun W => Lib.hid (rgetInts_any a1 a2 a3 W (by omega) ha2)
  have hRl : (Cl.getInts a1 a2 a3).1.length ≤ 65536 := getInts_len a1 a2 a3
  generalize Cl.getInts a1 a2 a3 = X at *
  obtain ⟨R, to, eR⟩ := X
  simp only at hRl
  have htt : (to != to) = false := by simp
  have hee : (eR != eR) = false := by simp
  have Hrd0 := Lib.hid rd0
  have Hwf := Lib.hid hwf
  clear wf0 hwf rd0 w2 w3
  go_enter Try.func3, Try.ntmps3
  go_wp2_with fail
  refine HLd.out.mono ?_
  rintro e w1 ⟨g, cap, rfl, hg, hcap, hmax, hown1, hb1⟩
  have hrX := Reads.of_own hown1
  have hrH := hrX.head (xs := z0.map (Value.int .i64)) (ys := roomInts) (by simp)
  have HP := Lib.hid (ints_any (some ⟨g, 0, none⟩) cap z0 w1 w1.heap.size hrH (Nat.le_refl _) (by omega) Hwf.out)
  have HK := fun W (hx : Below w1.heap.size w1 W) (hw : Below w.heap.size w W) => Lib.hid (keptInts_true A0 g c0 cap z0 W w1.heap.size w.heap.size (hrX.below hx) (Hrd0.out.below hw) hcap (by omega))
  have Hb1 := Lib.hid hb1
  have hs1 := hb1.size
  clear hown1 hb1 hrX hrH HLd Hrd0 hg hmax Hwf
  generalize Cl.intsB z0 = S at *
  go_wp2_with fail
  refine HP.out.mono ?_
  rintro e w3 ⟨rfl, hb3⟩
  have Hb3 := Lib.hid hb3
  have hs3 := hb3.size
  clear hb3
  go_wp2_with fail
  refine (HG _).out.mono ?_
  rintro e w4 ⟨v4, rfl, hown4, hb4⟩
  obtain ⟨A4, c4, rfl, hnc4, hrd4⟩ := own_slice hown4
  have Hown4 := Lib.hid hown4
  have Hrd4 := Lib.hid hrd4
  have Hb4 : Hid (Below w1.heap.size w1 w4) := Hb3.out.trans (hb4.mono Hb3.out.size)
  have hs4 := hb4.size
  clear hown4 hrd4 hb4
  go_wp2_with fail
  refine (HG _).out.mono ?_
  rintro e w5 ⟨v5, rfl, hown5, hb5⟩
  obtain ⟨A5, c5, rfl, hnc5, _⟩ := own_slice hown5
  have Hown5 := Lib.hid hown5
  have Hb5 := Lib.hid hb5
  clear hown5 hb5
  go_wp2_with fail
  refine (HRG _).out.mono ?_
  rintro e w6 ⟨v6, rfl, hown6, hb6⟩
  obtain ⟨A6, c6, rfl, hnc6, _⟩ := own_slice hown6
  have Hown6 := Lib.hid hown6
  have Hb6 := Lib.hid hb6
  have Hb46 : Hid (Below w4.heap.size w4 w6) := Hb5.out.trans (hb6.mono Hb5.out.size)
  have Hb16 : Hid (Below w1.heap.size w1 w6) := Hb4.out.trans (Hb46.out.mono Hb4.out.size)
  have Hb06 : Hid (Below w.heap.size w w6) := Hb1.out.trans (Hb16.out.mono hs1)
  have hs5 := Hb5.out.size
  clear hown6 hb6
  go_wp2_with fail
  refine (HRb w6 Hb06.out).out.mono ?_
  rintro e w7 ⟨rfl, hb7⟩
  have Hb67 := Lib.hid hb7
  have Hb47 : Hid (Below w4.heap.size w4 w7) := Hb46.out.trans (hb7.mono Hb46.out.size)
  have Hb57 : Hid (Below w5.heap.size w5 w7) := Hb6.out.trans (hb7.mono Hb6.out.size)
  have Hb17 : Hid (Below w1.heap.size w1 w7) := Hb16.out.trans (hb7.mono Hb16.out.size)
  have Hb07 : Hid (Below w.heap.size w w7) := Hb06.out.trans (hb7.mono Hb06.out.size)
  clear hb7
  go_wp2_with fail
  refine (HK w7 Hb17.out Hb07.out).out.mono ?_
  rintro e w8 ⟨rfl, n7, rfl⟩
  go_wp2_with fail
  refine (sameInts_true A4 A6 c4 c6 R _ w4.heap.size w6.heap.size ((Hrd4.out.below Hb47.out).drewN n7) (((Reads.of_own Hown6.out).below Hb67.out).drewN n7) (by omega)).mono ?_
  rintro e w8 ⟨rfl, n8, rfl⟩
  go_wp2_with fail
  refine (errno_any _ _).mono ?_
  rintro e w' ⟨rfl, rfl⟩
  go_wp2_with fail
  refine (errno_any _ _).mono ?_
  rintro e w' ⟨rfl, rfl⟩
  go_wp2_with fail
  have hO4 : (w7.drewN (n7 + n8)).ownsRow w3.heap.size 3 1 (.slice A4 R.length c4) R.length (R.map (Value.int .i64)) := own_drewN (own_only Hown4.out (Only.new (fun _ => False) Hb47.out) (fun _ _ h => h)) _
  have hO5 : (w7.drewN (n7 + n8)).ownsRow w4.heap.size 3 1 (.slice A5 R.length c5) R.length (R.map (Value.int .i64)) := own_drewN (own_only Hown5.out (Only.new (fun _ => False) Hb57.out) (fun _ _ h => h)) _
  have hO6 : (w7.drewN (n7 + n8)).ownsRow w5.heap.size 3 1 (.slice A6 R.length c6) R.length (R.map (Value.int .i64)) := own_drewN (own_only Hown6.out (Only.new (fun _ => False) Hb67.out) (fun _ _ h => h)) _
  have hlt4 : ∀ k, Value.ownBlock (.slice A4 R.length c4) = some k → w3.heap.size ≤ k ∧ k < w4.heap.size := fun k hk => own_lt Hown4.out hk
  have Hlt4 := Lib.hid hlt4
  refine (spoilInts_any A4 c4 R _ w3.heap.size hO4 (by omega)).mono ?_
  rintro e w9 ⟨rfl, ho9⟩
  have hO5' := own_only hO5 ho9 (fun g hg e => by have := (Hlt4.out g e).2; have := (own_lt hO5 hg).1; omega)
  have hO6' := own_only hO6 ho9 (fun g hg e => by have := (Hlt4.out g e).2; have := (own_lt hO6 hg).1; omega)
  have Hr5 := Lib.hid (Reads.of_own hO5')
  have Hr6 := Lib.hid (Reads.of_own hO6')
  have Hb9 : Hid (Below w.heap.size w w9) := (below_drewN Hb07.out (n7 + n8)).trans (ho9.below (fun k hk e => by have := (Hlt4.out k e).1; omega) (below_drewN Hb07.out (n7 + n8)).size)
  clear hO4 hO5 hO6 hlt4 ho9 hO5' hO6'
  go_wp2_with fail
  refine (sameInts_true A5 A6 c5 c6 R _ _ _ Hr5.out Hr6.out (by omega)).mono ?_
  rintro e w10 ⟨rfl, n10, rfl⟩
  go_wp2_with fail
  refine (awake12 _).mono ?_
  rintro e w11 ⟨rfl, hb11⟩
  have Hb11 : Hid (Below w.heap.size w w11) := (below_drewN Hb9.out n10).trans (hb11.mono (below_drewN Hb9.out n10).size)
  clear hb11
  go_wp2_with fail
  go_ret
  exact ⟨rfl, Hb11.out⟩

set_option maxRecDepth 100000 in
set_option maxHeartbeats 2000000 in
theorem columnTexts_walk {w : World} (A0 : Option Addr) (c0 : Nat) (z0 : List ByteArray) (a1 : ByteArray) (a2 a3 : Int) (rd0 : Reads w w.heap.size 1 A0 z0.length (z0.map Value.string)) (wf0 : ∀ s ∈ z0, s.size ≤ maxLen) (nb0 : z0.length * 16 ≤ 140737488351232) (b1 : a1.size ≤ 140737488351232) (w2 : (Lit.int .i64 a2).wf = true) (w3 : (Lit.int .i64 a3).wf = true) :
    Calls Try.prog 4 #[.slice A0 z0.length c0, .string a1, .int .i64 a2, .int .i64 a3] w fun e w' => e = .returned (.bool true) ∧ Below w.heap.size w w' := by
  have ha2 := wf_int w2
  have HLd := Lib.hid (lendTexts_any A0 c0 z0 w w.heap.size rd0 (Nat.le_refl _) nb0)
  have HRb := fun W (hb : Below w.heap.size w W) => Lib.hid (rtexts_any A0 c0 z0 W w.heap.size (rd0.below hb) hb.size (by omega))
  have HG := fun W => Lib.hid (getTexts_any a1 a2 a3 W (by omega) ha2)
  have HRG := fun W => Lib.hid (rgetTexts_any a1 a2 a3 W (by omega) ha2)
  have hRl : (Cl.getTexts a1 a2 a3).1.length ≤ 65536 := getTexts_len a1 a2 a3
  have hRs := Lib.hid (getTexts_size a1 a2 a3)
  generalize Cl.getTexts a1 a2 a3 = X at *
  obtain ⟨R, to, eR⟩ := X
  simp only at hRl hRs
  have htt : (to != to) = false := by simp
  have hee : (eR != eR) = false := by simp
  have Hrd0 := Lib.hid rd0
  clear wf0 rd0 w2 w3
  go_enter Try.func4, Try.ntmps4
  go_wp2_with fail
  refine HLd.out.mono ?_
  rintro e w1 ⟨g, cap, rfl, hg, hcap, hmax, hown1, hb1⟩
  have hrX := Reads.of_own hown1
  have hrH := hrX.head (xs := z0.map Value.string) (ys := roomTexts) (by simp)
  have HP := Lib.hid (texts_any (some ⟨g, 0, none⟩) cap z0 w1 w1.heap.size hrH (Nat.le_refl _) (by omega))
  have HK := fun W (hx : Below w1.heap.size w1 W) (hw : Below w.heap.size w W) => Lib.hid (keptTexts_true A0 g c0 cap z0 W w1.heap.size w.heap.size (hrX.below hx) (Hrd0.out.below hw) hcap (by omega))
  have Hb1 := Lib.hid hb1
  have hs1 := hb1.size
  clear hown1 hb1 hrX hrH HLd Hrd0 hg hmax
  generalize Cl.textsB z0 = S at *
  go_wp2_with fail
  refine HP.out.mono ?_
  rintro e w3 ⟨rfl, hb3⟩
  have Hb3 := Lib.hid hb3
  have hs3 := hb3.size
  clear hb3
  go_wp2_with fail
  refine (HG _).out.mono ?_
  rintro e w4 ⟨v4, rfl, hown4, hb4⟩
  obtain ⟨A4, c4, rfl, hnc4, hrd4⟩ := own_slice hown4
  have Hown4 := Lib.hid hown4
  have Hrd4 := Lib.hid hrd4
  have Hb4 : Hid (Below w1.heap.size w1 w4) := Hb3.out.trans (hb4.mono Hb3.out.size)
  have hs4 := hb4.size
  clear hown4 hrd4 hb4
  go_wp2_with fail
  refine (HG _).out.mono ?_
  rintro e w5 ⟨v5, rfl, hown5, hb5⟩
  obtain ⟨A5, c5, rfl, hnc5, _⟩ := own_slice hown5
  have Hown5 := Lib.hid hown5
  have Hb5 := Lib.hid hb5
  clear hown5 hb5
  go_wp2_with fail
  refine (HRG _).out.mono ?_
  rintro e w6 ⟨v6, rfl, hown6, hb6⟩
  obtain ⟨A6, c6, rfl, hnc6, _⟩ := own_slice hown6
  have Hown6 := Lib.hid hown6
  have Hb6 := Lib.hid hb6
  have Hb46 : Hid (Below w4.heap.size w4 w6) := Hb5.out.trans (hb6.mono Hb5.out.size)
  have Hb16 : Hid (Below w1.heap.size w1 w6) := Hb4.out.trans (Hb46.out.mono Hb4.out.size)
  have Hb06 : Hid (Below w.heap.size w w6) := Hb1.out.trans (Hb16.out.mono hs1)
  have hs5 := Hb5.out.size
  clear hown6 hb6
  go_wp2_with fail
  refine (HRb w6 Hb06.out).out.mono ?_
  rintro e w7 ⟨rfl, hb7⟩
  have Hb67 := Lib.hid hb7
  have Hb47 : Hid (Below w4.heap.size w4 w7) := Hb46.out.trans (hb7.mono Hb46.out.size)
  have Hb57 : Hid (Below w5.heap.size w5 w7) := Hb6.out.trans (hb7.mono Hb6.out.size)
  have Hb17 : Hid (Below w1.heap.size w1 w7) := Hb16.out.trans (hb7.mono Hb16.out.size)
  have Hb07 : Hid (Below w.heap.size w w7) := Hb06.out.trans (hb7.mono Hb06.out.size)
  clear hb7
  go_wp2_with fail
  refine (HK w7 Hb17.out Hb07.out).out.mono ?_
  rintro e w8 ⟨rfl, n7, rfl⟩
  go_wp2_with fail
  refine (sameTexts_true A4 A6 c4 c6 R _ w4.heap.size w6.heap.size ((Hrd4.out.below Hb47.out).drewN n7) (((Reads.of_own Hown6.out).below Hb67.out).drewN n7) (by omega)).mono ?_
  rintro e w8 ⟨rfl, n8, rfl⟩
  go_wp2_with fail
  refine (errno_any _ _).mono ?_
  rintro e w' ⟨rfl, rfl⟩
  go_wp2_with fail
  refine (errno_any _ _).mono ?_
  rintro e w' ⟨rfl, rfl⟩
  go_wp2_with fail
  have hO4 : (w7.drewN (n7 + n8)).ownsRow w3.heap.size 9 1 (.slice A4 R.length c4) R.length (R.map Value.string) := own_drewN (own_only Hown4.out (Only.new (fun _ => False) Hb47.out) (fun _ _ h => h)) _
  have hO5 : (w7.drewN (n7 + n8)).ownsRow w4.heap.size 9 1 (.slice A5 R.length c5) R.length (R.map Value.string) := own_drewN (own_only Hown5.out (Only.new (fun _ => False) Hb57.out) (fun _ _ h => h)) _
  have hO6 : (w7.drewN (n7 + n8)).ownsRow w5.heap.size 9 1 (.slice A6 R.length c6) R.length (R.map Value.string) := own_drewN (own_only Hown6.out (Only.new (fun _ => False) Hb67.out) (fun _ _ h => h)) _
  have hlt4 : ∀ k, Value.ownBlock (.slice A4 R.length c4) = some k → w3.heap.size ≤ k ∧ k < w4.heap.size := fun k hk => own_lt Hown4.out hk
  have Hlt4 := Lib.hid hlt4
  refine (spoilTexts_any A4 c4 R _ w3.heap.size hO4 (by omega) (fun x hx => by have := hRs.out x hx; omega)).mono ?_
  rintro e w9 ⟨rfl, ho9⟩
  have hO5' := own_only hO5 ho9 (fun g hg e => by have := (Hlt4.out g e).2; have := (own_lt hO5 hg).1; omega)
  have hO6' := own_only hO6 ho9 (fun g hg e => by have := (Hlt4.out g e).2; have := (own_lt hO6 hg).1; omega)
  have Hr5 := Lib.hid (Reads.of_own hO5')
  have Hr6 := Lib.hid (Reads.of_own hO6')
  have Hb9 : Hid (Below w.heap.size w w9) := (below_drewN Hb07.out (n7 + n8)).trans (ho9.below (fun k hk e => by have := (Hlt4.out k e).1; omega) (below_drewN Hb07.out (n7 + n8)).size)
  clear hO4 hO5 hO6 hlt4 ho9 hO5' hO6'
  go_wp2_with fail
  refine (sameTexts_true A5 A6 c5 c6 R _ _ _ Hr5.out Hr6.out (by omega)).mono ?_
  rintro e w10 ⟨rfl, n10, rfl⟩
  go_wp2_with fail
  refine (awake12 _).mono ?_
  rintro e w11 ⟨rfl, hb11⟩
  have Hb11 : Hid (Below w.heap.size w w11) := (below_drewN Hb9.out n10).trans (hb11.mono (below_drewN Hb9.out n10).size)
  clear hb11
  go_wp2_with fail
  go_ret
  exact ⟨rfl, Hb11.out⟩
end Go.Proofs.Ythpnhodpfhagaaa
