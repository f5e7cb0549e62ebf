/- The walk through DigestAlike. -/
import Derived.Test.YtjfdkjgmjjfmcaaDigLaws
namespace Go.Proofs.Ytjfdkjgmjjfmcaa
open Go.RowKit
set_option linter.unusedVariables false

def hI (s : ByteArray) : Int := ((Sm.hashL s.data.toList : Nat) : Int)
theorem hv_eq (ss : List ByteArray) : ss.map hv = (ss.map hI).map (Value.int .u64) := by rw [List.map_map]; rfl
theorem diffTo_refl (xs : List Int) (k : Nat) : diffTo xs xs k = [] := by simp [diffTo]
/-- lists that differ at one place -/
theorem diffTo_one (xs ys : List Int) (k n : Nat) (hk : k < n) (h : xs.getD k 0 ≠ ys.getD k 0) (hs : ∀ i, i ≠ k → xs.getD i 0 = ys.getD i 0) : diffTo xs ys n = [(k : Int) + 1] := by
  induction n with
  | zero => omega
  | succ n ih =>
    unfold diffTo at ih ⊢
    rw [List.range_succ, List.filter_append]
    by_cases e : k = n
    · subst e
      have h0 : (List.range k).filter (fun i => !(xs.getD i 0 == ys.getD i 0)) = [] := by
        rw [List.filter_eq_nil_iff]
        intro i hi
        have : i ≠ k := by have := List.mem_range.1 hi; omega
        rw [hs i this]; simp
      rw [h0]
      simp only [List.filter_cons]
      have : (xs.getD k 0 == ys.getD k 0) = false := by simpa using h
      rw [this]; simp
    · rw [List.map_append, ih (by omega)]
      have : (xs.getD n 0 == ys.getD n 0) = true := by rw [hs n (fun h => e h.symm)]; simp
      simp only [List.filter_cons, this]; simp
theorem diffTo_none (xs ys : List Int) (n : Nat) (hs : ∀ i, i < n → xs.getD i 0 = ys.getD i 0) : diffTo xs ys n = [] := by
  unfold diffTo
  have h0 : (List.range n).filter (fun i => !(xs.getD i 0 == ys.getD i 0)) = [] := by
    rw [List.filter_eq_nil_iff]
    intro i hi
    rw [hs i (List.mem_range.1 hi)]; simp
  rw [h0]; rfl

set_option maxRecDepth 100000 in
set_option maxHeartbeats 800000 in
theorem digestAlike_walk (A0 : Option Addr) (c0 : Nat) (z0 : List ByteArray) (a1 : Int)
    (w : World) (rd0 : Reads w w.heap.size 1 A0 z0.length (z0.map .string)) (wf0 : ∀ s ∈ z0, s.size ≤ maxLen) (nb0 : z0.length * 16 ≤ 140737488351232) (sb0 : ∀ s ∈ z0, s.size ≤ 140737488351232) (w1 : (Lit.int .i64 a1).wf = true) :
    Calls Try.prog 10 #[.slice A0 z0.length c0, .int .i64 a1] w fun e w' => e = .returned (.bool true) ∧ Below w.heap.size w w' := by
  obtain ⟨i0, hi, hz0, hz1, hz2⟩ := info_parts info_copyTexts
  have Hs := Lib.hid wf0
  have Hb := Lib.hid sb0
  clear wf0 sb0 w1
  go_enter Try.func10, Try.ntmps10
  go_wp2_with fail
  refine (awake19 _).mono ?_
  rintro e w1 ⟨rfl, hb1⟩
  go_wp2_with fail
  refine (of_any A0 c0 z0 w1 ((rd0.below hb1).more hb1.size) Hs.out (by omega)).mono ?_
  rintro e w2 ⟨v2, rfl, hown2, hb2⟩
  obtain ⟨B2, d2, hv2, hd2, hr2⟩ := own_slice hown2
  subst hv2
  have hb12 : Below w.heap.size w w2 := hb1.trans (hb2.mono hb1.size)
  clear hown2
  go_wp2_with fail
  refine (of_any A0 c0 z0 w2 ((rd0.below hb12).more hb12.size) Hs.out (by omega)).mono ?_
  rintro e w3 ⟨v3, rfl, hown3, hb3⟩
  obtain ⟨B3, d3, hv3, _, hr3⟩ := own_slice hown3
  subst hv3
  have hb13 : Below w.heap.size w w3 := hb12.trans (hb3.mono hb12.size)
  have hq3 := hr2.below hb3
  have hle3 : z0.length ≤ z0.length := Nat.le_refl _
  clear hown3 hr2
  have hl : ((z0.length : Int) != (z0.length : Int)) = false := by simp
  go_wp2_with fail
  rw [hv_eq] at hq3 hr3
  have hxl : (z0.map hI).length = z0.length := List.length_map _
  rw [← hxl] at hq3 hr3
  have hcall := differ_any B2 B3 d2 d3 (z0.map hI) (z0.map hI) w3 (hq3.more hb3.size) hr3 (by rw [hxl]; omega) (by rw [hxl]; omega)
  rw [diffTo_refl, hxl] at hcall
  refine hcall.mono ?_
  rintro e w4 ⟨v4, rfl, hown4, hb4⟩
  obtain ⟨B4, d4, hv4, _, hr4⟩ := own_slice hown4
  subst hv4
  have hb14 : Below w.heap.size w w4 := hb13.trans (hb4.mono hb13.size)
  rw [hxl] at hq3
  have hq4 := hq3.below (hb4.mono hb3.size)
  have hs4 : w2.heap.size ≤ w4.heap.size := Nat.le_trans hb3.size hb4.size
  clear hcall hown4 hr4 hr3 hq3 hxl
  by_cases h0 : z0.length = 0
  · have h0' : ((z0.length : Int) == 0) = true := beq_iff_eq.2 (by omega)
    clear rd0 hq4 hl
    obtain rfl : z0 = [] := List.eq_nil_of_length_eq_zero h0
    go_wp2_with fail
    go_ret
    exact ⟨rfl, hb14⟩
  · have h0' : ((z0.length : Int) == 0) = false := beq_eq_false_iff_ne.2 (by omega)
    obtain ⟨k, hk, hk1⟩ := pick_of a1 z0.length (by omega) (by omega)
    have hown5 := own_empty w4 w4.heap.size 9 1 (Nat.le_refl _)
    have hb5 : Below w4.heap.size w4 (w4.alloc (.cells #[] 9)) := (Below.refl _ _).alloc (Nat.le_refl _) _
    have hr5 := (rd0.below hb14).alloc hb14.size (.cells #[] 9)
    have hb16 : z0[k].size ≤ 140737488351232 := Hb.out _ (List.getElem_mem hk)
    clear hl h0
    go_wp2_with (at_builtin; refine wpList_append_all _ rfl _ _ 36 rfl w4.heap.size 9 i0 _ 1 16 Try.underlying36 hi hz0 hz1 hz2 rfl (by decide) _ 0 [] (by rfl) hown5 w.heap.size A0 z0.length c0 (z0.map .string) (by rfl) hr5 (fun u hu => by simp only [List.mem_map] at hu; obtain ⟨x, _, rfl⟩ := hu; rfl) (by unfold maxLen; omega) (by omega) w4 hb5 hb5.size ?_; intro v6 w6 hown6 hb6 hat6; rw [Nat.zero_add, List.nil_append] at hown6; obtain ⟨g, cap, hv6, hg6, hlt6⟩ := hown6.form (by omega); subst hv6; have hc6 : w6.cell? ⟨g, k, none⟩ = some (.string z0[k]) := (hown6.cellAt k (by omega)).trans (by simp [hk]); have hf6 : w6.frozen? ⟨g, k, none⟩ = false := hown6.frozenAt k)
    have hown7 := (hown6.stored k (.string (z0[k] ++ ⟨#[33]⟩))).1
    have hb7 : Below w4.heap.size w4 (w6.setCell ⟨g, k, none⟩ (.string (z0[k] ++ ⟨#[33]⟩))) := hb6.setCell hg6 _
    have hset : (z0.map Value.string).set k (.string (z0[k] ++ ⟨#[33]⟩)) = (z0.set k (z0[k] ++ ⟨#[33]⟩)).map .string := by rw [List.map_set]
    rw [hset] at hown7
    clear hset hc6 hf6
    generalize (w6.setCell ⟨g, k, none⟩ (.string (z0[k] ++ ⟨#[33]⟩))) = w7 at *
    have hyl : (z0.set k (z0[k] ++ ⟨#[33]⟩)).length = z0.length := List.length_set
    have hys : ∀ s ∈ z0.set k (z0[k] ++ ⟨#[33]⟩), s.size ≤ maxLen := by
      intro s hs
      rcases List.mem_or_eq_of_mem_set hs with h | h
      · exact Hs.out s h
      · subst h; rw [ByteArray.size_append]; unfold maxLen; show _ + 1 ≤ _; omega
    have hgd : ∀ i, i ≠ k → ((z0.map hI).getD i 0) = (((z0.set k (z0[k] ++ ⟨#[33]⟩)).map hI).getD i 0) := by
      intro i hik
      simp only [List.getD_eq_getElem?_getD, List.getElem?_map, List.getElem?_set_ne (fun h => hik h.symm)]
    have hgk : ((z0.set k (z0[k] ++ ⟨#[33]⟩)).map hI).getD k 0 = hI (z0[k] ++ ⟨#[33]⟩) := by
      simp [List.getD_eq_getElem?_getD, hk]
    have hgz : (z0.map hI).getD k 0 = hI z0[k] := by simp [List.getD_eq_getElem?_getD, hk]
    generalize z0.set k (z0[k] ++ ⟨#[33]⟩) = ys at *
    generalize z0[k] ++ ⟨#[33]⟩ = t at *
    have hq7 := (Reads.of_own hown7)
    rw [← hyl] at hq7
    have hcall := of_any (some ⟨g, 0, none⟩) cap ys w7 hq7 hys (by omega)
    rw [hyl] at hcall
    refine hcall.mono ?_
    rintro e w8 ⟨v8, rfl, hown8, hb8⟩
    have hb78 : Below w4.heap.size w4 w8 := hb7.trans (hb8.mono hb7.size)
    obtain ⟨g8, cap8, hv8, hg8, hlt8⟩ := hown8.form (by omega)
    subst hv8
    have hr8 := Reads.of_own hown8
    rw [hv_eq] at hr8
    have hq8 := hq4.below (hb78.mono hs4)
    have hcap := (own_cap hown8).1
    have hs8 : w2.heap.size ≤ w8.heap.size := Nat.le_trans hs4 hb78.size
    have hb18 : Below w.heap.size w w8 := hb14.trans (hb78.mono hb14.size)
    clear hcall hown8 hown7 hq7 hown6 hat6 hown5 hr5 hys hq4 hb7 hb6 hb5 rd0
    obtain ⟨b, off, hB2, hbl, hc2⟩ := hq8.2 (by omega)
    subst hB2
    have hca := hc2 k (.int .u64 (hI z0[k])) (by simp [hk])
    obtain ⟨b', off', hB8, hbl', hc8⟩ := hr8.2 (by omega)
    obtain ⟨rfl, rfl⟩ : g8 = b' ∧ 0 = off' := by injection hB8 with h; injection h with h1 h2; exact ⟨h1, h2⟩
    have hcc : w8.cell? ⟨g8, k, none⟩ = some (.int .u64 (hI t)) := by
      have := hc8 k (.int .u64 (hI t)) (by
        have h1 : k < ys.length := by omega
        have h2 : hI ys[k] = hI t := by rw [← hgk]; simp [List.getD_eq_getElem?_getD, h1]
        simp [h1, h2])
      rwa [Nat.zero_add] at this
    clear hc2 hc8
    have hk' : (k : Int) < (z0.length : Int) := by omega
    cases heq : (hI t == hI z0[k])
    · have hne : hI z0[k] ≠ hI t := by intro h; rw [h] at heq; simp at heq
      have Hgd := Lib.hid hgd
      have Hgk := Lib.hid hgk
      have Hgz := Lib.hid hgz
      have Hyl := Lib.hid hyl
      have hkd : k ≤ d2 := by omega
      clear hgd hgk hgz
      have hxl : (z0.map hI).length = z0.length := List.length_map _
      have hyl2 : (ys.map hI).length = z0.length := (List.length_map _).trans hyl
      have hd1 : diffTo (z0.map hI) (ys.map hI) (min z0.length z0.length) = [(k : Int) + 1] := diffTo_one _ _ k _ (by omega) (by rw [Hgz.out, Hgk.out]; exact hne) Hgd.out
      have hd2' : diffTo ((z0.map hI).take k) (ys.map hI) (min k z0.length) = [] := diffTo_none _ _ _ (fun i hi => by
        have hik : i < k := by omega
        rw [← Hgd.out i (by omega)]
        simp only [List.getD_eq_getElem?_getD, List.getElem?_take_of_lt hik])
      have hxk : ((z0.map hI).take k).length = k := by rw [List.length_take, hxl]; omega
      have hqk : Reads w8 w2.heap.size 1 (some ⟨b, off, none⟩) k (((z0.map hI).take k).map (.int .u64)) := by
        refine ⟨by simp; omega, fun h0 => ⟨b, off, rfl, hbl, fun j u hu => ?_⟩⟩
        obtain ⟨b1, o1, hB, _, hc⟩ := hq8.2 (by omega)
        injection hB with hB; injection hB with h1 h2; subst h1; subst h2
        refine hc j u ?_
        have hjk : j < k := by have := (List.getElem?_eq_some_iff.1 hu).1; simp at this; omega
        rw [← hu]
        simp only [List.getElem?_map, List.getElem?_take_of_lt hjk]
      have HD1 := Lib.hid hd1
      have HD2 := Lib.hid hd2'
      have Hxl := Lib.hid hxl
      have Hyl2 := Lib.hid hyl2
      have Hxk := Lib.hid hxk
      clear hd1 hd2' hxl hyl2 hxk hyl
      go_wp2_with fail
      go_quiet (fail)
      go_wp2_with fail
      have hq9 := hq8.drewN nq
      have hr9 := hr8.drewN nq
      have hqk9 := hqk.drewN nq
      have hb9 := below_drewN hb18 nq
      have hs9 : w2.heap.size ≤ (w8.drewN nq).heap.size := hs8
      have hz9 : (w8.drewN nq).heap.size = w8.heap.size := rfl
      generalize w8.drewN nq = w9 at *
      rw [← hz9] at hr9
      rw [← Hxl.out] at hq9
      rw [← Hyl2.out] at hr9
      have hcall := differ_any (some ⟨b, off, none⟩) (some ⟨g8, 0, none⟩) d2 cap8 (z0.map hI) (ys.map hI) w9 (hq9.more hs9) hr9 (by rw [Hxl.out]; omega) (by rw [Hyl2.out]; omega)
      rw [Hxl.out, Hyl2.out, HD1.out] at hcall
      refine hcall.mono ?_
      rintro e w10 ⟨v10, rfl, hown10, hb10⟩
      obtain ⟨B10, d10, hv10, _, hr10⟩ := own_slice hown10
      subst hv10
      have hb110 : Below w.heap.size w w10 := hb9.trans (hb10.mono hb9.size)
      clear hcall hown10
      go_wp2_with fail
      refine (sameInts_true B10 (some ⟨w10.heap.size, 0, none⟩) d10 1 [(k : Int) + 1] _ _ _ (hr10.alloc (Nat.le_refl _) _) (Reads.new w10 3 1 1 [.int .i64 ((k : Int) + 1)] rfl) (by show 1 ≤ _; omega)).mono ?_
      rintro e w' ⟨rfl, n11, rfl⟩
      have hb111 : Below w.heap.size w ((w10.alloc (.cells #[.int .i64 ((k : Int) + 1)] 3)).drewN n11) := below_drewN (hb110.alloc hb110.size _) _
      have hqk11 : Reads ((w10.alloc (.cells #[.int .i64 ((k : Int) + 1)] 3)).drewN n11) w2.heap.size 1 (some ⟨b, off, none⟩) k (((z0.map hI).take k).map (.int .u64)) := ((hqk9.below (hb10.mono hs9)).alloc (Nat.le_trans hs9 hb10.size) _).drewN _
      have hr11 : Reads ((w10.alloc (.cells #[.int .i64 ((k : Int) + 1)] 3)).drewN n11) w9.heap.size 1 (some ⟨g8, 0, none⟩) (ys.map hI).length ((ys.map hI).map (.int .u64)) := ((hr9.below hb10).alloc hb10.size _).drewN _
      have hs11 : w9.heap.size ≤ ((w10.alloc (.cells #[.int .i64 ((k : Int) + 1)] 3)).drewN n11).heap.size := Nat.le_trans hb10.size (by simp)
      go_wp2_with fail
      generalize ((w10.alloc (.cells #[.int .i64 ((k : Int) + 1)] 3)).drewN n11) = w11 at *
      have hqk12 : Reads w11 w2.heap.size 1 (some ⟨b, off, none⟩) ((z0.map hI).take k).length (((z0.map hI).take k).map (.int .u64)) := by have h := hqk11; rw [Hxk.out]; exact h
      have hcall := differ_any (some ⟨b, off, none⟩) (some ⟨g8, 0, none⟩) d2 cap8 ((z0.map hI).take k) (ys.map hI) w11 (hqk12.more (Nat.le_trans hs9 hs11)) (hr11.more hs11) (by rw [Hxk.out]; omega) (by rw [Hyl2.out]; omega)
      rw [Hxk.out, Hyl2.out, HD2.out] at hcall
      refine hcall.mono ?_
      rintro e w12 ⟨v12, rfl, hown12, hb12'⟩
      obtain ⟨B12, d12, hv12, _, hr12⟩ := own_slice hown12
      subst hv12
      have hb112 : Below w.heap.size w w12 := hb111.trans (hb12'.mono hb111.size)
      clear hcall hown12
      go_wp2_with fail
      refine (sameInts_true B12 none d12 0 [] _ _ 0 hr12 Reads.none_ (by decide)).mono ?_
      rintro e w' ⟨rfl, n13, rfl⟩
      go_wp2_with fail
      go_ret
      exact ⟨rfl, below_drewN hb112 _⟩
    · go_wp2_with fail
      go_quiet (fail)
      go_wp2_with fail
      go_ret
      exact ⟨rfl, below_drewN hb18 _⟩
end Go.Proofs.Ytjfdkjgmjjfmcaa
