/- The walks through awake of cachetlaw12 and SpoilInts, SpoilTexts. -/
import Derived.Test.YthpnhodpfhagaaaClTexts4
import Derived.Test.YthpnhodpfhagaaaClGet
import Derived.Test.YthpnhodpfhagaaaSameInts
import Derived.Test.YthpnhodpfhagaaaSameTexts
namespace Go.Proofs.Ythpnhodpfhagaaa
open Go.RowKit
set_option linter.unusedVariables false

theorem textsB_list {xs : List ByteArray} (h : Cl.shortB xs = true) : (Cl.textsB xs).data.toList = Cl.textsL xs := by unfold Cl.textsB; rw [if_pos h]
theorem intsB_list {xs : List Int} (h : xs.all Pt.smallB = true) : (Cl.intsB xs).data.toList = Cl.intsD 0 xs := by unfold Cl.intsB; rw [if_pos h]
theorem reads_lit (W : World) (g : Nat) (hg : W.heap.size = g) (t : TypeId) (cs : List Value) : Reads (W.alloc (.cells cs.toArray t)) (g + 1) 1 (some ⟨g, 0, none⟩) cs.length cs := by
  subst hg; exact Reads.new W t 1 cs.length cs (by simp)
theorem ints_lit (xs : List Int) (W : World) (g : Nat) (hg : W.heap.size = g) (hwf : ∀ x ∈ xs, -9223372036854775808 ≤ x ∧ x ≤ 9223372036854775807) (hn : xs.length ≤ 1000) :
    Calls Try.prog 16 #[.slice (some ⟨g, 0, none⟩) xs.length xs.length] (W.alloc (.cells (xs.map (Value.int .i64)).toArray 3)) fun e w' => e = .returned (.string (Cl.intsB xs)) ∧ Below (g + 1) (W.alloc (.cells (xs.map (Value.int .i64)).toArray 3)) w' := by
  have hr := reads_lit W g hg 3 (xs.map (Value.int .i64))
  rw [List.length_map] at hr
  have hz : (W.alloc (.cells (xs.map (Value.int .i64)).toArray 3)).heap.size = g + 1 := by rw [World.size_alloc, hg]
  have := ints_any (some ⟨g, 0, none⟩) xs.length xs _ (g + 1) hr (by omega) (by omega) hwf
  rw [hz] at this
  exact this
theorem texts_lit (xs : List ByteArray) (W : World) (g : Nat) (hg : W.heap.size = g) (hn : xs.length ≤ 1000) :
    Calls Try.prog 26 #[.slice (some ⟨g, 0, none⟩) xs.length xs.length] (W.alloc (.cells (xs.map Value.string).toArray 9)) fun e w' => e = .returned (.string (Cl.textsB xs)) ∧ Below (g + 1) (W.alloc (.cells (xs.map Value.string).toArray 9)) w' := by
  have hr := reads_lit W g hg 9 (xs.map Value.string)
  rw [List.length_map] at hr
  have hz : (W.alloc (.cells (xs.map Value.string).toArray 9)).heap.size = g + 1 := by rw [World.size_alloc, hg]
  have := texts_any (some ⟨g, 0, none⟩) xs.length xs _ (g + 1) hr (by omega) (by omega)
  rw [hz] at this
  exact this
def Cl.t3 : List ByteArray := [⟨#[97]⟩, ⟨#[98]⟩, ⟨#[97]⟩]
theorem ints53 : Cl.intsB [5, 3] = ⟨#[10, 3]⟩ := by
  have h : ([5, 3] : List Int).all Pt.smallB = true := by decide +kernel
  apply Wr.ext_list
  rw [intsB_list h]
  decide +kernel
theorem get53 : Cl.getInts ⟨#[10, 3]⟩ 0 2 = ([5, 3], 2, 0) := by
  have := Cl.getInts_put ⟨#[10, 3]⟩ [5, 3] [] [] (by rw [show (ByteArray.mk #[10, 3]).data.toList = [10, 3] from rfl]; decide +kernel) (by decide +kernel) (by simp)
  have e : ((Cl.intsD 0 [5, 3]).length : Int) = 2 := by decide +kernel
  rw [e] at this
  exact this
theorem short_t3 : Cl.shortB Cl.t3 = true := by decide +kernel
theorem texts_size {xs : List ByteArray} (h : Cl.shortB xs = true) : (Cl.textsB xs).size = (Cl.textsL xs).length := by rw [← Wr.len_list, textsB_list h]
theorem get_t3 : Cl.getTexts (Cl.textsB Cl.t3) 0 3 = (Cl.t3, ((Cl.textsB Cl.t3).size : Int), 0) := by
  have := Cl.getTexts_put (Cl.textsB Cl.t3) Cl.t3 [] [] (by rw [textsB_list short_t3]; simp) short_t3 (by decide)
  rw [texts_size short_t3]
  simpa [Cl.t3] using this
theorem t3_len : (Cl.textsB Cl.t3).size ≤ 100 := by rw [texts_size short_t3]; decide +kernel

set_option maxRecDepth 100000 in
set_option maxHeartbeats 1000000 in
theorem awake12 (w : World) : Calls Try.prog 24 #[] w fun e w' => e = .returned (.bool true) ∧ Below w.heap.size w w' := by
  have h1 := fun W g hg => ints_lit [5, 3] W g hg (by simp) (by simp)
  have h2 := fun W => getInts_any ⟨#[10, 3]⟩ 0 2 W (by decide) (by omega)
  have h3 := fun W g hg => texts_lit Cl.t3 W g hg (by decide)
  have h4 := fun W => getTexts_any (Cl.textsB Cl.t3) 0 3 W (by have := t3_len; omega) (by omega)
  have h5 := fun W => getInts_any ⟨#[10, 3]⟩ 0 (-1) W (by decide) (by omega)
  rw [ints53] at h1
  rw [get53] at h2
  rw [get_t3] at h4
  rw [getInts_no (.inl (by omega))] at h5
  have hsl := t3_len
  generalize Cl.textsB Cl.t3 = T at *
  simp only [Cl.t3, List.map_cons, List.map_nil, List.length_cons, List.length_nil, Nat.zero_add, Nat.reduceAdd] at h1 h3
  have H1 := fun W g hg => Lib.hid (h1 W g hg)
  have H2 := fun W => Lib.hid (h2 W)
  have H3 := fun W g hg => Lib.hid (h3 W g hg)
  have H4 := fun W => Lib.hid (h4 W)
  have H5 := fun W => Lib.hid (h5 W)
  clear h1 h2 h3 h4 h5
  go_enter Try.func24, Try.ntmps24
  go_wp2_with fail
  refine (H1 w _ rfl).out.mono ?_
  rintro e w1 ⟨rfl, hb1⟩
  have Hb1 : Hid (Below w.heap.size w w1) := ((Below.refl w.heap.size w).alloc (Nat.le_refl _) _).trans (hb1.mono (by omega))
  clear hb1
  go_wp2_with fail
  refine (H2 _).out.mono ?_
  rintro e w2 ⟨v2, rfl, hown2, hb2⟩
  obtain ⟨A2, c2, rfl, hnc2, hrd2⟩ := own_slice hown2
  have Hrd2 := Lib.hid hrd2
  have Hb2 : Hid (Below w.heap.size w w2) := Hb1.out.trans (hb2.mono Hb1.out.size)
  clear hown2 hrd2 hb2
  go_wp2_with fail
  refine (H3 w2 _ rfl).out.mono ?_
  rintro e w3 ⟨rfl, hb3⟩
  have Hb3 : Hid (Below w2.heap.size w2 w3) := ((Below.refl w2.heap.size w2).alloc (Nat.le_refl _) _).trans (hb3.mono (by omega))
  clear hb3
  go_wp2_with fail
  refine (H4 _).out.mono ?_
  rintro e w4 ⟨v4, rfl, hown4, hb4⟩
  obtain ⟨A4, c4, rfl, hnc4, hrd4⟩ := own_slice hown4
  have Hrd4 := Lib.hid hrd4
  have Hb4 : Hid (Below w2.heap.size w2 w4) := Hb3.out.trans (hb4.mono Hb3.out.size)
  clear hown4 hrd4 hb4
  go_wp2_with fail
  refine (H5 _).out.mono ?_
  rintro e w5 ⟨v5, rfl, hown5, hb5⟩
  obtain ⟨A5, c5, rfl, hnc5, hrd5⟩ := own_slice hown5
  have Hb45 := Lib.hid hb5
  have Hb5 : Hid (Below w2.heap.size w2 w5) := Hb4.out.trans (hb5.mono Hb4.out.size)
  have hs5 := hb5.size
  have hs25 := Hb5.out.size
  clear hown5 hrd5 hb5
  go_wp2_with fail
  have hb6 : Below w2.heap.size w2 (w5.alloc (.cells #[.int .i64 5, .int .i64 3] 3)) := Hb5.out.alloc hs25 _
  refine (sameInts_true A2 _ c2 _ [5, 3] _ w2.heap.size (w5.heap.size + 1) (Hrd2.out.below hb6) (reads_lit w5 _ rfl 3 [.int .i64 5, .int .i64 3]) (by simp)).mono ?_
  rintro e w6 ⟨rfl, n6, rfl⟩
  go_wp2_with fail
  refine (errno_any _ _).mono ?_
  rintro e w' ⟨rfl, rfl⟩
  go_wp2_with fail
  have hb7 : Below w4.heap.size w4 (((w5.alloc (.cells #[.int .i64 5, .int .i64 3] 3)).drewN n6).alloc (.cells #[.string ⟨#[97]⟩, .string ⟨#[98]⟩, .string ⟨#[97]⟩] 9)) := (below_drewN (Hb45.out.alloc hs5 _) n6).alloc (by show w4.heap.size ≤ (w5.alloc _).heap.size; rw [World.size_alloc]; omega) _
  refine (sameTexts_true A4 _ c4 _ Cl.t3 _ w4.heap.size (w5.heap.size + 1 + 1) (Hrd4.out.below hb7) (reads_lit ((w5.alloc (.cells #[.int .i64 5, .int .i64 3] 3)).drewN n6) (w5.heap.size + 1) (by show (w5.alloc _).heap.size = _; rw [World.size_alloc]) 9 [.string ⟨#[97]⟩, .string ⟨#[98]⟩, .string ⟨#[97]⟩]) (by decide)).mono ?_
  rintro e w8 ⟨rfl, n8, rfl⟩
  go_wp2_with fail
  refine (errno_any _ _).mono ?_
  rintro e w' ⟨rfl, rfl⟩
  go_wp2_with fail
  refine (errno_any _ _).mono ?_
  rintro e w' ⟨rfl, rfl⟩
  go_wp2_with fail
  go_ret
  have hs2 := Hb2.out.size
  exact ⟨rfl, below_drewN ((Hb2.out.trans (Hb4.out.mono hs2)).trans (hb7.mono (Nat.le_trans hs2 Hb4.out.size))) _⟩

theorem set_other {cur : Array Value} {j k : Nat} {x y : Value} (h : cur[j]? = some x) (e : j ≠ k) : (cur.setIfInBounds k y)[j]? = some x := by
  rw [Array.getElem?_setIfInBounds, if_neg (fun h => e h.symm)]; exact h
theorem set_same {cur : Array Value} {k : Nat} {x y : Value} (h : cur[k]? = some x) : (cur.setIfInBounds k y)[k]? = some y := by
  have hlt := (Array.getElem?_eq_some_iff.1 h).1
  rw [Array.getElem?_setIfInBounds]; simp [hlt]
def SpI (cur : Array Value) (n : Nat) : Prop := ∀ j, j < n → ∃ x, cur[j]? = some (.int .i64 x)
theorem SpI.set_ {cur : Array Value} {n k : Nat} (h : SpI cur n) (hk : k < n) (y : Int) : SpI (cur.setIfInBounds k (.int .i64 y)) n := by
  intro j hj
  by_cases e : j = k
  · subst e; obtain ⟨x, hx⟩ := h j hj; exact ⟨y, set_same hx⟩
  · obtain ⟨x, hx⟩ := h j hj; exact ⟨x, set_other hx e⟩
def SpT (cur : Array Value) (n k : Nat) : Prop := ∀ j, j < n → ∃ s : ByteArray, cur[j]? = some (.string s) ∧ (k ≤ j → s.size ≤ 4611686018427387904)
theorem SpT.set_ {cur : Array Value} {n k : Nat} (h : SpT cur n k) (hk : k < n) (y : ByteArray) : SpT (cur.setIfInBounds k (.string y)) n (k + 1) := by
  intro j hj
  by_cases e : j = k
  · subst e; obtain ⟨x, hx, _⟩ := h j hj; exact ⟨y, set_same hx, fun h => absurd h (by omega)⟩
  · obtain ⟨x, hx, hz⟩ := h j hj; exact ⟨x, set_other hx e, fun h => hz (by omega)⟩
set_option maxRecDepth 100000 in
set_option maxHeartbeats 400000 in
theorem spoilInts_any (A : Option Addr) (c : Nat) (xs : List Int) (w : World) (base : Nat) (hown : w.ownsRow base 3 1 (.slice A xs.length c) xs.length (xs.map (Value.int .i64))) (hn : xs.length ≤ 140737488355328) :
    Calls Try.prog 23 #[.slice A xs.length c] w fun e w' => e = .returned (.tuple #[]) ∧ Only (fun k => Value.ownBlock (.slice A xs.length c) = some k) w w' := by
  rcases hown.2 with ⟨hv, h0⟩ | ⟨g, cap, cur, hv, hg, hh, hnc, hcm, hcs, hx⟩
  · injection hv with e1 e2 e3
    subst e1
    have hz : xs.length < 1 := by omega
    have hz0 : ¬ 0 < xs.length := by omega
    have hneg : decide ((0 : Int) < (xs.length : Int)) = false := decide_eq_false (by omega)
    clear hown h0 e2
    go_enter Try.func23, Try.ntmps23
    go_wp2
    go_loop [2] (fun i => i = .int .i64 0) (fun _ => 0)
    case atStart => rfl
    case round =>
      subst hrel
      go_wp2
      go_end0
      exact ⟨rfl, Only.refl _ _⟩
  · injection hv with e1 e2 e3
    subst e1; subst e3
    have hB : Blk w g 3 cur := hh
    have hS : SpI cur xs.length := fun j hj => by
      have h1 := hown.cells (g := g) rfl j ((Value.int .i64) xs[j]) (by simp [hj])
      rw [add_mk, Nat.zero_add, hB.cell] at h1
      exact ⟨_, h1⟩
    have HB := Lib.hid hB
    have HS := Lib.hid hS
    clear hown hh hcs hx hB hS e2
    go_enter Try.func23, Try.ntmps23
    go_wp2
    go_loopw [2] (fun i wr => ∃ (k : Nat) (cs : Array Value), k ≤ xs.length ∧ i = .int .i64 (k : Int) ∧ Hid (Blk wr g 3 cs) ∧ Hid (SpI cs xs.length) ∧ Hid (Only (fun k => k = g) w wr)) (fun i _ => xs.length - (intOf i).toNat)
    case atStart => exact ⟨0, cur, Nat.zero_le _, rfl, HB, HS, Lib.hid (Only.refl _ _)⟩
    case round =>
      obtain ⟨k, cs, hk, rfl, hb, hs, ho⟩ := hrel
      by_cases hlt : k < xs.length
      · obtain ⟨x, hxk⟩ := hs.out k hlt
        have hc : wr.cell? ⟨g, k, none⟩ = some (.int .i64 x) := (hb.out.cell _).trans hxk
        have hf : wr.frozen? ⟨g, k, none⟩ = false := hb.out.frozen _
        clear hxk
        go_wp2
        go_roundw
        case rel => exact ⟨k + 1, _, by omega, by go_num, Lib.hid (hb.out.set_ _ _), Lib.hid (hs.out.set_ hlt _), Lib.hid (ho.out.setCell (fun _ => rfl) _)⟩
        case measure => simp [intOf]; omega
      · go_wp2
        go_end0
        exact ⟨rfl, ho.out.mono (fun j _ e => by rw [e]; rfl)⟩

set_option maxRecDepth 100000 in
set_option maxHeartbeats 400000 in
theorem spoilTexts_any (A : Option Addr) (c : Nat) (xs : List ByteArray) (w : World) (base : Nat) (hown : w.ownsRow base 9 1 (.slice A xs.length c) xs.length (xs.map Value.string)) (hn : xs.length ≤ 140737488355328) (hsz : ∀ x ∈ xs, x.size ≤ 4611686018427387904) :
    Calls Try.prog 32 #[.slice A xs.length c] w fun e w' => e = .returned (.tuple #[]) ∧ Only (fun k => Value.ownBlock (.slice A xs.length c) = some k) w w' := by
  rcases hown.2 with ⟨hv, h0⟩ | ⟨g, cap, cur, hv, hg, hh, hnc, hcm, hcs, hx⟩
  · injection hv with e1 e2 e3
    subst e1
    have hz : xs.length < 1 := by omega
    have hz0 : ¬ 0 < xs.length := by omega
    have hneg : decide ((0 : Int) < (xs.length : Int)) = false := decide_eq_false (by omega)
    clear hown h0 e2
    go_enter Try.func32, Try.ntmps32
    go_wp2
    go_loop [2] (fun i => i = .int .i64 0) (fun _ => 0)
    case atStart => rfl
    case round =>
      subst hrel
      go_wp2
      go_end0
      exact ⟨rfl, Only.refl _ _⟩
  · injection hv with e1 e2 e3
    subst e1; subst e3
    have hB : Blk w g 9 cur := hh
    have hS : SpT cur xs.length 0 := fun j hj => by
      have h1 := hown.cells (g := g) rfl j (Value.string xs[j]) (by simp [hj])
      rw [add_mk, Nat.zero_add, hB.cell] at h1
      exact ⟨_, h1, fun _ => hsz _ (List.getElem_mem _)⟩
    have HB := Lib.hid hB
    have HS := Lib.hid hS
    clear hown hh hcs hx hB hS e2 hsz
    go_enter Try.func32, Try.ntmps32
    go_wp2
    go_loopw [2] (fun i wr => ∃ (k : Nat) (cs : Array Value), k ≤ xs.length ∧ i = .int .i64 (k : Int) ∧ Hid (Blk wr g 9 cs) ∧ Hid (SpT cs xs.length k) ∧ Hid (Only (fun k => k = g) w wr)) (fun i _ => xs.length - (intOf i).toNat)
    case atStart => exact ⟨0, cur, Nat.zero_le _, rfl, HB, HS, Lib.hid (Only.refl _ _)⟩
    case round =>
      obtain ⟨k, cs, hk, rfl, hb, hs, ho⟩ := hrel
      by_cases hlt : k < xs.length
      · obtain ⟨x, hxk, hxz⟩ := hs.out k hlt
        have hx0 := hxz (Nat.le_refl _)
        clear hxz
        have hc : wr.cell? ⟨g, k, none⟩ = some (.string x) := (hb.out.cell _).trans hxk
        have hf : wr.frozen? ⟨g, k, none⟩ = false := hb.out.frozen _
        clear hxk
        go_wp2
        go_roundw
        case rel => exact ⟨k + 1, _, by omega, by go_num, Lib.hid (hb.out.set_ _ _), Lib.hid (hs.out.set_ hlt _), Lib.hid (ho.out.setCell (fun _ => rfl) _)⟩
        case measure => simp [intOf]; omega
      · go_wp2
        go_end0
        exact ⟨rfl, ho.out.mono (fun j _ e => by rw [e]; rfl)⟩

end Go.Proofs.Ythpnhodpfhagaaa
