/- The walk through the law SealDigests (chapter 14). -/
import Derived.Test.YtapdlmiioljpgaaKSvDigP
namespace Go.Proofs.Ytapdlmiioljpgaa
open Go.RowKit
set_option linter.unusedVariables false

/-- an entry whose batch lies in a block of its own, or is empty -/
def EntX (w : World) (B : Nat) (q : Ent) : Prop :=
  ((Lit.int .i64 q.1.1).wf = true ∧ (Lit.int .i64 q.1.2.1).wf = true ∧ (Lit.int .i64 q.1.2.2.1).wf = true ∧ (Lit.int .i64 q.1.2.2.2).wf = true) ∧ (q.2.2.2 = [] ∨ ∃ b t v, q.2.1 = some ⟨b, 0, none⟩ ∧ q.2.2.2 = [Ig.pt t v] ∧ B ≤ b ∧ ((Lit.int .i64 t).wf = true ∧ (Lit.int .i64 v).wf = true) ∧ Blk w b 88 #[.string ⟨#[115]⟩, .int .i64 t, .int .i64 v])
theorem EntX.ok {w : World} {B : Nat} {q : Ent} (h : EntX w B q) : EntOk w q := by
  obtain ⟨hn, h⟩ := h
  rcases h with h | ⟨b, t, v, h1, h2, _, h3, h4⟩
  · exact ⟨by rw [h]; show Reads _ _ _ _ 0 []; exact Reads.none_, by rw [h]; intro f hf; simp at hf, hn⟩
  · refine ⟨?_, ?_, hn⟩
    · rw [h1, h2]
      refine ⟨rfl, fun _ => ⟨b, 0, rfl, h4.lt, fun j u hu => ?_⟩⟩
      rw [Nat.zero_add, h4.cell j, List.getElem?_toArray]
      exact hu
    · rw [h2]
      intro f hf
      rw [List.mem_singleton] at hf
      subst hf
      exact ⟨h3.1, h3.2, by show (⟨#[115]⟩ : ByteArray).size ≤ maxLen; decide⟩
theorem EntX.only {w w' : World} {B : Nat} {q : Ent} {S : Nat → Prop} (h : EntX w B q) (ho : Only S w w') (hs : ∀ b cs, B ≤ b → Blk w b 88 cs → ¬ S b) : EntX w' B q := by
  obtain ⟨hn, h⟩ := h
  refine ⟨hn, ?_⟩
  rcases h with h | ⟨b, t, v, h1, h2, hB, h3, h4⟩
  · exact .inl h
  · exact .inr ⟨b, t, v, h1, h2, hB, h3, h4.only ho (hs b _ hB h4)⟩
theorem EntX.below {w w' : World} {B : Nat} {q : Ent} (h : EntX w B q) (hb : Below w.heap.size w w') : EntX w' B q :=
  h.only (Only.new (fun _ => False) hb) fun _ _ _ _ q => q
theorem sv_log {w : World} {B : Nat} {A : Option Addr} {qs : List Ent} {u : Nat → Int} (hd : qs.map Sv.dat = (Sv.dl u 7).map Sv.dat) (hr : Reads w w.heap.size 5 A 8 (qs.flatMap entCells)) (hx : ∀ q ∈ qs, EntX w B q) : LogOk w A qs := by
  have hl : qs.length = 8 := by have := Sv.len_dat hd; rw [Sv.dl_len] at this; exact this
  refine ⟨by rw [hl]; exact hr, fun q hq => (hx q hq).ok, fun q hq => ?_⟩
  obtain ⟨_, h | ⟨b, t, v, h1, h2, _⟩⟩ := hx q hq
  · rw [h]; decide
  · rw [h2]; show 1 * 32 ≤ _; omega
theorem sv_snoc (qs : List Ent) (u : Nat → Int) (j b c : Nat) (hd : qs.map Sv.dat = (Sv.dl u j).map Sv.dat) : (qs ++ [(((0, 0, 1, ((j + 1 : Nat) : Int)), (some ⟨b, 0, none⟩, c, [Ig.pt ((j + 1 : Nat) : Int) (u (j + 1))])) : Ent)]).map Sv.dat = (Sv.dl u (j + 1)).map Sv.dat := by
  rw [Sv.dl_succ, List.map_append, List.map_append, hd]; rfl
def Sv.five : Nat → Int := fun _ => 5
def Sv.fiveAt (k : Nat) (x : Int) : Nat → Int := fun i => if i = k + 1 then x else 5
theorem Sv.five_small : Sv.Small Sv.five := fun _ => by unfold Sv.five; omega
theorem Sv.at_small {k : Nat} {x : Int} (hx : 0 ≤ x ∧ x ≤ 1000) : Sv.Small (Sv.fiveAt k x) := fun i => by unfold Sv.fiveAt; split <;> omega
theorem sv_set {qs : List Ent} {k b : Nat} {x : Int} (hk : k < 7) (hd : qs.map Sv.dat = (Sv.dl Sv.five 7).map Sv.dat) {q : Ent} (hq : qs[k + 1]? = some q) : (qs.set (k + 1) ((q.1, (some ⟨b, 0, none⟩, 1, [Ig.pt ((k + 1 : Nat) : Int) x])) : Ent)).map Sv.dat = (Sv.dl (Sv.fiveAt k x) 7).map Sv.dat := by
  have hl := Sv.len_dat hd
  rw [Sv.dl_len] at hl
  apply List.ext_getElem?
  intro i
  have hi : (qs.map Sv.dat)[i]? = ((Sv.dl Sv.five 7).map Sv.dat)[i]? := by rw [hd]
  have hk1 : (qs.map Sv.dat)[k + 1]? = ((Sv.dl Sv.five 7).map Sv.dat)[k + 1]? := by rw [hd]
  rw [List.getElem?_map, List.getElem?_map] at hi hk1 ⊢
  have hat : ∀ (u : Nat → Int) (i : Nat), (Sv.dl u 7)[i + 1]? = if i < 7 then some (Sv.e2 (i + 1) (u (i + 1))) else none := fun u i => by
    unfold Sv.dl
    rw [List.getElem?_cons_succ, List.getElem?_map]
    by_cases h : i < 7
    · rw [List.getElem?_range h, if_pos h]; rfl
    · rw [if_neg h, List.getElem?_eq_none (by simp; omega)]; rfl
  by_cases e : k + 1 = i
  · subst e
    rw [List.getElem?_set_self (by omega), hat, if_pos hk]
    rw [hq, hat, if_pos hk] at hk1
    simp only [Option.map_some, Option.some.injEq] at hk1 ⊢
    have h1 : (Sv.dat q).1 = (Sv.dat (Sv.e2 (k + 1) (Sv.five (k + 1)))).1 := congrArg Prod.fst hk1
    have h1 : q.1 = (Sv.e2 (k + 1) (Sv.five (k + 1))).1 := h1
    show (q.1, [Ig.pt ((k + 1 : Nat) : Int) x]) = _
    rw [h1]
    show ((0, 0, 1, ((k + 1 : Nat) : Int)), _) = ((0, 0, 1, ((k + 1 : Nat) : Int)), [Ig.pt ((k + 1 : Nat) : Int) (Sv.fiveAt k x (k + 1))])
    unfold Sv.fiveAt
    rw [if_pos rfl]
  · rw [List.getElem?_set_ne e, hi]
    cases i with
    | zero => rfl
    | succ i =>
      rw [hat, hat]
      by_cases h : i < 7
      · rw [if_pos h, if_pos h]
        have : Sv.fiveAt k x (i + 1) = Sv.five (i + 1) := by unfold Sv.fiveAt Sv.five; rw [if_neg (by omega)]
        rw [this]
      · rw [if_neg h, if_neg h]
theorem small_wf (m : Nat) (h : m < 300) : (Lit.int .i64 (m : Int)).wf = true := (by decide +kernel : ∀ m : Fin 300, (Lit.int .i64 (m.1 : Int)).wf = true) ⟨m, h⟩
theorem sv_nums {m : Int} (h : (Lit.int .i64 m).wf = true) : (Lit.int .i64 0).wf = true ∧ (Lit.int .i64 0).wf = true ∧ (Lit.int .i64 1).wf = true ∧ (Lit.int .i64 m).wf = true := ⟨by decide, by decide, by decide, h⟩
theorem sv_ne {a b : ByteArray} (h : a ≠ b) : (a.toList == b.toList) = false := by
  rw [beq_eq_false_iff_ne, Lib.toList_data, Lib.toList_data]
  intro e
  exact h (Wr.ext_list e)
set_option maxRecDepth 100000 in
set_option maxHeartbeats 4000000 in
theorem sealDigests_walk (a0 a1 : Int) (w0 : (Lit.int .i64 a0).wf = true) (w1 : (Lit.int .i64 a1).wf = true) (w : World) :
    Calls Try.prog 12 #[.int .i64 a0, .int .i64 a1] w fun e w' => e = .returned (.bool true) ∧ Below w.heap.size w w' := by
  obtain ⟨i0, hi, hz0, hz1, hz2⟩ := info_parts info_entry
  obtain ⟨c, hc, hand⟩ := and_low a1 255 (by omega)
  rw [show ((255 : Nat) : Int) = 255 from rfl] at hand
  obtain ⟨k, hk, hk1⟩ := pick_of a0 7 (by omega) (by omega)
  rw [show ((7 : Nat) : Int) = 7 from rfl] at hk1
  clear w0 w1
  go_enter Try.func12, Try.ntmps12
  go_wp2_with fail
  refine (awake14 _).mono ?_
  rintro e w1 ⟨rfl, hb1⟩
  have Hb1 := Lib.hid hb1
  have hs1 := hb1.size
  clear hb1
  go_wp2_with fail
  have HO0 := Lib.hid (own_of_parts (base := w1.heap.size) (n := 1) (cap := 1) (size := 5) (xs := entCells Sv.e0) (Nat.le_refl _) (Blk.new w1 43 (entCells Sv.e0).toArray) (Nat.le_refl _) (by decide) rfl rfl)
  have Hb0 : Hid (Below w1.heap.size w1 (w1.alloc (.cells (entCells Sv.e0).toArray 43))) := (Below.refl _ _).alloc (Nat.le_refl _) _
  go_loopw [5, 6] (fun v i wr => ∃ (m : Nat) (qs : List Ent), 1 ≤ m ∧ m ≤ 8 ∧ i = .int .i64 (m : Int) ∧ Hid (qs.map Sv.dat = (Sv.dl Sv.five (m - 1)).map Sv.dat) ∧ Hid (wr.ownsRow w1.heap.size 43 5 v m (qs.flatMap entCells)) ∧ Hid (∀ q ∈ qs, EntX wr w1.heap.size q) ∧ Hid (Below w1.heap.size w1 wr)) (fun _ i _ => 8 - (intOf i).toNat)
  case atStart => exact ⟨1, [Sv.e0], by omega, by omega, rfl, Lib.hid rfl, HO0, Lib.hid (fun q hq => by rw [List.mem_singleton] at hq; subst hq; exact ⟨⟨by decide, by decide, by decide, by decide⟩, .inl rfl⟩), Hb0⟩
  case round =>
    obtain ⟨m, qs, hm1, hm8, rfl, hd, hown, hx, hbw⟩ := hrel
    have hsw := hbw.out.size
    by_cases hlt : m < 8
    · have HSn : Hid (∀ b, (qs ++ [(((0, 0, 1, (m : Int)), (some ⟨b, 0, none⟩, 1, [Ig.pt (m : Int) 5])) : Ent)]).map Sv.dat = (Sv.dl Sv.five m).map Sv.dat) := fun b => by
        obtain ⟨j, rfl⟩ : ∃ j, m = j + 1 := ⟨m - 1, by omega⟩
        exact sv_snoc qs Sv.five j b 1 hd.out
      have hmw := small_wf m (by omega)
      have Hba : Hid (Below wr.heap.size wr (wr.alloc (.cells #[.string ⟨#[115]⟩, .int .i64 (m : Int), .int .i64 5] 88))) := (Below.refl _ _).alloc (Nat.le_refl _) _
      have Hown := Lib.hid (hown.out.alloc (.cells #[.string ⟨#[115]⟩, .int .i64 (m : Int), .int .i64 5] 88))
      have HB := Lib.hid (Blk.new wr 88 #[.string ⟨#[115]⟩, .int .i64 (m : Int), .int .i64 5])
      have hsz : w1.heap.size ≤ (wr.alloc (.cells #[.string ⟨#[115]⟩, .int .i64 (m : Int), .int .i64 5] 88)).heap.size := by simp; omega
      clear hd hown
      go_wp2_with (at_builtin; refine wpList_push_at (wr.alloc (.cells #[.string ⟨#[115]⟩, .int .i64 (m : Int), .int .i64 5] 88)) rfl _ _ 66 rfl w1.heap.size 43 i0 _ 5 56 Try.underlying66 hi hz0 hz1 hz2 rfl (by decide) _ m _ (by rfl) Hown.out [.int .i64 0, .int .i64 0, .int .i64 1, .int .i64 (m : Int), .slice (some ⟨wr.heap.size, 0, none⟩) 1 1] (wr.heap.size + 1) (by simp) (by rfl) rfl (by simp [Value.oneCell']) (by unfold maxLen; omega) (by omega) hsz ?_; intro v8 w8 hown8 ho8 hg8)
      have Hown8 : Hid (w8.ownsRow w1.heap.size 43 5 v8 (m + 1) ((qs ++ [(((0, 0, 1, (m : Int)), (some ⟨wr.heap.size, 0, none⟩, 1, [Ig.pt (m : Int) 5])) : Ent)]).flatMap entCells)) := by
        rw [List.flatMap_append]; exact hown8
      have Hx8 : Hid (∀ q ∈ qs ++ [(((0, 0, 1, (m : Int)), (some ⟨wr.heap.size, 0, none⟩, 1, [Ig.pt (m : Int) 5])) : Ent)], EntX w8 w1.heap.size q) := fun q hq => by
        rcases List.mem_append.1 hq with hq | hq
        · exact ((hx.out q hq).below Hba.out).only ho8 fun b cs _ hb => own_blk_ne Hown.out hb (by decide)
        · rw [List.mem_singleton] at hq
          subst hq
          exact ⟨sv_nums hmw, .inr ⟨wr.heap.size, (m : Int), 5, rfl, rfl, hsw, ⟨hmw, by decide⟩, HB.out.only ho8 (own_blk_ne Hown.out HB.out (by decide))⟩⟩
      have Hb8 : Hid (Below w1.heap.size w1 w8) := (hbw.out.trans (Hba.out.mono hsw)).trans (ho8.below (fun j hj q => by have := (own_lt Hown.out q).1; omega) hsz)
      have Hd8 := Lib.hid (HSn.out wr.heap.size)
      clear hown8 ho8 hg8 HSn hx HB Hown
      go_roundw
      case rel => exact ⟨m + 1, _, by omega, by omega, by go_num, Hd8, Hown8, Hx8, Hb8⟩
      case measure => simp [intOf]; omega
    · obtain rfl : m = 8 := by omega
      obtain ⟨A, cp, rfl, hnc, hrd⟩ := own_slice hown.out
      obtain ⟨g, rfl, hg1, hg2⟩ := own_some hown.out (by omega)
      have hql : qs.length = 8 := by have := Sv.len_dat hd.out; rw [Sv.dl_len] at this; exact this
      have hd7 : qs.map Sv.dat = (Sv.dl Sv.five 7).map Sv.dat := hd.out
      have hlg := sv_log hd7 hrd hx.out
      have hS := fun W (hb : Below wr.heap.size wr W) => segment_any 0 ⟨#[]⟩ (some ⟨g, 0, none⟩) cp qs 1 W (hlg.below hb) (by decide) (by rw [hql]; omega) (by rw [hql]; omega) (by omega)
      have hD := fun W (hb : Below wr.heap.size wr W) => digest_any 0 ⟨#[]⟩ (some ⟨g, 0, none⟩) cp qs 1 W (hlg.below hb) (by decide) (by rw [hql]; omega) (by rw [hql]; omega) (by omega)
      have hsd := Sv.seg_dat hd7 0 ⟨#[]⟩ 1
      have hsz := Sv.segR_size 0 ⟨#[]⟩ qs 1
      obtain ⟨hgo, _⟩ := Sv.dl_seg Sv.five_small
      have hz : (Sv.segR 0 ⟨#[]⟩ qs 1).2 = 0 := by rw [hsd, hgo]
      unfold Sv.digR at hD
      rw [if_pos hz] at hD
      rw [hz] at hS
      rw [hql] at hS hD
      obtain ⟨tx, htx⟩ : ∃ tx, (Sv.segR 0 ⟨#[]⟩ qs 1).1 = tx := ⟨_, rfl⟩
      rw [htx] at hS hD hsz
      have HTx : Hid ((Sv.segR 0 ⟨#[]⟩ (Sv.dl Sv.five 7) 1).1 = tx) := Lib.hid (by rw [← htx, hsd])
      have HS := Lib.hid hS
      have HD := Lib.hid hD
      have HH := fun W => Lib.hid (hash_any tx W (by unfold maxLen; omega))
      have Hql := Lib.hid hql
      have Hrest : Hid (∀ (W : World) (v : Value) (xs : List Value), wr.ownsRow w1.heap.size 43 5 v 8 xs → Below wr.heap.size wr W → W.ownsRow w1.heap.size 43 5 v 8 xs) := fun W v xs h hb => own_only h (Only.new (fun _ => False) hb) (fun _ _ q => q)
      clear hS hD hlg hz hgo hsd htx hrd hql
      go_wp2_with fail
      refine (HS.out _ (Below.refl _ _)).mono ?_
      rintro e w2 ⟨rfl, hb2⟩
      have Hb2 := Lib.hid hb2
      clear hb2
      go_wp2_with fail
      refine (HD.out _ Hb2.out).mono ?_
      rintro e w3 ⟨rfl, hb3⟩
      have Hb3 : Hid (Below wr.heap.size wr w3) := Hb2.out.trans (hb3.mono Hb2.out.size)
      clear hb3 HS HD Hb2
      have hs3 := Hb3.out.size
      have hown3 := Hrest.out w3 _ _ hown.out Hb3.out
      have hx3 : ∀ q ∈ qs, EntX w3 w1.heap.size q := fun q hq => (hx.out q hq).below Hb3.out
      clear Hrest hown hx
      obtain ⟨m, hm⟩ : ∃ m, m = k + 1 := ⟨_, rfl⟩
      have hkm : (1 : Int) + (k : Int) = (m : Int) := by omega
      have hm8 : m < 8 := by omega
      have Hm := Lib.hid hm
      obtain ⟨x, hxc⟩ : ∃ x : Nat, (x : Int) = 6 + (c : Int) := ⟨6 + c, by omega⟩
      have hx6 : 6 ≤ x ∧ x ≤ 261 := by omega
      have hcx : (6 : Int) + (c : Int) = (x : Int) := hxc.symm
      have hmw := small_wf m (by omega)
      have hxw := small_wf x (by omega)
      clear hm hxc
      have hmq : m < qs.length := by rw [Hql.out]; exact hm8
      have hP := Blk.new w3 88 #[.string ⟨#[115]⟩, .int .i64 (m : Int), .int .i64 (x : Int)]
      have hb4 : Below w3.heap.size w3 (w3.alloc (.cells #[.string ⟨#[115]⟩, .int .i64 (m : Int), .int .i64 (x : Int)] 88)) := (Below.refl _ _).alloc (Nat.le_refl _) _
      have hown4 := hown3.alloc (.cells #[.string ⟨#[115]⟩, .int .i64 (m : Int), .int .i64 (x : Int)] 88)
      have c4 := own_cell hown4 (j := m * 5 + 4) (u := .slice qs[m].2.1 qs[m].2.2.2.length qs[m].2.2.1) (by rw [flat_at entCells 5 (fun _ => rfl) qs m 4 hmq (by omega)]; rfl)
      have f4 := own_frozen hown4 (m * 5 + 4)
      have hown5 := own_set hown4 (m * 5 + 4) (.slice (some ⟨w3.heap.size, 0, none⟩) 1 1)
      rw [flat_set entCells 5 (fun _ => rfl) qs m 4 ((qs[m].1, (some ⟨w3.heap.size, 0, none⟩, 1, [Ig.pt (m : Int) (x : Int)])) : Ent) (.slice (some ⟨w3.heap.size, 0, none⟩) 1 1) hmq (by omega) rfl] at hown5
      have ho5 : Only (fun j => j = g) (w3.alloc (.cells #[.string ⟨#[115]⟩, .int .i64 (m : Int), .int .i64 (x : Int)] 88)) ((w3.alloc (.cells #[.string ⟨#[115]⟩, .int .i64 (m : Int), .int .i64 (x : Int)] 88)).setCell ⟨g, m * 5 + 4, none⟩ (.slice (some ⟨w3.heap.size, 0, none⟩) 1 1)) := (Only.refl (fun j => j = g) _).setCell (p := ⟨g, m * 5 + 4, none⟩) (fun _ => rfl) _
      have hne4 : ∀ b cs, Blk (w3.alloc (.cells #[.string ⟨#[115]⟩, .int .i64 (m : Int), .int .i64 (x : Int)] 88)) b 88 cs → ¬ b = g := fun b cs hb e => own_blk_ne hown4 hb (by decide) (by rw [e]; rfl)
      have hx5 : ∀ q ∈ qs.set m ((qs[m].1, (some ⟨w3.heap.size, 0, none⟩, 1, [Ig.pt (m : Int) (x : Int)])) : Ent), EntX ((w3.alloc (.cells #[.string ⟨#[115]⟩, .int .i64 (m : Int), .int .i64 (x : Int)] 88)).setCell ⟨g, m * 5 + 4, none⟩ (.slice (some ⟨w3.heap.size, 0, none⟩) 1 1)) w1.heap.size q := fun q hq => by
        rcases List.mem_or_eq_of_mem_set hq with hq | hq
        · exact ((hx3 q hq).below hb4).only ho5 fun b cs _ hb => hne4 b cs hb
        · subst hq
          refine ⟨(hx3 _ (List.getElem_mem hmq)).1, .inr ⟨w3.heap.size, (m : Int), (x : Int), rfl, rfl, by omega, ⟨hmw, hxw⟩, hP.only ho5 (hne4 _ _ hP)⟩⟩
      have hb5 : Below w1.heap.size w1 ((w3.alloc (.cells #[.string ⟨#[115]⟩, .int .i64 (m : Int), .int .i64 (x : Int)] 88)).setCell ⟨g, m * 5 + 4, none⟩ (.slice (some ⟨w3.heap.size, 0, none⟩) 1 1)) := ((hbw.out.trans (Hb3.out.mono hsw)).trans (hb4.mono (by omega))).setCell (p := ⟨g, m * 5 + 4, none⟩) hg1 _
      have hd5 : (qs.set m ((qs[m].1, (some ⟨w3.heap.size, 0, none⟩, 1, [Ig.pt (m : Int) (x : Int)])) : Ent)).map Sv.dat = (Sv.dl (Sv.fiveAt k (x : Int)) 7).map Sv.dat := by
        have hmk := Hm.out
        subst hmk
        exact sv_set hk hd7 (List.getElem?_eq_getElem hmq)
      have Hown5 := Lib.hid hown5
      have Hx5 := Lib.hid hx5
      have Hb5 := Lib.hid hb5
      have Hd5 := Lib.hid hd5
      have hql5 : (qs.set m ((qs[m].1, (some ⟨w3.heap.size, 0, none⟩, 1, [Ig.pt (m : Int) (x : Int)])) : Ent)).length = 8 := by rw [List.length_set, Hql.out]
      have Hql5 := Lib.hid hql5
      have Hk := Lib.hid hk
      clear hown5 hx5 hb5 hd5 hne4 ho5 hown4 hb4 hP hown3 hx3 hql5
      generalize qs.set m ((qs[m].1, (some ⟨w3.heap.size, 0, none⟩, 1, [Ig.pt (m : Int) (x : Int)])) : Ent) = qs5 at *
      have hlg5 := sv_log Hd5.out (Reads.of_own Hown5.out) Hx5.out
      have hu5 := Sv.at_small (k := k) (x := (x : Int)) (by omega)
      obtain ⟨hgo5, _⟩ := Sv.dl_seg hu5
      have hdf := Sv.dl_diff Sv.five_small hu5 Hk.out (by show (5 : Int) ≠ if k + 1 = k + 1 then (x : Int) else 5; rw [if_pos rfl]; omega)
      have hsd5 := Sv.seg_dat Hd5.out 0 ⟨#[]⟩ 1
      have hsz5 := Sv.segR_size 0 ⟨#[]⟩ qs5 1
      have hS := fun W hb => segment_any 0 ⟨#[]⟩ (some ⟨g, 0, none⟩) cp qs5 1 W (hlg5.below hb) (by decide) (by rw [Hql5.out]; omega) (by rw [Hql5.out]; omega) (by omega)
      have hD := fun W hb => digest_any 0 ⟨#[]⟩ (some ⟨g, 0, none⟩) cp qs5 1 W (hlg5.below hb) (by decide) (by rw [Hql5.out]; omega) (by rw [Hql5.out]; omega) (by omega)
      have hz5 : (Sv.segR 0 ⟨#[]⟩ qs5 1).2 = 0 := by rw [hsd5, hgo5]
      unfold Sv.digR at hD
      rw [if_pos hz5] at hD
      rw [hz5] at hS
      rw [Hql5.out] at hS hD
      obtain ⟨ty, hty⟩ : ∃ ty, (Sv.segR 0 ⟨#[]⟩ qs5 1).1 = ty := ⟨_, rfl⟩
      rw [hty] at hS hD hsz5
      rw [HTx.out, ← hsd5, hty] at hdf
      have hne := sv_ne hdf
      have HS := Lib.hid hS
      have HD := Lib.hid hD
      have HY := fun W => Lib.hid (hash_any ty W (by unfold maxLen; omega))
      clear hS hD hlg5 hu5 hgo5 hdf hsd5 hz5 hty HTx Hd5 Hown5 Hx5 Hk
      have he1 : ((Sm.hashL tx.data.toList : Int) == (Sm.hashL tx.data.toList : Int)) = true := by simp
      have he2 : ((Sm.hashL ty.data.toList : Int) == (Sm.hashL ty.data.toList : Int)) = true := by simp
      go_wp2_with fail
      generalize (w3.alloc (.cells #[.string ⟨#[115]⟩, .int .i64 (m : Int), .int .i64 (x : Int)] 88)).setCell ⟨g, m * 5 + 4, none⟩ (.slice (some ⟨w3.heap.size, 0, none⟩) 1 1) = w5 at *
      have hs5 := Hb5.out.size
      refine (HS.out _ (Below.refl _ _)).mono ?_
      rintro e w6 ⟨rfl, hb6⟩
      have Hb6 := Lib.hid hb6
      clear hb6
      go_wp2_with fail
      refine (HD.out _ Hb6.out).mono ?_
      rintro e w7 ⟨rfl, hb7⟩
      have Hb7 : Hid (Below w5.heap.size w5 w7) := Hb6.out.trans (hb7.mono Hb6.out.size)
      clear hb7 HS HD Hb6
      have Hfin : Hid (Below w.heap.size w w7) := Hb1.out.trans ((Hb5.out.trans (Hb7.out.mono hs5)).mono hs1)
      generalize (Sm.hashL tx.data.toList : Int) = hx1 at *
      generalize (Sm.hashL ty.data.toList : Int) = hx2 at *
      go_wp2_with fail
      refine (errno_any _ _).mono ?_
      rintro e w' ⟨rfl, rfl⟩
      go_wp2_with fail
      refine (errno_any _ _).mono ?_
      rintro e w' ⟨rfl, rfl⟩
      go_wp2_with fail
      refine (errno_any _ _).mono ?_
      rintro e w' ⟨rfl, rfl⟩
      go_wp2_with fail
      refine (errno_any _ _).mono ?_
      rintro e w' ⟨rfl, rfl⟩
      go_wp2_with fail
      refine (HH _).out.mono ?_
      rintro e w' ⟨rfl, rfl⟩
      go_wp2_with fail
      refine (HY _).out.mono ?_
      rintro e w' ⟨rfl, rfl⟩
      go_wp2_with fail
      go_ret
      exact ⟨rfl, Hfin.out⟩
end Go.Proofs.Ytapdlmiioljpgaa
