/- The walk through the reference's Range. -/
import Derived.Test.YthdbmgjlegpbaaaKRfAll
import Derived.Test.YthdbmgjlegpbaaaKRfMerge
import Derived.Test.YthdbmgjlegpbaaaKQmRange
import Derived.Test.YthdbmgjlegpbaaaKQbP
namespace Go.Proofs.Ythdbmgjlegpbaaa
open Go.RowKit
set_option linter.unusedVariables false

namespace Qm
open Ig
theorem setAll_app (ps a b : List Pt.Point) : setAll ps (a ++ b) = setAll (setAll ps a) b := by unfold setAll; rw [List.foldl_append]
theorem fold_flat_from (d : Pt.Point → Bool) (L : List (List Pt.Point)) (out : List Pt.Point) (h : Sorted out) : L.foldl (fun out ps => mergeP out (keepL d ps)) out = setAll out (keepL d L.flatten) := by
  induction L generalizing out with
  | nil => rfl
  | cons l L ih =>
    have hm : mergeP out (keepL d l) = setAll out (keepL d l) := by unfold mergeP; rw [setAll_app, set_id h]
    rw [List.foldl_cons, hm, ih _ (setAll_sorted h _), List.flatten_cons, keepL_append, setAll_app]
theorem fold_flat (d : Pt.Point → Bool) (L : List (List Pt.Point)) : fold d L = setAll [] (keepL d L.flatten) := fold_flat_from d L [] sorted_nil
/-- the points of the first k lists and of the next one's first j -/
def part (L : List (List Pt.Point)) (k j : Nat) : List Pt.Point := (L.take k).flatten ++ (L.getD k []).take j
theorem part_zero (L : List (List Pt.Point)) : part L 0 0 = [] := by simp [part]
theorem part_next (L : List (List Pt.Point)) (k : Nat) (hk : k < L.length) : part L k (L[k]).length = part L (k + 1) 0 := by
  unfold part
  rw [List.take_succ_eq_append_getElem hk, List.flatten_append, List.getD_eq_getElem?_getD, List.getElem?_eq_getElem hk]
  simp
theorem part_end (L : List (List Pt.Point)) : part L L.length 0 = L.flatten := by simp [part]
theorem part_step (L : List (List Pt.Point)) (k j : Nat) (hk : k < L.length) (hj : j < (L[k]).length) : part L k (j + 1) = part L k j ++ [(L[k])[j]] := by
  unfold part
  rw [List.getD_eq_getElem?_getD, List.getElem?_eq_getElem hk]
  show _ ++ List.take (j + 1) L[k] = _ ++ List.take j L[k] ++ _
  rw [List.take_succ_eq_append_getElem hj, List.append_assoc]
theorem part_sub (L : List (List Pt.Point)) (k j : Nat) (q : Pt.Point) (h : q ∈ part L k j) : q ∈ L.flatten := by
  unfold part at h
  rcases List.mem_append.1 h with h | h
  · obtain ⟨l, hl, hq⟩ := List.mem_flatten.1 h
    exact List.mem_flatten.2 ⟨l, List.mem_of_mem_take hl, hq⟩
  · have h' := List.mem_of_mem_take h
    rw [List.getD_eq_getElem?_getD] at h'
    by_cases hk : k < L.length
    · rw [List.getElem?_eq_getElem hk] at h'
      exact List.mem_flatten.2 ⟨L[k], List.getElem_mem hk, h'⟩
    · rw [List.getElem?_eq_none (by omega)] at h'; cases h'
theorem part_len (L : List (List Pt.Point)) (k j : Nat) (hk : k ≤ L.length) : (part L k j).length ≤ L.flatten.length := by
  unfold part
  by_cases hk' : k < L.length
  · have h : L.flatten = (L.take k).flatten ++ (L[k] ++ (L.drop (k + 1)).flatten) := by
      rw [← List.flatten_cons, ← List.drop_eq_getElem_cons hk', ← List.flatten_append, List.take_append_drop]
    rw [h, List.getD_eq_getElem?_getD, List.getElem?_eq_getElem hk']
    simp only [List.length_append, Option.getD_some, List.length_take]; omega
  · have := flat_take_le L k
    rw [List.getD_eq_getElem?_getD, List.getElem?_eq_none (by omega)]
    simpa using this
end Qm
theorem gone_ways (s : ByteArray) (f u : Int) (n : ByteArray) (t v : Int) : (n = s ∧ f ≤ t ∧ t ≤ u ∧ Qm.gone s f u (n, t, v) = false) ∨ ((n.toList == s.toList) = false ∧ Qm.gone s f u (n, t, v) = true) ∨ (n = s ∧ ¬ f ≤ t ∧ Qm.gone s f u (n, t, v) = true) ∨ (n = s ∧ f ≤ t ∧ ¬ t ≤ u ∧ Qm.gone s f u (n, t, v) = true) := by
  unfold Qm.gone
  by_cases h1 : n = s
  · by_cases h2 : f ≤ t
    · by_cases h3 : t ≤ u
      · refine .inl ⟨h1, h2, h3, ?_⟩
        simp [h1]; omega
      · exact .inr (.inr (.inr ⟨h1, h2, h3, by simp; omega⟩))
    · exact .inr (.inr (.inl ⟨h1, h2, by simp; omega⟩))
  · exact .inr (.inl ⟨str_ne h1, by simp [h1]⟩)
set_option maxRecDepth 100000 in
set_option maxHeartbeats 4000000 in
theorem rrange_any (A A' : Option Addr) (c c' : Nat) (segs : List ByteArray) (o : List Pt.Point) (s : ByteArray) (f u : Int) (w : World) (B : Nat) (hr : Reads w B 1 A segs.length (segs.map Value.string)) (hro : Reads w B 3 A' o.length (o.flatMap pointCells)) (hB : B ≤ w.heap.size) (hn : (segs.length + 1) * 24 ≤ 140737488355328) (hss : ∀ s ∈ segs, s.size ≤ 140737488355328)
    (htot : (segs.map Qr.ptsOf ++ [o]).flatten.length + 3 ≤ 4398046511104) (hwf : ∀ q ∈ (segs.map Qr.ptsOf ++ [o]).flatten, q.1.size ≤ 9223372036854775807) :
    Calls Try.prog 33 #[.slice A segs.length c, .slice A' o.length c', .string s, .int .i64 f, .int .i64 u] w (RangePost w (Qm.rangeR segs o s f u)) := by
  obtain ⟨i0, hi, hz0, hz1, hz2⟩ := info_parts info_pts
  have HA := Lib.hid (rall_any A c segs w B hr hB (by omega) hss)
  have Hro := Lib.hid hro
  have HR1 : Hid (Qr.okS segs = true → Qm.rangeR segs o s f u = (Ig.setAll [] (Qm.keepL (Qm.gone s f u) (segs.map Qr.ptsOf ++ [o]).flatten), 0)) := fun h => by unfold Qm.rangeR; rw [if_pos h, Qm.fold_flat]
  have HR2 : Hid (Qr.okS segs = false → Qm.rangeR segs o s f u = ([], 1500)) := fun h => by unfold Qm.rangeR; rw [if_neg (by rw [h]; simp)]
  generalize Qm.rangeR segs o s f u = res at *
  obtain ⟨LP, hLP⟩ : ∃ LP, LP = segs.map Qr.ptsOf ++ [o] := ⟨_, rfl⟩
  rw [← hLP] at HR1 htot hwf
  have HG1 : Hid (∀ k j p, (∃ (hk : k < LP.length) (hj : j < (LP[k]).length), (LP[k])[j] = p) → Qm.gone s f u p = true → Ig.setAll [] (Qm.keepL (Qm.gone s f u) (Qm.part LP k (j + 1))) = Ig.setAll [] (Qm.keepL (Qm.gone s f u) (Qm.part LP k j))) := fun k j p ⟨hk, hj, he⟩ hg => by
    rw [Qm.part_step LP k j hk hj, he, Qm.keepL_append, Qm.keepL_one, if_pos hg, List.append_nil]
  have HG2 : Hid (∀ k j p, (∃ (hk : k < LP.length) (hj : j < (LP[k]).length), (LP[k])[j] = p) → Qm.gone s f u p = false → ∀ (A : Option Addr) (c : Nat) (W : World) (B : Nat), Reads W B 3 A (Ig.setAll [] (Qm.keepL (Qm.gone s f u) (Qm.part LP k j))).length ((Ig.setAll [] (Qm.keepL (Qm.gone s f u) (Qm.part LP k j))).flatMap pointCells) → B ≤ W.heap.size →
      Calls Try.prog 61 #[.slice A (Ig.setAll [] (Qm.keepL (Qm.gone s f u) (Qm.part LP k j))).length c, .agg #[.string p.1, .int .i64 p.2.1, .int .i64 p.2.2]] W (PtsPost W (Ig.setAll [] (Qm.keepL (Qm.gone s f u) (Qm.part LP k (j + 1)))))) := fun k j p ⟨hk, hj, he⟩ hg A c W B h1 h2 => by
    have hl := Qm.part_len LP k j (by omega)
    have hl2 := Qm.keepL_len (Qm.gone s f u) (Qm.part LP k j)
    have h := ins_step (Qm.keepL (Qm.gone s f u) (Qm.part LP k j)) p (by omega) (fun q hq => hwf q (Qm.part_sub LP k j q (List.mem_filter.1 hq).1)) (hwf p (List.mem_flatten.2 ⟨_, List.getElem_mem hk, by rw [← he]; exact List.getElem_mem hj⟩)) A c W B h1 h2
    rw [Qm.part_step LP k j hk hj, he, Qm.keepL_append (Qm.gone s f u) (Qm.part LP k j) [p], Qm.keepL_one, if_neg (by rw [hg]; decide)]
    exact h
  have HG3 : Hid (∀ k (hk : k < LP.length), Ig.setAll [] (Qm.keepL (Qm.gone s f u) (Qm.part LP k (LP[k]).length)) = Ig.setAll [] (Qm.keepL (Qm.gone s f u) (Qm.part LP (k + 1) 0))) := fun k hk => by rw [Qm.part_next LP k hk]
  have HG0 : Hid (Ig.setAll [] (Qm.keepL (Qm.gone s f u) (Qm.part LP 0 0)) = []) := by show _ = _; rw [Qm.part_zero]; rfl
  have HGe : Hid (Ig.setAll [] (Qm.keepL (Qm.gone s f u) (Qm.part LP LP.length 0)) = Ig.setAll [] (Qm.keepL (Qm.gone s f u) LP.flatten)) := by show _ = _; rw [Qm.part_end]
  have HW := Lib.hid (gone_ways s f u)
  obtain ⟨G, hG⟩ : ∃ G : Nat → Nat → List Pt.Point, ∀ k j, G k j = Ig.setAll [] (Qm.keepL (Qm.gone s f u) (Qm.part LP k j)) := ⟨fun k j => Ig.setAll [] (Qm.keepL (Qm.gone s f u) (Qm.part LP k j)), fun _ _ => rfl⟩
  simp only [← hG] at HG0 HG1 HG2 HG3 HGe
  have HLP := Lib.hid hLP
  have hlens : ∀ l ∈ LP, l.length ≤ 140737488355328 := fun l hl => by have := Qm.mem_flat_len hl; omega
  have HLens := Lib.hid hlens
  clear hr hro hss htot hwf hG hLP hlens
  generalize Qm.gone s f u = d at *
  go_enter Try.func33, Try.ntmps33
  go_wp2_with fail
  refine HA.out.mono ?_
  rintro e w1 ⟨hb1, hcase⟩
  have Hb1 := Lib.hid hb1
  have hs1 := hb1.size
  rcases hcase with ⟨hno, rfl⟩ | ⟨hok, v1, L, rfl, hown1, hlays, hLm, hLl⟩
  · have hr := HR2.out hno
    subst hr
    clear HR1 HR2 hno HA HG0 HG1 HG2 HG3 HGe HW
    go_wp2_with fail
    go_ret2
    exact ⟨_, rfl, own_nil _ _ _ _, Hb1.out⟩
  · have hr := HR1.out hok
    rw [← HGe.out] at hr
    have Hr := Lib.hid hr
    have Hown1 := Lib.hid hown1
    have Hlays := Lib.hid hlays
    have HLm := Lib.hid hLm
    have HLl := Lib.hid hLl
    clear HR1 HR2 hok hr HA hlays hLm hLl hb1 hown1 HGe
    go_wp2_with (at_builtin; refine wpList_push_beside _ rfl _ _ 37 rfl w.heap.size 38 i0 _ 1 24 Try.underlying37 hi hz0 hz1 hz2 rfl (by decide) _ segs.length _ (by rfl) Hown1.out [.slice A' o.length c'] (by rfl) rfl (by simp [Value.oneCell']) (by unfold maxLen; omega) (by omega) w Hb1.out hs1 ?_; intro v8 w8 hown8 hb8 hg8; obtain ⟨A8, c8, rfl, _, hr8⟩ := own_slice hown8)
    obtain ⟨LL, hLL⟩ : ∃ LL : List Lay, LL = L ++ [(A', c', o)] := ⟨_, rfl⟩
    have hLLm : LL.map (·.2.2) = LP := by rw [hLL, HLP.out, List.map_append, HLm.out]; rfl
    have hLLl : segs.length + 1 = LL.length := by rw [hLL, List.length_append, HLl.out]; rfl
    have hLPl : LP.length = LL.length := by rw [← hLLm, List.length_map]
    have Hr8 : Hid (Reads w8 w8.heap.size 1 (A8) LL.length (LL.map layV)) := by
      show Reads _ _ _ _ _ _
      rw [← hLLl, hLL, List.map_append]; exact hr8
    have hs8 := hb8.size
    have HLr : Hid (∀ y ∈ LL, Reads w8 w8.heap.size 3 y.1 y.2.2.length (y.2.2.flatMap pointCells)) := fun y hy => by
      rw [hLL] at hy
      rcases List.mem_append.1 hy with hy | hy
      · exact Reads.of_own (own_beside (Hlays.out y hy) Hown1.out (by decide) hg8)
      · rw [List.mem_singleton] at hy
        subst hy
        exact (Hro.out.below (hb8.mono hB)).more (by omega)
    have Hb8 := Lib.hid hb8
    have HGat : Hid (∀ k (y : Lay), LL[k]? = some y → ∃ hk : k < LP.length, LP[k] = y.2.2) := fun k y hk => by
      obtain ⟨h, rfl⟩ := List.getElem?_eq_some_iff.1 hk
      exact ⟨by omega, by simp only [← hLLm, List.getElem_map]⟩
    rw [hLPl] at Hr
    clear hown8 hb8 hg8 hr8 Hown1 Hlays HLm HLl hLL hLLm hLPl HLP Hro
    rw [hLLl] at hn ⊢
    clear hLLl
    go_wp2_with fail
    go_loopw [14, 15, 16, 17] (fun vo i _ _ wr => ∃ (k : Nat), k ≤ LL.length ∧ i = .int .i64 (k : Int) ∧ Hid (wr.ownsRow w8.heap.size 52 3 vo (G k 0).length ((G k 0).flatMap pointCells)) ∧ Hid (Below w8.heap.size w8 wr)) (fun _ i _ _ _ => LL.length - (intOf i).toNat)
    case atStart => exact ⟨0, Nat.zero_le _, rfl, Lib.hid (by rw [HG0.out]; exact own_nil _ _ _ _), Lib.hid (Below.refl _ _)⟩
    case round =>
      obtain ⟨k, hk, rfl, hown, hbw⟩ := hrel
      have hsw := hbw.out.size
      by_cases hlt : k < LL.length
      · have hkI0 : (0 : Int) ≤ (k : Int) := by omega
        have hkI : (k : Int) < (LL.length : Int) := by omega
        obtain ⟨y, hy⟩ : ∃ y, LL[k]? = some y := ⟨_, List.getElem?_eq_getElem hlt⟩
        have hye : LL[k] = y := (List.getElem?_eq_some_iff.1 hy).2
        obtain ⟨b, off, rfl, hbl, hc⟩ := Hr8.out.2 (by omega)
        have hcy : w8.cell? ⟨b, off + k, none⟩ = some (layV y) := hc k _ (by simp [hlt, hye])
        have hry := Lib.hid (HLr.out y (List.mem_of_getElem? hy))
        obtain ⟨hkP, hPk⟩ := HGat.out k y hy
        have hyl : y.2.2.length ≤ 140737488355328 := by rw [← hPk]; exact HLens.out _ (List.getElem_mem hkP)
        have HG1k : Hid (∀ j p, y.2.2[j]? = some p → d p = true → G k (j + 1) = G k j) := fun j p hj hd => by
          obtain ⟨h, rfl⟩ := List.getElem?_eq_some_iff.1 hj
          exact HG1.out k j _ ⟨hkP, by rw [hPk]; exact h, by simp only [hPk]⟩ hd
        have HG2k := Lib.hid (fun j p (hj : y.2.2[j]? = some p) (hd : d p = false) => by
          obtain ⟨h, he⟩ := List.getElem?_eq_some_iff.1 hj
          exact HG2.out k j p ⟨hkP, by rw [hPk]; exact h, by simp only [hPk]; exact he⟩ hd)
        have HG3k : Hid (G k y.2.2.length = G (k + 1) 0) := by
          have := HG3.out k hkP
          rw [hPk] at this; exact this
        clear hc hye hy hPk hkP
        obtain ⟨ya, yc, ps⟩ := y
        unfold layV at hcy
        dsimp only at hcy hyl hry HG1k HG2k HG3k
        generalize wr = Wo at *
        go_wp2_with fail
        go_loopw [14, 16, 17] (fun vo j _ wr => ∃ (i : Nat), i ≤ ps.length ∧ j = .int .i64 (i : Int) ∧ Hid (wr.ownsRow w8.heap.size 52 3 vo (G k i).length ((G k i).flatMap pointCells)) ∧ Hid (Below w8.heap.size w8 wr)) (fun _ j _ _ => ps.length - (intOf j).toNat)
        case atStart => exact ⟨0, Nat.zero_le _, rfl, hown, hbw⟩
        case round =>
          clear hown hbw hsw
          obtain ⟨i, hi', rfl, hown, hbw⟩ := hrel
          have hsw := hbw.out.size
          have hcw : wr.cell? ⟨b, off + k, none⟩ = some (.slice ya ps.length yc) := (hbw.out.cell (p := ⟨b, off + k, none⟩) hbl).trans hcy
          by_cases hlt2 : i < ps.length
          · have hiI0 : (0 : Int) ≤ (i : Int) := by omega
            have hiI : (i : Int) < (ps.length : Int) := by omega
            obtain ⟨b2, off2, rfl, hbl2, hc2⟩ := hry.out.2 (by omega)
            obtain ⟨p, hp⟩ : ∃ p, ps[i]? = some p := ⟨_, List.getElem?_eq_getElem hlt2⟩
            have hpe : ps[i] = p := (List.getElem?_eq_some_iff.1 hp).2
            have hcp := pt_cells (wr := wr) hlt2 hc2 (fun p hp => hbw.out.cell (p := p) hp) hbl2
            rw [hpe] at hcp
            have HGy := Lib.hid (HG1k.out i p hp)
            have HGn := Lib.hid (HG2k.out i p hp)
            clear hpe hp hc2
            obtain ⟨qn, qt, qv⟩ := p
            dsimp only at hcp HGn
            obtain ⟨q0, q1, q2⟩ := hcp
            have hB0 := pt3_of (Blk.new wr 52 #[.string qn, .int .i64 qt, .int .i64 qv])
            have hb0 : Below wr.heap.size wr (wr.alloc (.cells #[.string qn, .int .i64 qt, .int .i64 qv] 52)) := (Below.refl _ _).alloc (Nat.le_refl _) _
            rcases HW.out qn qt qv with ⟨rfl, d1, d2, hd⟩ | ⟨d1, hd⟩ | ⟨rfl, d1, hd⟩ | ⟨rfl, d1, d2, hd⟩
            · have HX := Lib.hid (HGn.out hd)
              clear HGn HGy hd
              go_wp2_with fail
              generalize (wr.alloc (.cells #[.string qn, .int .i64 qt, .int .i64 qv] 52)) = wb at *
              have hownb := own_only hown.out (Only.new (fun _ => False) hb0) (fun _ _ q => q)
              have hbb : Below w8.heap.size w8 wb := hbw.out.trans (hb0.mono hsw)
              have hsb := hbb.size
              obtain ⟨A5, c5, rfl, _, hr5⟩ := own_slice hownb
              have HX2 := Lib.hid (HX.out A5 c5 wb wb.heap.size hr5 (Nat.le_refl _))
              obtain ⟨x0, x1, x2⟩ := hB0
              have Hbb := Lib.hid hbb
              clear HX hr5 hownb hb0 hbb hbw hown
              go_wp2_with fail
              refine HX2.out.mono ?_
              rintro e w2 ⟨v, rfl, hown2, hb2⟩
              have Hown2 := Lib.hid (own_down hown2 hsb)
              have Hb2 : Hid (Below w8.heap.size w8 w2) := Hbb.out.trans (hb2.mono hsb)
              clear hown2 hb2 HX2
              go_wp2_with fail
              go_roundw
              case rel => exact ⟨i + 1, by omega, by go_num, Hown2, Hb2⟩
              case measure => simp [intOf]; omega
            all_goals
              have HE := HGy.out hd
              have Hownb : Hid ((wr.alloc (.cells #[.string qn, .int .i64 qt, .int .i64 qv] 52)).ownsRow w8.heap.size 52 3 u14 (G k (i + 1)).length ((G k (i + 1)).flatMap pointCells)) := by
                show World.ownsRow _ _ _ _ _ _ _
                rw [HE]; exact own_only hown.out (Only.new (fun _ => False) hb0) (fun _ _ q => q)
              have Hbb : Hid (Below w8.heap.size w8 (wr.alloc (.cells #[.string qn, .int .i64 qt, .int .i64 qv] 52))) := hbw.out.trans (hb0.mono hsw)
              clear HGn HGy hd HE hown hbw
              go_wp2_with fail
              generalize (wr.alloc (.cells #[.string qn, .int .i64 qt, .int .i64 qv] 52)) = wb at *
              obtain ⟨x0, x1, x2⟩ := hB0
              go_wp2_with fail
              go_roundw
              case rel => exact ⟨i + 1, by omega, by go_num, Hownb, Hbb⟩
              case measure => simp [intOf]; omega
          · obtain rfl : i = ps.length := by omega
            have hiI : ¬ (ps.length : Int) < (ps.length : Int) := by omega
            rw [HG3k.out] at hown
            go_wp2_with fail
            go_roundw
            case rel => exact ⟨k + 1, by omega, by go_num, hown, hbw⟩
            case measure => simp [intOf]; omega
      · obtain rfl : k = LL.length := by omega
        have hr := Hr.out
        subst hr
        have hkI : ¬ (LL.length : Int) < (LL.length : Int) := by omega
        clear HG0 HG1 HG2 HG3 HW Hr
        go_wp2_with fail
        go_ret2
        exact ⟨_, rfl, own_down hown.out hs8, Hb8.out.trans (hbw.out.mono hs8)⟩
end Go.Proofs.Ythdbmgjlegpbaaa
