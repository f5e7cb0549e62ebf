/- The walk through query.Range. -/
import Derived.Test.YthdbmgjlegpbaaaK12
import Derived.Test.YthdbmgjlegpbaaaKQmDel2
import Derived.Test.YthdbmgjlegpbaaaKQmClone
import Derived.Test.YthdbmgjlegpbaaaK7
namespace Go.Proofs.Ythdbmgjlegpbaaa
open Go.RowKit
set_option linter.unusedVariables false

namespace Qm
def fold (d : Pt.Point → Bool) (L : List (List Pt.Point)) : List Pt.Point := L.foldl (fun out ps => mergeP out (keepL d ps)) []
theorem fold_snoc (d : Pt.Point → Bool) (L : List (List Pt.Point)) (k : Nat) (hk : k < L.length) : fold d (L.take (k + 1)) = mergeP (fold d (L.take k)) (keepL d L[k]) := by
  unfold fold
  rw [List.take_succ_eq_append_getElem hk, List.foldl_append]; rfl
theorem mergeP_len (a b : List Pt.Point) : (mergeP a b).length ≤ a.length + b.length := by
  have := Ig.setAll_len [] (a ++ b)
  rw [List.length_append, List.length_nil, Nat.zero_add] at this
  exact this
theorem mem_flat_len {l : List Pt.Point} {L : List (List Pt.Point)} (h : l ∈ L) : l.length ≤ L.flatten.length := by
  obtain ⟨a, b, rfl⟩ := List.append_of_mem h
  rw [List.flatten_append, List.flatten_cons, List.length_append, List.length_append]; omega
theorem fold_len (d : Pt.Point → Bool) (L : List (List Pt.Point)) (k : Nat) (hk : k ≤ L.length) : (fold d (L.take k)).length ≤ (L.take k).flatten.length := by
  induction k with
  | zero => simp [fold]
  | succ k ih =>
    rw [fold_snoc d L k (by omega), List.take_succ_eq_append_getElem (by omega), List.flatten_append, List.length_append]
    have h1 := ih (by omega)
    have h2 := mergeP_len (fold d (L.take k)) (keepL d (L[k]'(by omega)))
    have h3 := keepL_len d (L[k]'(by omega))
    simp only [List.flatten_cons, List.flatten_nil, List.append_nil]
    omega
theorem flat_take_le (L : List (List Pt.Point)) (k : Nat) : (L.take k).flatten.length ≤ L.flatten.length := by
  have h : L.flatten = (L.take k).flatten ++ (L.drop k).flatten := by rw [← List.flatten_append, List.take_append_drop]
  rw [h, List.length_append]; omega
def rangeR (segs : List ByteArray) (o : List Pt.Point) (s : ByteArray) (f u : Int) : List Pt.Point × Int :=
  if Qr.okS segs = true then (fold (gone s f u) (segs.map Qr.ptsOf ++ [o]), 0) else ([], 1500)
end Qm
def RangePost (w : World) (q : List Pt.Point × Int) (e : Ending) (w' : World) : Prop := ∃ v, e = .returned (.tuple #[v, .int .i64 q.2]) ∧ w'.ownsRow w.heap.size 52 3 v q.1.length (q.1.flatMap pointCells) ∧ Below w.heap.size w w'
theorem three_boxes (w : World) (s : ByteArray) (f u : Int) : ∀ W, W = ((w.alloc (.cells #[.string s] 9)).alloc (.cells #[.int .i64 f] 3)).alloc (.cells #[.int .i64 u] 3) →
    W.heap.size = w.heap.size + 3 ∧ Below w.heap.size w W ∧ W.cell? ⟨w.heap.size, 0, none⟩ = some (.string s) ∧ W.cell? ⟨w.heap.size + 1, 0, none⟩ = some (.int .i64 f) ∧ W.cell? ⟨w.heap.size + 2, 0, none⟩ = some (.int .i64 u) := by
  rintro W rfl
  have e1 : (w.alloc (.cells #[.string s] 9)).heap.size = w.heap.size + 1 := by simp
  have e2 : ((w.alloc (.cells #[.string s] 9)).alloc (.cells #[.int .i64 f] 3)).heap.size = w.heap.size + 2 := by simp
  have h1 := ((Blk.new w 9 #[.string s]).alloc (.cells #[.int .i64 f] 3)).alloc (.cells #[.int .i64 u] 3)
  have h2 := (Blk.new (w.alloc (.cells #[.string s] 9)) 3 #[.int .i64 f]).alloc (.cells #[.int .i64 u] 3)
  have h3 := Blk.new ((w.alloc (.cells #[.string s] 9)).alloc (.cells #[.int .i64 f] 3)) 3 #[.int .i64 u]
  rw [e1] at h2
  rw [e2] at h3
  exact ⟨by simp, (((Below.refl _ _).alloc (Nat.le_refl _) _).alloc (by omega) _).alloc (by omega) _, h1.cell 0, h2.cell 0, h3.cell 0⟩
set_option maxRecDepth 100000 in
set_option maxHeartbeats 4000000 in
theorem range_any (A : Option Addr) (c : Nat) (segs : List ByteArray) (o : Lay) (s : ByteArray) (f u : Int) (w : World) (B : Nat) (hr : Reads w B 1 A segs.length (segs.map Value.string)) (hB : B ≤ w.heap.size) (hn : (segs.length + 1) * 24 ≤ 140737488355328) (hss : ∀ s ∈ segs, s.size ≤ 140737488355328)
    (ho : Reads w B 3 o.1 o.2.2.length (o.2.2.flatMap pointCells)) (htot : (segs.map Qr.ptsOf ++ [o.2.2]).flatten.length ≤ 549755813888) :
    Calls Try.prog 32 #[.slice A segs.length c, layV o, .string s, .int .i64 f, .int .i64 u] w (RangePost w (Qm.rangeR segs o.2.2 s f u)) := by
  obtain ⟨W3, hW3⟩ : ∃ W3, W3 = ((w.alloc (.cells #[.string s] 9)).alloc (.cells #[.int .i64 f] 3)).alloc (.cells #[.int .i64 u] 3) := ⟨_, rfl⟩
  obtain ⟨hs3, hb3, cs, cf, cu⟩ := three_boxes w s f u W3 hW3
  have HLy := Lib.hid (layers_any A c segs o W3 B (hr.below (hb3.mono hB)) (by omega) hn hss)
  have Ho3 := Lib.hid (ho.below (hb3.mono hB))
  have HW3 := Lib.hid hW3
  have Hb3 := Lib.hid hb3
  have HD : Hid (∀ (W : World) (R : Nat → Prop) (W' : World), Below W3.heap.size W3 W → Only R W W' → (∀ k, k < W3.heap.size → ¬ R k) → ∀ p : Pt.Point, Calls Try.prog 60 #[.agg #[.string p.1, .int .i64 p.2.1, .int .i64 p.2.2], .pointer (some ⟨w.heap.size, 0, none⟩), .pointer (some ⟨w.heap.size + 1, 0, none⟩), .pointer (some ⟨w.heap.size + 2, 0, none⟩)] W' fun e w' => e = .returned (.bool (Qm.gone s f u p)) ∧ Below W'.heap.size W' w') := fun W R W' hb hoR hnR p => by
    have hsz := hb.size
    refine range1_any p s f u w.heap.size (w.heap.size + 1) (w.heap.size + 2) W' ?_ ?_ ?_
    · exact (hoR.cell (p := ⟨w.heap.size, 0, none⟩) (show w.heap.size < _ by omega) (hnR w.heap.size (by omega))).trans ((hb.cell (p := ⟨w.heap.size, 0, none⟩) (show w.heap.size < _ by omega)).trans cs)
    · exact (hoR.cell (p := ⟨w.heap.size + 1, 0, none⟩) (show w.heap.size + 1 < _ by omega) (hnR (w.heap.size + 1) (by omega))).trans ((hb.cell (p := ⟨w.heap.size + 1, 0, none⟩) (show w.heap.size + 1 < _ by omega)).trans cf)
    · exact (hoR.cell (p := ⟨w.heap.size + 2, 0, none⟩) (show w.heap.size + 2 < _ by omega) (hnR (w.heap.size + 2) (by omega))).trans ((hb.cell (p := ⟨w.heap.size + 2, 0, none⟩) (show w.heap.size + 2 < _ by omega)).trans cu)
  have hB3 : B ≤ W3.heap.size := by omega
  have hw3 : w.heap.size ≤ W3.heap.size := by omega
  obtain ⟨oa, oc, ops⟩ := o
  unfold layV at *
  dsimp only at *
  clear hr hss ho hW3 hs3 hb3 cs cf cu
  go_enter Try.func32, Try.ntmps32
  go_wp2_with fail
  rw [← HW3.out]
  refine HLy.out.mono ?_
  rintro e w1 ⟨hb1, hcase⟩
  have Hb1 := Lib.hid hb1
  have hs1 := hb1.size
  clear hb1 HLy
  rcases hcase with ⟨hno, rfl⟩ | ⟨hok, v1, L, rfl, hown1, hlays, hLm, hLl⟩
  · have HR : Hid (Qm.rangeR segs ops s f u = ([], 1500)) := by show _ = _; unfold Qm.rangeR; rw [hno]; rfl
    clear hno
    go_wp2_with fail
    go_ret2
    rw [HR.out]
    exact ⟨_, rfl, own_nil _ _ _ _, Hb3.out.trans (Hb1.out.mono hw3)⟩
  · have HR : Hid (Qm.rangeR segs ops s f u = (Qm.fold (Qm.gone s f u) (segs.map Qr.ptsOf ++ [ops]), 0)) := by show _ = _; unfold Qm.rangeR; rw [hok]; rfl
    obtain ⟨LL, hLL⟩ : ∃ LL : List Lay, LL = L ++ [(oa, oc, ops)] := ⟨_, rfl⟩
    have hLLl : LL.length = segs.length + 1 := by rw [hLL, List.length_append, hLl]; rfl
    have hLm2 : LL.map (·.2.2) = segs.map Qr.ptsOf ++ [ops] := by rw [hLL, List.map_append, hLm]; rfl
    have HLr : Hid (∀ y ∈ LL, Reads w1 w1.heap.size 3 y.1 y.2.2.length (y.2.2.flatMap pointCells)) := fun y hy => by
      rw [hLL] at hy
      rcases List.mem_append.1 hy with hy | hy
      · exact Reads.of_own (hlays y hy)
      · rw [List.mem_singleton] at hy
        subst hy
        exact ((Ho3.out.below (Hb1.out.mono hB3)).more (by omega))
    obtain ⟨A1, c1, rfl, hnc1, hr1⟩ := own_slice hown1
    rw [← hLL, ← hLLl] at hr1
    rw [← hLm2] at htot HR
    have Hr1 := Lib.hid hr1
    have hTk : ∀ k, k ≤ LL.length → (Qm.fold (Qm.gone s f u) ((LL.map (·.2.2)).take k)).length ≤ 549755813888 := fun k hk => by
      have h1 := Qm.fold_len (Qm.gone s f u) (LL.map (·.2.2)) k (by rw [List.length_map]; exact hk)
      have h2 := Qm.flat_take_le (LL.map (·.2.2)) k
      omega
    have hLk : ∀ (k : Nat) (y : Lay), LL[k]? = some y → y.2.2.length ≤ 549755813888 := fun k y hk => by
      have hm : y.2.2 ∈ LL.map (·.2.2) := List.mem_map.2 ⟨y, List.mem_of_getElem? hk, rfl⟩
      have := Qm.mem_flat_len hm
      omega
    have hFs : ∀ (k : Nat) (y : Lay), LL[k]? = some y → Qm.fold (Qm.gone s f u) ((LL.map (·.2.2)).take (k + 1)) = Qm.mergeP (Qm.fold (Qm.gone s f u) ((LL.map (·.2.2)).take k)) (Qm.keepL (Qm.gone s f u) y.2.2) := fun k y hk => by
      obtain ⟨h, rfl⟩ := List.getElem?_eq_some_iff.1 hk
      rw [Qm.fold_snoc _ _ k (by rw [List.length_map]; exact h), List.getElem_map]
    have hFe : Qm.fold (Qm.gone s f u) ((LL.map (·.2.2)).take LL.length) = Qm.fold (Qm.gone s f u) (LL.map (·.2.2)) := by rw [List.take_of_length_le (by rw [List.length_map]; exact Nat.le_refl _)]
    obtain ⟨FF, hF0, hFS, hFE, hFL⟩ : ∃ FF : Nat → List Pt.Point, FF 0 = [] ∧ (∀ (k : Nat) (y : Lay), LL[k]? = some y → FF (k + 1) = Qm.mergeP (FF k) (Qm.keepL (Qm.gone s f u) y.2.2)) ∧ FF LL.length = Qm.fold (Qm.gone s f u) (LL.map (·.2.2)) ∧ ∀ k, k ≤ LL.length → (FF k).length ≤ 549755813888 :=
      ⟨fun k => Qm.fold (Qm.gone s f u) ((LL.map (·.2.2)).take k), by simp [Qm.fold], hFs, hFe, hTk⟩
    have HLk := Lib.hid hLk
    have HFS := Lib.hid hFS
    have HFE := Lib.hid hFE
    have HF0 := Lib.hid hF0
    have HFL := Lib.hid hFL
    have hlm : LL.length ≤ 5864062014805 := by omega
    clear hLk hFS hFE hF0 hFL hTk hFs hFe hr1 hlays hLm hLl hown1 hok htot hLm2 hLL
    have Hn1 : Hid (segs.length + 1 = LL.length) := hLLl.symm
    rw [← hLLl] at hnc1
    clear hLLl
    rw [Hn1.out]
    go_wp2_with fail
    go_loopw [14, 16, 17, 28] (fun vo _ _ x wr => ∃ (k : Nat), k ≤ LL.length ∧ x = .int .i64 (k : Int) ∧ Hid (wr.ownsRow w1.heap.size 52 3 vo (FF k).length ((FF k).flatMap pointCells)) ∧ Hid (Below w1.heap.size w1 wr)) (fun _ _ _ x _ => LL.length - (intOf x).toNat)
    case atStart => exact ⟨0, Nat.zero_le _, rfl, Lib.hid (by rw [HF0.out]; exact own_nil _ _ _ _), Lib.hid (Below.refl _ _)⟩
    case round =>
      obtain ⟨k, hk, rfl, hown, hbw⟩ := hrel
      have hsw := hbw.out.size
      by_cases hlt : k < LL.length
      · obtain ⟨y, hy⟩ : ∃ y, LL[k]? = some y := ⟨_, List.getElem?_eq_getElem hlt⟩
        have hye : LL[k] = y := (List.getElem?_eq_some_iff.1 hy).2
        obtain ⟨b, off, rfl, hbl, hc⟩ := Hr1.out.2 (by omega)
        have hcy : wr.cell? ⟨b, off + k, none⟩ = some (layV y) := (hbw.out.cell (p := ⟨b, off + k, none⟩) hbl).trans (hc k _ (by simp [hlt, hye]))
        have hyl := HLk.out k y hy
        have HS := Lib.hid (HFS.out k y hy)
        have hfl := HFL.out k hk
        have hry := (HLr.out y (List.mem_of_getElem? hy)).below hbw.out
        have HC := Lib.hid (cloneQ_any y.1 y.2.1 y.2.2 wr w1.heap.size hry hsw (by omega))
        clear hc hy hye hry
        obtain ⟨ya, yc, ps⟩ := y
        unfold layV at hcy
        dsimp only at hcy hyl HS HC
        generalize wr = Wr at *
        go_wp2_with fail
        refine HC.out.mono ?_
        rintro e w4 ⟨v4, rfl, hown4, hb4⟩
        have hlt4 := fun g hg => (hown4.lt g hg).1
        have hs4 := hb4.size
        have hW4 : Below W3.heap.size W3 w4 := (Hb1.out.trans (hbw.out.mono hs1)).trans (hb4.mono (by omega))
        have HD4 : ClP (fun k => v4.ownBlock = some k) w4 w.heap.size (w.heap.size + 1) (w.heap.size + 2) (Qm.gone s f u) := fun W' ho' p => HD.out w4 _ W' hW4 ho' (fun j hj e => by have := hlt4 j e; omega) p
        have HX := Lib.hid (deleteFunc_any Wr.heap.size v4 ps (Qm.gone s f u) _ _ _ w4 hown4 (by omega) HD4)
        have Hb4 := Lib.hid hb4
        have Hlt4 := Lib.hid hlt4
        clear HC hown4 hb4 hW4 HD4 hlt4
        obtain ⟨Ao, co, rfl, _, _⟩ := own_slice hown.out
        go_wp2_with fail
        refine HX.out.mono ?_
        rintro e w5 ⟨v5, rfl, hown5, ho5⟩
        have hb5 : Below Wr.heap.size Wr w5 := Hb4.out.trans (ho5.below (fun j hj e => by have := Hlt4.out j e; omega) hs4)
        have hs5 := hb5.size
        have hownK := own_only hown.out (Only.new (fun _ => False) hb5) (fun _ _ q => q)
        have hkl := Qm.keepL_len (Qm.gone s f u) ps
        obtain ⟨A5, c5, rfl, _, hr5⟩ := own_slice hown5
        have HM := Lib.hid (merge_any (Ao, co, FF k) (A5, c5, Qm.keepL (Qm.gone s f u) ps) w5.heap.size w5 (Reads.of_own hownK) hr5 (Nat.le_refl _) (by dsimp only; omega))
        dsimp only at HM
        rw [← HS.out] at HM
        unfold layV at HM
        dsimp only at HM
        have Hb5 : Hid (Below w1.heap.size w1 w5) := hbw.out.trans (hb5.mono hsw)
        generalize Qm.keepL (Qm.gone s f u) ps = kp at *
        generalize FF k = fk at *
        clear HX hown5 ho5 hb5 hownK hr5 Hb4 Hlt4 hown HS
        go_wp2_with fail
        refine HM.out.mono ?_
        rintro e w6 ⟨v6, rfl, hown6, hb6⟩
        have Hown6 := Lib.hid (own_down hown6 (show w1.heap.size ≤ w5.heap.size by omega))
        have Hb6 : Hid (Below w1.heap.size w1 w6) := Hb5.out.trans (hb6.mono (by omega))
        clear hown6 hb6 HM
        go_wp2_with fail
        go_roundw
        case rel => exact ⟨k + 1, by omega, by go_num, Hown6, Hb6⟩
        case measure => simp [intOf]; omega
      · obtain rfl : k = LL.length := by omega
        rw [HFE.out] at hown
        go_wp2_with fail
        go_ret2
        rw [HR.out]
        exact ⟨_, rfl, own_down hown.out (by omega), (Hb3.out.trans (Hb1.out.mono hw3)).trans (hbw.out.mono (by omega))⟩
end Go.Proofs.Ythdbmgjlegpbaaa
