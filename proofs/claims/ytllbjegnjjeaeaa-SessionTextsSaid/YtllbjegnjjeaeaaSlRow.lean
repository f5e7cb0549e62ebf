/- slices.Insert of one element into a row of the call's own, and slices.Delete of one (printed by gen_slices.py; the roads are worked out after the kit's at one cell). -/
import Derived.Test.YtllbjegnjjeaeaaSeMay
import Derived.Test.YtllbjegnjjeaeaaOwnRow
import Derived.Shelf.RegionOpenPlain
import Derived.Laws.Externs
import Derived.Laws.NewBlocks
namespace Go.Proofs.Ytllbjegnjjeaeaa
open Go.RowKit Go.Shelf
set_option linter.unusedVariables false

def InsR (w : World) (base : Nat) (v : Value) (n : Nat) (xs : List Value) (e : Ending) (w' : World) : Prop :=
  ∃ v', e = .returned v' ∧ w'.ownsRow base 49 4 v' n xs ∧ Only (fun k => v.ownBlock = some k) w w' ∧ (∀ g, v'.ownBlock = some g → v.ownBlock = some g ∨ w.heap.size ≤ g)
theorem only_own {w w' : World} {g n cap : Nat} (h : Only (fun k => k = g) w w') : Only (fun k => Value.ownBlock (.slice (some ⟨g, 0, none⟩) n cap) = some k) w w' := h.mono fun j _ hj => by rw [hj]; rfl
theorem insR_fin {w w1 : World} {base n : Nat} {v v1 : Value} {xs : List Value} (hown1 : w1.ownsRow base 49 4 v1 n xs) (hg1 : w.grownBy w1 v.ownBlock) (hor : v1.ownBlock = v.ownBlock ∨ v1.ownBlock = some w.heap.size) : InsR w base v n xs (.returned v1) w1 :=
  ⟨_, rfl, hown1, Only.of_grown hg1 (fun k hk _ => hk), fun g hg => by
    rcases hor with h | h
    · rw [h] at hg; exact .inl hg
    · rw [h] at hg; cases hg; exact .inr (Nat.le_refl _)⟩
set_option maxRecDepth 100000 in
set_option maxHeartbeats 1000000 in
theorem insertR_end (v : Value) (n vb base : Nat) (xs ys : List Value) (w : World) (hown : w.ownsRow base 49 4 v n xs) (hys : ys.length = 4) (h1y : ∀ u ∈ ys, u.oneCell' = true) (hV : Blk w vb 49 ys.toArray) (hbase : base ≤ w.heap.size) (hn : n ≤ 1000000000) :
    Calls Try.prog 48 #[v, .int .i64 (n : Int), .slice (some ⟨vb, 0, none⟩) 1 1] w (InsR w base v (n + 1) (xs ++ ys)) := by
  obtain ⟨i0, hi, hz0, hz1, hz2⟩ := info_parts info_srow
  have hrd : Reads w (vb + 1) 4 (some ⟨vb, 0, none⟩) 1 ys := ⟨by rw [hys], fun _ => ⟨vb, 0, rfl, by omega, fun j u hu => by rw [Nat.zero_add, hV.cell]; simpa using hu⟩⟩
  obtain ⟨A, c, rfl, hnc, _⟩ := own_slice hown
  have hcm : c ≤ 9223372036854775807 := by
    rcases hown.2 with ⟨h, _⟩ | ⟨g', cap', cur, h, _, _, h1, h2, _⟩
    · injection h with _ _ h; omega
    · injection h with _ _ h; subst h; exact h2
  by_cases hcn : n = c
  · subst hcn
    go_enter Try.func48, Try.ntmps48
    go_wp2_with (at_builtin; refine wpList_plain rfl fun _ hK => wp_append_all _ _ _ 22 rfl base 49 i0 _ 4 32 Try.underlying22 hi hz0 hz1 hz2 rfl (by decide) _ n xs (by rfl) hown (vb + 1) _ 1 1 ys (by rfl) hrd h1y (by unfold maxLen; omega) (by omega) hbase ?_; intro v1 w1 hown1 hg1 hor; refine hK _ _ ?_)
    go_ret
    exact insR_fin hown1 hg1 hor
  · have hcn2 : ¬ c = n := fun e => hcn e.symm
    go_enter Try.func48, Try.ntmps48
    go_wp2_with (at_builtin; refine wpList_plain rfl fun _ hK => wp_append_all _ _ _ 22 rfl base 49 i0 _ 4 32 Try.underlying22 hi hz0 hz1 hz2 rfl (by decide) _ n xs (by rfl) hown (vb + 1) _ 1 1 ys (by rfl) hrd h1y (by unfold maxLen; omega) (by omega) hbase ?_; intro v1 w1 hown1 hg1 hor; refine hK _ _ ?_)
    go_ret
    exact insR_fin hown1 hg1 hor
set_option maxRecDepth 100000 in
set_option maxHeartbeats 1000000 in
theorem insertR_room (g n cap i vb base : Nat) (xs ys : List Value) (w : World) (hown : w.ownsRow base 49 4 (.slice (some ⟨g, 0, none⟩) n cap) n xs) (hi : i < n) (hroom : n + 1 ≤ cap) (hys : ys.length = 4) (h1x : ∀ u ∈ xs, u.oneCell' = true) (h1y : ∀ u ∈ ys, u.oneCell' = true) (hV : Blk w vb 49 ys.toArray) (hvb : vb ≠ g) (hn : n ≤ 1000000000) :
    Calls Try.prog 48 #[.slice (some ⟨g, 0, none⟩) n cap, .int .i64 (i : Int), .slice (some ⟨vb, 0, none⟩) 1 1] w (InsR w base (.slice (some ⟨g, 0, none⟩) n cap) (n + 1) (xs.take (i * 4) ++ (ys ++ xs.drop (i * 4)))) := by
  obtain ⟨cur, hg, hB, hnc, hcm, hcs, hx⟩ := own_parts hown
  obtain ⟨zs, hzl, hext⟩ := own_extend hown 1 hroom
  have hxl := hown.1
  have hcm' : cap ≤ 9223372036854775807 := hcm
  obtain ⟨i0, hi0, hz0, hz1, hz2⟩ := info_parts info_srow
  have hsz : (Try.prog.info? 49).map (·.size) = some 4 := by rw [hi0]; simp [hz1]
  have hsE : ∀ w, (sizeOf 49).run Try.prog w = .ok 4 w := fun w => by simp [sizeOf, typeInfo, hi0, hz1]
  have hov : ∀ lb cb, (callFunc 53 #[.slice (some ⟨vb, 0, none⟩) 1 1, .slice (some ⟨g, (i + 1) * 4, none⟩) lb cb]).run Try.prog w = .ok (.value (.bool false)) w := fun lb cb => by
    rw [run_callFunc_extern Try.func53 (by kernel_rfl) (by kernel_rfl) (by kernel_rfl) (e := Extern.SlicesOverlaps.overlaps #[22, 22] #[4]) (by kernel_rfl),
      Lib.run_overlaps_apart w 22 4 49 Try.underlying22 4 hsE ⟨vb, 0, none⟩ ⟨g, (i + 1) * 4, none⟩ 1 1 lb cb hvb _ _ _ _ hV.shape hB.shape (by omega) (hV.frozen _) (hV.frozen _)]
    rfl
  have hle : i * 4 ≤ xs.length := by omega
  have hdl : (xs.drop (i * 4)).length = (n - i) * 4 := by rw [List.length_drop, hxl]; omega
  have hcp1 : ∀ ty dc sc, (Builtin.copy_ #[22, 22] ty #[.slice (some ⟨g, (i + 1) * 4, none⟩) (n - i) dc, .slice (some ⟨g, i * 4, none⟩) (n + 1 - i) sc]).run Try.prog w.drew = .ok (goInt (Nat.min (n + 1 - i) (n - i))) (w.drew.setCells g ((i + 1) * 4) (xs.drop (i * 4))) := fun ty dc sc =>
    run_copy_k w.drew _ _ ty 49 4 g ((i + 1) * 4) (n - i) dc ⟨g, i * 4, none⟩ (n + 1 - i) sc (xs.drop (i * 4)) Try.underlying22 hsz (by rw [hdl]; congr 1; simp only [Nat.min_def]; split <;> omega)
      (fun j v hj => by rw [add_mk]; exact own_cell hown (by rwa [List.getElem?_drop] at hj))
      (fun j hj => own_some_cell hown _ (by rw [hdl] at hj; omega)) (fun j hj => own_frozen hown _) (fun v hv => h1x v (List.mem_of_mem_drop hv))
  obtain ⟨W1, hW1⟩ : ∃ W1, W1 = w.drew.setCells g ((i + 1) * 4) (xs.drop (i * 4)) := ⟨_, rfl⟩
  have hO1 : W1.ownsRow base 49 4 (.slice (some ⟨g, 0, none⟩) (n + 1) cap) (n + 1) (setL (xs ++ zs) ((i + 1) * 4) (xs.drop (i * 4))) := by
    rw [hW1]; exact own_setCells _ _ (own_drewN hext 1)
  have hB1 : Blk W1 vb 49 ys.toArray := by
    rw [hW1]; exact Blk.only (hV.drew) (only_setCells _ _ _) hvb
  have ho1 : Only (fun k => k = g) w W1 := by
    rw [hW1]; exact (Only.refl (fun k => k = g) w).drew.trans (only_setCells _ _ _) (fun _ _ h => h)
  rw [← hW1] at hcp1
  clear hW1
  have hcp2 : ∀ ty dc, (Builtin.copy_ #[22, 22] ty #[.slice (some ⟨g, i * 4, none⟩) (n + 1 - i) dc, .slice (some ⟨vb, 0, none⟩) 1 1]).run Try.prog W1 = .ok (goInt (Nat.min 1 (n + 1 - i))) (W1.setCells g (i * 4) ys) := fun ty dc =>
    run_copy_k W1 _ _ ty 49 4 g (i * 4) (n + 1 - i) dc ⟨vb, 0, none⟩ 1 1 ys Try.underlying22 hsz (by rw [hys, show Nat.min 1 (n + 1 - i) = 1 from by simp only [Nat.min_def]; split <;> omega])
      (fun j v hj => by rw [add_mk, Nat.zero_add, hB1.cell]; simpa using hj)
      (fun j hj => own_some_cell hO1 _ (by rw [hys] at hj; omega)) (fun j hj => own_frozen hO1 _) h1y
  have hfin : InsR w base (.slice (some ⟨g, 0, none⟩) n cap) (n + 1) (xs.take (i * 4) ++ (ys ++ xs.drop (i * 4))) (.returned (.slice (some ⟨g, 0, none⟩) (n + 1) cap)) (W1.setCells g (i * 4) ys) := by
    refine ⟨_, rfl, ?_, only_own (ho1.trans (only_setCells _ _ _) (fun _ _ h => h)), fun k hk => .inl hk⟩
    have h := own_setCells ys (i * 4) hO1
    rw [show (i + 1) * 4 = i * 4 + 4 from by omega, ins_cells xs ys zs (i * 4) 4 hys (by omega) hle] at h
    exact h
  have Hfin := Lib.hid hfin
  have mixed : Try.prog.follows .mixedOrders = true := by kernel_rfl
  have hz2' : ¬ ((i : Int) = (n : Int)) := by omega
  have hw1 : IntKind.i64.wrap ((i : Int) + 1) = (i : Int) + 1 := by rw [IntKind.wrap_i64]; omega
  have hb1 : (0 : Int) ≤ (i : Int) + 1 := by omega
  have hin : i ≤ n := by omega
  have htn : ((i : Int) + 1).toNat = i + 1 := by omega
  have hb2 : ¬ (cap = i + 1) := by omega
  have hb3 : (i : Int) ≤ (n : Int) + 1 := by omega
  have hb4 : ¬ (cap = i) := by omega
  clear hfin hO1 hB1 ho1 hext hown hx hB hV hzl hle hdl hxl hcs
  go_enter Try.func48, Try.ntmps48
  go_wp2_with (simp only [hov])
  go_region_law_o (refine step_copy_at rfl _ _ 22 22 rfl _ _ (by simp [Act.eval, Act.put]) (by simp [Act.eval, Act.put]) (hcp1 _ _ _) ?_)
  go_wp2_with (at_builtin; refine wpList_copy_at _ rfl _ _ 22 22 rfl _ _ rfl rfl (hcp2 _ _) ?_)
  go_ret
  exact Hfin.out
set_option maxRecDepth 100000 in
set_option maxHeartbeats 1000000 in
theorem insertR_grow (g n cap i vb base : Nat) (xs ys : List Value) (w : World) (hown : w.ownsRow base 49 4 (.slice (some ⟨g, 0, none⟩) n cap) n xs) (hi : i < n) (hroom : ¬ n + 1 ≤ cap) (hys : ys.length = 4) (h1x : ∀ u ∈ xs, u.oneCell' = true) (h1y : ∀ u ∈ ys, u.oneCell' = true) (hV : Blk w vb 49 ys.toArray) (hbase : base ≤ w.heap.size) (hn : n ≤ 1000000000) :
    Calls Try.prog 48 #[.slice (some ⟨g, 0, none⟩) n cap, .int .i64 (i : Int), .slice (some ⟨vb, 0, none⟩) 1 1] w (InsR w base (.slice (some ⟨g, 0, none⟩) n cap) (n + 1) (xs.take (i * 4) ++ (ys ++ xs.drop (i * 4)))) := by
  obtain ⟨cur, hg, hB, hnc, hcm, hcs, hx⟩ := own_parts hown
  have hxl := hown.1
  have hcm' : cap ≤ 9223372036854775807 := hcm
  obtain ⟨i0, hi0, hz0, hz1, hz2⟩ := info_parts info_srow
  have hsz : (Try.prog.info? 49).map (·.size) = some 4 := by rw [hi0]; simp [hz1]
  have hle : i * 4 ≤ xs.length := by omega
  have hdl : (xs.drop (i * 4)).length = (n - i) * 4 := by rw [List.length_drop, hxl]; omega
  have hkk : (n : Int) + 1 - (i : Int) = ((n + 1 - i : Nat) : Int) := by omega
  have hik : i + (n + 1 - i) = n + 1 := by omega
  have hgw := hB.lt
  have hvw := hV.lt
  have hold : (Builtin.firstCells i0.size i (.slice (some ⟨g, 0, none⟩) i cap)).run Try.prog w.drew = .ok (xs.take (i * 4)).toArray w.drew := by
    rw [hz1]
    have hld := run_loadCells_list (P := Try.prog) w.drew ⟨g, 0, none⟩ (xs.take (i * 4)) (fun j v hj => by
      rw [add_mk, Nat.zero_add]
      rw [List.getElem?_take] at hj
      split at hj
      · exact own_cell hown hj
      · cases hj)
    rw [List.length_take, Nat.min_eq_left hle] at hld
    exact hld
  have hrz : ∀ ty, (Builtin.append_ #[22, 3] ty #[.slice (some ⟨g, 0, none⟩) i cap, .int .i64 ((n : Int) + 1 - (i : Int))]).run Try.prog w =
      .ok (.slice (some ⟨w.heap.size, 0, none⟩) (n + 1) (grownCap w (n + 1) cap 49)) (w.drew.alloc (.cells ((xs.take (i * 4)).toArray ++ Builtin.zeroCells (Value.cells (.agg #[.int .i64 0, .int .i64 0, .int .i64 0, .int .i64 0])) (n + 1 - i) ++ Builtin.zeroCells (Value.cells (.agg #[.int .i64 0, .int .i64 0, .int .i64 0, .int .i64 0])) (grownCap w (n + 1) cap 49 - (n + 1))) 49)) := fun ty => by
    have h := Lib.run_append_grow_zeros w 22 3 ty 49 i0 _ .i64 .i64 Try.underlying22 Try.underlying3 hi0 hz0 (some ⟨g, 0, none⟩) i cap (xs.take (i * 4)) hold (n + 1 - i) (by omega) (by omega) (by omega) (by omega) (by rw [hz2]; omega) (by rw [hz2, hik]; exact growslice_fits (by omega) (by omega))
    rw [hik] at h
    rw [hkk]
    exact h
  have hGn : n + 1 ≤ grownCap w (n + 1) cap 49 := grownCap_ge w _ _ _
  have hG63 : grownCap w (n + 1) cap 49 ≤ maxLen := grownCap_le_maxLen w (n + 1) cap 49 (by unfold maxLen; omega)
  generalize grownCap w (n + 1) cap 49 = G at *
  have hzl : ∀ m, (Builtin.zeroCells (Value.cells (.agg #[.int .i64 0, .int .i64 0, .int .i64 0, .int .i64 0])) m).size = m * 4 := fun m => by simp [Builtin.zeroCells, Value.cells]
  obtain ⟨W1, hW1⟩ : ∃ W1, W1 = w.drew.alloc (.cells ((xs.take (i * 4)).toArray ++ Builtin.zeroCells (Value.cells (.agg #[.int .i64 0, .int .i64 0, .int .i64 0, .int .i64 0])) (n + 1 - i) ++ Builtin.zeroCells (Value.cells (.agg #[.int .i64 0, .int .i64 0, .int .i64 0, .int .i64 0])) (G - (n + 1))) 49) := ⟨_, rfl⟩
  rw [← hW1] at hrz
  have hO1 : W1.ownsRow base 49 4 (.slice (some ⟨w.heap.size, 0, none⟩) (n + 1) G) (n + 1) (xs.take (i * 4) ++ (Builtin.zeroCells (Value.cells (.agg #[.int .i64 0, .int .i64 0, .int .i64 0, .int .i64 0])) (n + 1 - i)).toList) := by
    rw [hW1]
    refine own_of_parts hbase (Blk.new w.drew _ _) hGn hG63 ?_ ?_
    · rw [Array.size_append, Array.size_append, hzl, hzl]
      simp only [List.size_toArray, List.length_take]
      rw [Nat.min_eq_left hle]; omega
    · rw [Array.toList_append, Array.toList_append]
      refine List.take_left' ?_
      rw [List.length_append, Array.length_toList, Array.length_toList, hzl]
      simp only [List.size_toArray, List.length_take]
      rw [Nat.min_eq_left hle]; omega
  have hold1 : Below w.heap.size w W1 := by rw [hW1]; exact (Below.refl _ _).drew.alloc (Nat.le_refl _) _
  have hzz : (Builtin.zeroCells (Value.cells (.agg #[.int .i64 0, .int .i64 0, .int .i64 0, .int .i64 0])) (n + 1 - i)).toList.length = xs.length - i * 4 + 4 := by rw [Array.length_toList, hzl]; omega
  generalize (Builtin.zeroCells (Value.cells (.agg #[.int .i64 0, .int .i64 0, .int .i64 0, .int .i64 0])) (n + 1 - i)).toList = zz at *
  clear hW1 hold
  have hB1 : Blk W1 vb 49 ys.toArray := hV.below hold1 hvw
  have hcpA : ∀ ty dc, (Builtin.copy_ #[22, 22] ty #[.slice (some ⟨w.heap.size, i * 4, none⟩) (n + 1 - i) dc, .slice (some ⟨vb, 0, none⟩) 1 1]).run Try.prog W1 = .ok (goInt (Nat.min 1 (n + 1 - i))) (W1.setCells w.heap.size (i * 4) ys) := fun ty dc =>
    run_copy_k W1 _ _ ty 49 4 w.heap.size (i * 4) (n + 1 - i) dc ⟨vb, 0, none⟩ 1 1 ys Try.underlying22 hsz (by rw [hys, show Nat.min 1 (n + 1 - i) = 1 from by simp only [Nat.min_def]; split <;> omega])
      (fun j v hj => by rw [add_mk, Nat.zero_add, hB1.cell]; simpa using hj)
      (fun j hj => own_some_cell hO1 _ (by rw [hys] at hj; omega)) (fun j hj => own_frozen hO1 _) h1y
  obtain ⟨W2, hW2⟩ : ∃ W2, W2 = W1.setCells w.heap.size (i * 4) ys := ⟨_, rfl⟩
  have hO2 : W2.ownsRow base 49 4 (.slice (some ⟨w.heap.size, 0, none⟩) (n + 1) G) (n + 1) (setL (xs.take (i * 4) ++ zz) (i * 4) ys) := by rw [hW2]; exact own_setCells _ _ hO1
  have hold2 : Below w.heap.size w W2 := by rw [hW2]; exact hold1.trans ((only_setCells ys W1 (i * 4)).below (fun k hk e => by omega) hold1.size)
  rw [← hW2] at hcpA
  clear hW2
  have hcpB : ∀ ty dc sc, (Builtin.copy_ #[22, 22] ty #[.slice (some ⟨w.heap.size, (i + 1) * 4, none⟩) (n - i) dc, .slice (some ⟨g, i * 4, none⟩) (n - i) sc]).run Try.prog W2.drew = .ok (goInt (Nat.min (n - i) (n - i))) (W2.drew.setCells w.heap.size ((i + 1) * 4) (xs.drop (i * 4))) := fun ty dc sc =>
    run_copy_k W2.drew _ _ ty 49 4 w.heap.size ((i + 1) * 4) (n - i) dc ⟨g, i * 4, none⟩ (n - i) sc (xs.drop (i * 4)) Try.underlying22 hsz (by rw [hdl]; congr 1; simp only [Nat.min_def]; split <;> omega)
      (fun j v hj => by
        rw [add_mk]
        exact (hold2.cell (p := ⟨g, i * 4 + j, none⟩) hgw).trans (own_cell hown (by rwa [List.getElem?_drop] at hj)))
      (fun j hj => own_some_cell hO2 _ (by rw [hdl] at hj; omega)) (fun j hj => own_frozen hO2 _) (fun v hv => h1x v (List.mem_of_mem_drop hv))
  have hfin : InsR w base (.slice (some ⟨g, 0, none⟩) n cap) (n + 1) (xs.take (i * 4) ++ (ys ++ xs.drop (i * 4))) (.returned (.slice (some ⟨w.heap.size, 0, none⟩) (n + 1) G)) (W2.drew.setCells w.heap.size ((i + 1) * 4) (xs.drop (i * 4))) := by
    refine ⟨_, rfl, ?_, Only.new _ (hold2.drew.trans ((only_setCells _ W2.drew _).below (fun k hk e => by omega) hold2.size)), fun k hk => .inr (by cases hk; exact Nat.le_refl _)⟩
    have h := own_setCells (w := W2.drew) (xs.drop (i * 4)) ((i + 1) * 4) (own_drewN hO2 1)
    rw [show (i + 1) * 4 = i * 4 + 4 from by omega, ins_cells2 xs ys zz (i * 4) 4 hys hle hzz] at h
    rw [show (i + 1) * 4 = i * 4 + 4 from by omega]
    exact h
  have Hfin := Lib.hid hfin
  have mixed : Try.prog.follows .mixedOrders = true := by kernel_rfl
  have hz2' : ¬ ((i : Int) = (n : Int)) := by omega
  have hz3 : (cap : Int) < (n : Int) + 1 := by omega
  have hw1 : IntKind.i64.wrap ((i : Int) + 1) = (i : Int) + 1 := by rw [IntKind.wrap_i64]; omega
  have hb1 : (0 : Int) ≤ (i : Int) + 1 := by omega
  have hin : i ≤ n := by omega
  have htn : ((i : Int) + 1).toNat = i + 1 := by omega
  have hG63' : G ≤ 9223372036854775807 := hG63
  have hGi : ¬ (G = i) := by omega
  have hGim : ¬ (G = i + 1) := by omega
  have hci : ¬ (cap = i) := by omega
  have hb3 : (i : Int) ≤ (n : Int) + 1 := by omega
  clear hfin hO1 hB1 hO2 hold1 hold2 hown hx hB hV hzl hle hdl hxl hcs hzz hkk hik
  go_enter Try.func48, Try.ntmps48
  go_wp2_with (first
    | (at_builtin; refine Lib.wpList_append_run _ rfl _ _ _ _ rfl _ _ rfl rfl _ _ (hrz _) ?_)
    | (at_builtin; refine wpList_copy_at _ rfl _ _ 22 22 rfl _ _ rfl rfl (hcpA _ _) ?_))
  go_region_law_o (refine step_copy_at rfl _ _ 22 22 rfl _ _ (by simp [Act.eval, Act.put]) (by simp [Act.eval, Act.put]) (hcpB _ _ _) ?_)
  go_wp2_with fail
  go_ret
  exact Hfin.out
/-- slices.Insert of one element -/
theorem insertR_any (v : Value) (n i vb base : Nat) (xs ys : List Value) (w : World) (hown : w.ownsRow base 49 4 v n xs) (hi : i ≤ n) (hys : ys.length = 4) (h1x : ∀ u ∈ xs, u.oneCell' = true) (h1y : ∀ u ∈ ys, u.oneCell' = true) (hV : Blk w vb 49 ys.toArray) (hvb : v.ownBlock ≠ some vb) (hbase : base ≤ w.heap.size) (hn : n ≤ 1000000000) :
    Calls Try.prog 48 #[v, .int .i64 (i : Int), .slice (some ⟨vb, 0, none⟩) 1 1] w (InsR w base v (n + 1) (xs.take (i * 4) ++ (ys ++ xs.drop (i * 4)))) := by
  by_cases he : i = n
  · subst he
    have hl := hown.1
    rw [List.take_of_length_le (by omega), List.drop_eq_nil_of_le (by omega), List.append_nil]
    exact insertR_end v i vb base xs ys w hown hys h1y hV hbase hn
  · obtain ⟨A, c, rfl, hnc, _⟩ := own_slice hown
    obtain ⟨g, rfl, hg1, hg2⟩ := own_some hown (by omega)
    by_cases hroom : n + 1 ≤ c
    · exact insertR_room g n c i vb base xs ys w hown (by omega) hroom hys h1x h1y hV (fun e => hvb (by rw [e]; rfl)) hn
    · exact insertR_grow g n c i vb base xs ys w hown (by omega) hroom hys h1x h1y hV hbase hn
set_option maxRecDepth 100000 in
set_option maxHeartbeats 1000000 in
theorem deleteR_any (g m cap i base : Nat) (xs : List Value) (w : World) (hown : w.ownsRow base 49 4 (.slice (some ⟨g, 0, none⟩) (m + 1) cap) (m + 1) xs) (hi : i ≤ m) (h1x : ∀ u ∈ xs, u.oneCell' = true) (hn : m ≤ 1000000000) :
    Calls Try.prog 49 #[.slice (some ⟨g, 0, none⟩) (m + 1) cap, .int .i64 (i : Int), .int .i64 ((i : Int) + 1)] w (InsR w base (.slice (some ⟨g, 0, none⟩) (m + 1) cap) m (xs.take (i * 4) ++ xs.drop ((i + 1) * 4))) := by
  obtain ⟨cur, hg, hB, hnc, hcm, hcs, hx⟩ := own_parts hown
  have hxl := hown.1
  have hcm' : cap ≤ 9223372036854775807 := hcm
  obtain ⟨i0, hi0, hz0, hz1, hz2⟩ := info_parts info_srow
  have hdl : (xs.drop ((i + 1) * 4)).length = (m - i) * 4 := by rw [List.length_drop, hxl]; omega
  have hrun : ∀ ty a c', (i < m → a = ⟨g, (i + 1) * 4, none⟩) → (Builtin.append_ #[22, 22] ty #[.slice (some ⟨g, 0, none⟩) i cap, .slice (some a) (m - i) c']).run Try.prog w.drew = .ok (.slice (some ⟨g, 0, none⟩) m cap) (w.drew.setCells g (i * 4) (xs.drop ((i + 1) * 4))) := fun ty a c' ha => by
    have h := run_append_room (P := Try.prog) w.drew 22 22 ty 49 i0 Try.underlying22 Try.underlying22 hi0 g i cap a (m - i) c' (xs.drop ((i + 1) * 4)) (by omega) (by rw [hdl, hz1])
      (fun j v hj => by
        have hjl := (List.getElem?_eq_some_iff.1 hj).1
        rw [hdl] at hjl
        rw [ha (by omega), add_mk]
        exact own_cell hown (by rwa [List.getElem?_drop] at hj))
      (fun j hj => own_some_cell hown _ (by rw [hz1]; rw [hdl] at hj; omega)) (fun j hj => own_frozen hown _) (fun v hv => h1x v (List.mem_of_mem_drop hv))
    rw [show i + (m - i) = m from by omega, hz1] at h
    exact h
  obtain ⟨W1, hW1⟩ : ∃ W1, W1 = w.drew.setCells g (i * 4) (xs.drop ((i + 1) * 4)) := ⟨_, rfl⟩
  have hO1 : W1.ownsRow base 49 4 (.slice (some ⟨g, 0, none⟩) (m + 1) cap) (m + 1) (setL xs (i * 4) (xs.drop ((i + 1) * 4))) := by rw [hW1]; exact own_setCells _ _ (own_drewN hown 1)
  have ho1 : Only (fun k => k = g) w W1 := by rw [hW1]; exact (Only.refl (fun k => k = g) w).drew.trans (only_setCells _ _ _) (fun _ _ h => h)
  rw [← hW1] at hrun
  clear hW1
  have hO2 := own_cut hO1 m (by omega)
  rw [show m * 4 = xs.length - 4 from by omega, show (i + 1) * 4 = i * 4 + 4 from by omega, del_cells xs (i * 4) 4 (by omega)] at hO2
  have hcl : ∀ ty c', (Builtin.clear_ #[22] ty #[.slice (some ⟨g, m * 4, none⟩) 1 c']).run Try.prog W1 = .ok (.tuple #[]) (W1.setCells g (m * 4) (Builtin.zeroCells (Value.cells (.agg #[.int .i64 0, .int .i64 0, .int .i64 0, .int .i64 0])) 1).toList) := fun ty c' =>
    run_clear_k W1 22 49 ty _ 4 Try.underlying22 (fun w => by simp [zeroValue, typeInfo, hi0, hz0]) rfl (by simp [Value.cells, Value.oneCell']) g (m * 4) 1 c' (by omega) (by omega)
      (fun j hj => own_some_cell hO1 _ (by omega)) (fun j hj => own_frozen hO1 _)
  have hfin : InsR w base (.slice (some ⟨g, 0, none⟩) (m + 1) cap) m (xs.take (i * 4) ++ xs.drop ((i + 1) * 4)) (.returned (.slice (some ⟨g, 0, none⟩) m cap)) (W1.setCells g (m * 4) (Builtin.zeroCells (Value.cells (.agg #[.int .i64 0, .int .i64 0, .int .i64 0, .int .i64 0])) 1).toList) := by
    refine ⟨_, rfl, ?_, only_own (ho1.trans (only_setCells _ _ _) (fun _ _ h => h)), fun k hk => .inl hk⟩
    have h := own_setCells (Builtin.zeroCells (Value.cells (.agg #[.int .i64 0, .int .i64 0, .int .i64 0, .int .i64 0])) 1).toList (m * 4) hO2
    rw [setL_past _ _ _ (by rw [hO2.1]; exact Nat.le_refl _)] at h
    rw [show (i + 1) * 4 = i * 4 + 4 from by omega]
    exact h
  have Hfin := Lib.hid hfin
  generalize W1.setCells g (m * 4) (Builtin.zeroCells (Value.cells (.agg #[.int .i64 0, .int .i64 0, .int .i64 0, .int .i64 0])) 1).toList = W2 at *
  have mixed : Try.prog.follows .mixedOrders = true := by kernel_rfl
  have hb0 : ¬ ((i : Int) = (i : Int) + 1) := by omega
  have hw1 : IntKind.i64.wrap ((i : Int) + 1) = (i : Int) + 1 := by rw [IntKind.wrap_i64]; omega
  have hb1 : (0 : Int) ≤ (i : Int) + 1 := by omega
  have htn : ((i : Int) + 1).toNat = i + 1 := by omega
  have hic : i ≤ cap := by omega
  have hjc : i + 1 ≤ cap := by omega
  have hcm2 : ¬ (cap = m) := by omega
  have hci : ¬ (cap = i) := by omega
  clear hfin hO1 ho1 hO2 hown hx hB hxl hcs hdl
  by_cases him : i = m
  · subst him
    have hrun' := fun ty a c' => hrun ty a c' (fun h => absurd h (by omega))
    rw [Nat.sub_self] at hrun'
    have hii : (i : Int) ≤ (i : Int) + 1 := by omega
    have Hrun := Lib.hid hrun'
    clear hrun hrun'
    by_cases hce : cap = i + 1
    · subst hce
      have hii2 : i ≤ i + 1 := by omega
      go_enter Try.func49, Try.ntmps49
      go_wp2_with fail
      go_region_law_o (refine step_append_at rfl (.tmp 22) (.tmp 25) 22 22 rfl (.slice (some ⟨g, 0, none⟩) i (i + 1)) (.slice (some ⟨g, 0, none⟩) 0 0) (by simp [Act.eval, Act.put]) (by simp [Act.eval, Act.put]) (Hrun.out _ _ _) ?_)
      go_wp2_with fail
      go_ret
      exact Hfin.out
    · go_enter Try.func49, Try.ntmps49
      go_wp2_with fail
      go_region_law_o (refine step_append_at rfl (.tmp 22) (.tmp 25) 22 22 rfl (.slice (some ⟨g, 0, none⟩) i cap) (.slice (some ⟨g, (i + 1) * 4, none⟩) 0 (cap - (i + 1))) (by simp [Act.eval, Act.put]) (by simp [Act.eval, Act.put]) (Hrun.out _ _ _) ?_)
      go_wp2_with fail
      go_ret
      exact Hfin.out
  · have Hrun := Lib.hid (fun ty c' => hrun ty ⟨g, (i + 1) * 4, none⟩ c' (fun _ => rfl))
    have hce : ¬ (cap = i + 1) := by omega
    clear hrun
    go_enter Try.func49, Try.ntmps49
    go_wp2_with fail
    go_region_law_o (refine step_append_at rfl (.tmp 22) (.tmp 25) 22 22 rfl (.slice (some ⟨g, 0, none⟩) i cap) (.slice (some ⟨g, (i + 1) * 4, none⟩) (m - i) (cap - (i + 1))) (by simp [Act.eval, Act.put]) (by simp [Act.eval, Act.put]) (Hrun.out _ _) ?_)
    go_wp2_with fail
    go_ret
    exact Hfin.out
end Go.Proofs.Ytllbjegnjjeaeaa
