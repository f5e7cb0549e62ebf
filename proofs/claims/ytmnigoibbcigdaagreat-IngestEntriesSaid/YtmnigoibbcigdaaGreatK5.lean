/- Joined texts: SlPoint, IgSet, SlRow, SeOpen. -/
import Derived.Test.YtmnigoibbcigdaaGreatK2
import Derived.Test.YtmnigoibbcigdaaGreatK3
import Derived.Test.YtmnigoibbcigdaaGreatK4
import Derived.Test.YtmnigoibbcigdaaGreatShelf
import Derived.Shelf.RegionOpenPlain
import Derived.Laws.Externs
import Derived.Laws.NewBlocks
import Derived.WalkMore
/- slices.Insert of one element into a row of the call's own, and slices.Delete of one (printed by gen_slices.py; the roads are worked out after the kit's at one cell). -/
namespace Go.Proofs.YtmnigoibbcigdaaGreat
open Go.RowKit Go.Shelf
set_option linter.unusedVariables false

def InsP (w : World) (base : Nat) (v : Value) (n : Nat) (xs : List Value) (e : Ending) (w' : World) : Prop :=
  ∃ v', e = .returned v' ∧ w'.ownsRow base 66 3 v' n xs ∧ Only (fun k => v.ownBlock = some k) w w' ∧ (∀ g, v'.ownBlock = some g → v.ownBlock = some g ∨ w.heap.size ≤ g)
theorem only_own {w w' : World} {g n cap : Nat} (h : Only (fun k => k = g) w w') : Only (fun k => Value.ownBlock (.slice (some ⟨g, 0, none⟩) n cap) = some k) w w' := h.mono fun j _ hj => by rw [hj]; rfl
theorem insP_fin {w w1 : World} {base n : Nat} {v v1 : Value} {xs : List Value} (hown1 : w1.ownsRow base 66 3 v1 n xs) (hg1 : w.grownBy w1 v.ownBlock) (hor : v1.ownBlock = v.ownBlock ∨ v1.ownBlock = some w.heap.size) : InsP w base v n xs (.returned v1) w1 :=
  ⟨_, rfl, hown1, Only.of_grown hg1 (fun k hk _ => hk), fun g hg => by
    rcases hor with h | h
    · rw [h] at hg; exact .inl hg
    · rw [h] at hg; cases hg; exact .inr (Nat.le_refl _)⟩
set_option maxRecDepth 100000 in
set_option maxHeartbeats 1000000 in
theorem insertP_end (v : Value) (n vb base : Nat) (xs ys : List Value) (w : World) (hown : w.ownsRow base 66 3 v n xs) (hys : ys.length = 3) (h1y : ∀ u ∈ ys, u.oneCell' = true) (hV : Blk w vb 66 ys.toArray) (hbase : base ≤ w.heap.size) (hn : n ≤ 1000000000) :
    Calls Tryz.prog 93 #[v, .int .i64 (n : Int), .slice (some ⟨vb, 0, none⟩) 1 1] w (InsP w base v (n + 1) (xs ++ ys)) := by
  obtain ⟨i0, hi, hz0, hz1, hz2⟩ := info_parts info_point
  have hrd : Reads w (vb + 1) 3 (some ⟨vb, 0, none⟩) 1 ys := ⟨by rw [hys], fun _ => ⟨vb, 0, rfl, by omega, fun j u hu => by rw [Nat.zero_add, hV.cell]; simpa using hu⟩⟩
  obtain ⟨A, c, rfl, hnc, _⟩ := own_slice hown
  have hcm : c ≤ 9223372036854775807 := by
    rcases hown.2 with ⟨h, _⟩ | ⟨g', cap', cur, h, _, _, h1, h2, _⟩
    · injection h with _ _ h; omega
    · injection h with _ _ h; subst h; exact h2
  by_cases hcn : n = c
  · subst hcn
    go_enter Tryz.func93, Tryz.ntmps93
    go_wp2_with (at_builtin; refine wpList_plain rfl fun _ hK => wp_append_all _ _ _ 27 rfl base 66 i0 _ 3 32 Tryz.underlying27 hi hz0 hz1 hz2 rfl (by decide) _ n xs (by rfl) hown (vb + 1) _ 1 1 ys (by rfl) hrd h1y (by unfold maxLen; omega) (by omega) hbase ?_; intro v1 w1 hown1 hg1 hor; refine hK _ _ ?_)
    go_ret
    exact insP_fin hown1 hg1 hor
  · have hcn2 : ¬ c = n := fun e => hcn e.symm
    go_enter Tryz.func93, Tryz.ntmps93
    go_wp2_with (at_builtin; refine wpList_plain rfl fun _ hK => wp_append_all _ _ _ 27 rfl base 66 i0 _ 3 32 Tryz.underlying27 hi hz0 hz1 hz2 rfl (by decide) _ n xs (by rfl) hown (vb + 1) _ 1 1 ys (by rfl) hrd h1y (by unfold maxLen; omega) (by omega) hbase ?_; intro v1 w1 hown1 hg1 hor; refine hK _ _ ?_)
    go_ret
    exact insP_fin hown1 hg1 hor
set_option maxRecDepth 100000 in
set_option maxHeartbeats 1000000 in
theorem insertP_room (g n cap i vb base : Nat) (xs ys : List Value) (w : World) (hown : w.ownsRow base 66 3 (.slice (some ⟨g, 0, none⟩) n cap) n xs) (hi : i < n) (hroom : n + 1 ≤ cap) (hys : ys.length = 3) (h1x : ∀ u ∈ xs, u.oneCell' = true) (h1y : ∀ u ∈ ys, u.oneCell' = true) (hV : Blk w vb 66 ys.toArray) (hvb : vb ≠ g) (hn : n ≤ 1000000000) :
    Calls Tryz.prog 93 #[.slice (some ⟨g, 0, none⟩) n cap, .int .i64 (i : Int), .slice (some ⟨vb, 0, none⟩) 1 1] w (InsP w base (.slice (some ⟨g, 0, none⟩) n cap) (n + 1) (xs.take (i * 3) ++ (ys ++ xs.drop (i * 3)))) := by
  obtain ⟨cur, hg, hB, hnc, hcm, hcs, hx⟩ := own_parts hown
  obtain ⟨zs, hzl, hext⟩ := own_extend hown 1 hroom
  have hxl := hown.1
  have hcm' : cap ≤ 9223372036854775807 := hcm
  obtain ⟨i0, hi0, hz0, hz1, hz2⟩ := info_parts info_point
  have hsz : (Tryz.prog.info? 66).map (·.size) = some 3 := by rw [hi0]; simp [hz1]
  have hsE : ∀ w, (sizeOf 66).run Tryz.prog w = .ok 3 w := fun w => by simp [sizeOf, typeInfo, hi0, hz1]
  have hov : ∀ lb cb, (callFunc 113 #[.slice (some ⟨vb, 0, none⟩) 1 1, .slice (some ⟨g, (i + 1) * 3, none⟩) lb cb]).run Tryz.prog w = .ok (.value (.bool false)) w := fun lb cb => by
    rw [run_callFunc_extern Tryz.func113 (by kernel_rfl) (by kernel_rfl) (by kernel_rfl) (e := Extern.SlicesOverlaps.overlaps #[27, 27] #[4]) (by kernel_rfl),
      Lib.run_overlaps_apart w 27 4 66 Tryz.underlying27 3 hsE ⟨vb, 0, none⟩ ⟨g, (i + 1) * 3, none⟩ 1 1 lb cb hvb _ _ _ _ hV.shape hB.shape (by omega) (hV.frozen _) (hV.frozen _)]
    rfl
  have hle : i * 3 ≤ xs.length := by omega
  have hdl : (xs.drop (i * 3)).length = (n - i) * 3 := by rw [List.length_drop, hxl]; omega
  have hcp1 : ∀ ty dc sc, (Builtin.copy_ #[27, 27] ty #[.slice (some ⟨g, (i + 1) * 3, none⟩) (n - i) dc, .slice (some ⟨g, i * 3, none⟩) (n + 1 - i) sc]).run Tryz.prog w.drew = .ok (goInt (Nat.min (n + 1 - i) (n - i))) (w.drew.setCells g ((i + 1) * 3) (xs.drop (i * 3))) := fun ty dc sc =>
    run_copy_k w.drew _ _ ty 66 3 g ((i + 1) * 3) (n - i) dc ⟨g, i * 3, none⟩ (n + 1 - i) sc (xs.drop (i * 3)) Tryz.underlying27 hsz (by rw [hdl]; congr 1; simp only [Nat.min_def]; split <;> omega)
      (fun j v hj => by rw [add_mk]; exact own_cell hown (by rwa [List.getElem?_drop] at hj))
      (fun j hj => own_some_cell hown _ (by rw [hdl] at hj; omega)) (fun j hj => own_frozen hown _) (fun v hv => h1x v (List.mem_of_mem_drop hv))
  obtain ⟨W1, hW1⟩ : ∃ W1, W1 = w.drew.setCells g ((i + 1) * 3) (xs.drop (i * 3)) := ⟨_, rfl⟩
  have hO1 : W1.ownsRow base 66 3 (.slice (some ⟨g, 0, none⟩) (n + 1) cap) (n + 1) (setL (xs ++ zs) ((i + 1) * 3) (xs.drop (i * 3))) := by
    rw [hW1]; exact own_setCells _ _ (own_drewN hext 1)
  have hB1 : Blk W1 vb 66 ys.toArray := by
    rw [hW1]; exact Blk.only (hV.drew) (only_setCells _ _ _) hvb
  have ho1 : Only (fun k => k = g) w W1 := by
    rw [hW1]; exact (Only.refl (fun k => k = g) w).drew.trans (only_setCells _ _ _) (fun _ _ h => h)
  rw [← hW1] at hcp1
  clear hW1
  have hcp2 : ∀ ty dc, (Builtin.copy_ #[27, 27] ty #[.slice (some ⟨g, i * 3, none⟩) (n + 1 - i) dc, .slice (some ⟨vb, 0, none⟩) 1 1]).run Tryz.prog W1 = .ok (goInt (Nat.min 1 (n + 1 - i))) (W1.setCells g (i * 3) ys) := fun ty dc =>
    run_copy_k W1 _ _ ty 66 3 g (i * 3) (n + 1 - i) dc ⟨vb, 0, none⟩ 1 1 ys Tryz.underlying27 hsz (by rw [hys, show Nat.min 1 (n + 1 - i) = 1 from by simp only [Nat.min_def]; split <;> omega])
      (fun j v hj => by rw [add_mk, Nat.zero_add, hB1.cell]; simpa using hj)
      (fun j hj => own_some_cell hO1 _ (by rw [hys] at hj; omega)) (fun j hj => own_frozen hO1 _) h1y
  have hfin : InsP w base (.slice (some ⟨g, 0, none⟩) n cap) (n + 1) (xs.take (i * 3) ++ (ys ++ xs.drop (i * 3))) (.returned (.slice (some ⟨g, 0, none⟩) (n + 1) cap)) (W1.setCells g (i * 3) ys) := by
    refine ⟨_, rfl, ?_, only_own (ho1.trans (only_setCells _ _ _) (fun _ _ h => h)), fun k hk => .inl hk⟩
    have h := own_setCells ys (i * 3) hO1
    rw [show (i + 1) * 3 = i * 3 + 3 from by omega, ins_cells xs ys zs (i * 3) 3 hys (by omega) hle] at h
    exact h
  have Hfin := Lib.hid hfin
  have mixed : Tryz.prog.follows .mixedOrders = true := by kernel_rfl
  have hz2' : ¬ ((i : Int) = (n : Int)) := by omega
  have hw1 : IntKind.i64.wrap ((i : Int) + 1) = (i : Int) + 1 := by rw [IntKind.wrap_i64]; omega
  have hb1 : (0 : Int) ≤ (i : Int) + 1 := by omega
  have hin : i ≤ n := by omega
  have htn : ((i : Int) + 1).toNat = i + 1 := by omega
  have hb2 : ¬ (cap = i + 1) := by omega
  have hb3 : (i : Int) ≤ (n : Int) + 1 := by omega
  have hb4 : ¬ (cap = i) := by omega
  clear hfin hO1 hB1 ho1 hext hown hx hB hV hzl hle hdl hxl hcs
  go_enter Tryz.func93, Tryz.ntmps93
  go_wp2_with (simp only [hov])
  go_region_law_o (refine step_copy_at rfl _ _ 27 27 rfl _ _ (by simp [Act.eval, Act.put]) (by simp [Act.eval, Act.put]) (hcp1 _ _ _) ?_)
  go_wp2_with (at_builtin; refine wpList_copy_at _ rfl _ _ 27 27 rfl _ _ rfl rfl (hcp2 _ _) ?_)
  go_ret
  exact Hfin.out
set_option maxRecDepth 100000 in
set_option maxHeartbeats 1000000 in
theorem insertP_grow (g n cap i vb base : Nat) (xs ys : List Value) (w : World) (hown : w.ownsRow base 66 3 (.slice (some ⟨g, 0, none⟩) n cap) n xs) (hi : i < n) (hroom : ¬ n + 1 ≤ cap) (hys : ys.length = 3) (h1x : ∀ u ∈ xs, u.oneCell' = true) (h1y : ∀ u ∈ ys, u.oneCell' = true) (hV : Blk w vb 66 ys.toArray) (hbase : base ≤ w.heap.size) (hn : n ≤ 1000000000) :
    Calls Tryz.prog 93 #[.slice (some ⟨g, 0, none⟩) n cap, .int .i64 (i : Int), .slice (some ⟨vb, 0, none⟩) 1 1] w (InsP w base (.slice (some ⟨g, 0, none⟩) n cap) (n + 1) (xs.take (i * 3) ++ (ys ++ xs.drop (i * 3)))) := by
  obtain ⟨cur, hg, hB, hnc, hcm, hcs, hx⟩ := own_parts hown
  have hxl := hown.1
  have hcm' : cap ≤ 9223372036854775807 := hcm
  obtain ⟨i0, hi0, hz0, hz1, hz2⟩ := info_parts info_point
  have hsz : (Tryz.prog.info? 66).map (·.size) = some 3 := by rw [hi0]; simp [hz1]
  have hle : i * 3 ≤ xs.length := by omega
  have hdl : (xs.drop (i * 3)).length = (n - i) * 3 := by rw [List.length_drop, hxl]; omega
  have hkk : (n : Int) + 1 - (i : Int) = ((n + 1 - i : Nat) : Int) := by omega
  have hik : i + (n + 1 - i) = n + 1 := by omega
  have hgw := hB.lt
  have hvw := hV.lt
  have hold : (Builtin.firstCells i0.size i (.slice (some ⟨g, 0, none⟩) i cap)).run Tryz.prog w.drew = .ok (xs.take (i * 3)).toArray w.drew := by
    rw [hz1]
    have hld := run_loadCells_list (P := Tryz.prog) w.drew ⟨g, 0, none⟩ (xs.take (i * 3)) (fun j v hj => by
      rw [add_mk, Nat.zero_add]
      rw [List.getElem?_take] at hj
      split at hj
      · exact own_cell hown hj
      · cases hj)
    rw [List.length_take, Nat.min_eq_left hle] at hld
    exact hld
  have hrz : ∀ ty, (Builtin.append_ #[27, 3] ty #[.slice (some ⟨g, 0, none⟩) i cap, .int .i64 ((n : Int) + 1 - (i : Int))]).run Tryz.prog w =
      .ok (.slice (some ⟨w.heap.size, 0, none⟩) (n + 1) (grownCap w (n + 1) cap 66)) (w.drew.alloc (.cells ((xs.take (i * 3)).toArray ++ Builtin.zeroCells (Value.cells (.agg #[.string ⟨#[]⟩, .int .i64 0, .int .i64 0])) (n + 1 - i) ++ Builtin.zeroCells (Value.cells (.agg #[.string ⟨#[]⟩, .int .i64 0, .int .i64 0])) (grownCap w (n + 1) cap 66 - (n + 1))) 66)) := fun ty => by
    have h := Lib.run_append_grow_zeros w 27 3 ty 66 i0 _ .i64 .i64 Tryz.underlying27 Tryz.underlying3 hi0 hz0 (some ⟨g, 0, none⟩) i cap (xs.take (i * 3)) hold (n + 1 - i) (by omega) (by omega) (by omega) (by omega) (by rw [hz2]; omega) (by rw [hz2, hik]; exact growslice_fits (by omega) (by omega))
    rw [hik] at h
    rw [hkk]
    exact h
  have hGn : n + 1 ≤ grownCap w (n + 1) cap 66 := grownCap_ge w _ _ _
  have hG63 : grownCap w (n + 1) cap 66 ≤ maxLen := grownCap_le_maxLen w (n + 1) cap 66 (by unfold maxLen; omega)
  generalize grownCap w (n + 1) cap 66 = G at *
  have hzl : ∀ m, (Builtin.zeroCells (Value.cells (.agg #[.string ⟨#[]⟩, .int .i64 0, .int .i64 0])) m).size = m * 3 := fun m => by simp [Builtin.zeroCells, Value.cells]
  obtain ⟨W1, hW1⟩ : ∃ W1, W1 = w.drew.alloc (.cells ((xs.take (i * 3)).toArray ++ Builtin.zeroCells (Value.cells (.agg #[.string ⟨#[]⟩, .int .i64 0, .int .i64 0])) (n + 1 - i) ++ Builtin.zeroCells (Value.cells (.agg #[.string ⟨#[]⟩, .int .i64 0, .int .i64 0])) (G - (n + 1))) 66) := ⟨_, rfl⟩
  rw [← hW1] at hrz
  have hO1 : W1.ownsRow base 66 3 (.slice (some ⟨w.heap.size, 0, none⟩) (n + 1) G) (n + 1) (xs.take (i * 3) ++ (Builtin.zeroCells (Value.cells (.agg #[.string ⟨#[]⟩, .int .i64 0, .int .i64 0])) (n + 1 - i)).toList) := by
    rw [hW1]
    refine own_of_parts hbase (Blk.new w.drew _ _) hGn hG63 ?_ ?_
    · rw [Array.size_append, Array.size_append, hzl, hzl]
      simp only [List.size_toArray, List.length_take]
      rw [Nat.min_eq_left hle]; omega
    · rw [Array.toList_append, Array.toList_append]
      refine List.take_left' ?_
      rw [List.length_append, Array.length_toList, Array.length_toList, hzl]
      simp only [List.size_toArray, List.length_take]
      rw [Nat.min_eq_left hle]; omega
  have hold1 : Below w.heap.size w W1 := by rw [hW1]; exact (Below.refl _ _).drew.alloc (Nat.le_refl _) _
  have hzz : (Builtin.zeroCells (Value.cells (.agg #[.string ⟨#[]⟩, .int .i64 0, .int .i64 0])) (n + 1 - i)).toList.length = xs.length - i * 3 + 3 := by rw [Array.length_toList, hzl]; omega
  generalize (Builtin.zeroCells (Value.cells (.agg #[.string ⟨#[]⟩, .int .i64 0, .int .i64 0])) (n + 1 - i)).toList = zz at *
  clear hW1 hold
  have hB1 : Blk W1 vb 66 ys.toArray := hV.below hold1 hvw
  have hcpA : ∀ ty dc, (Builtin.copy_ #[27, 27] ty #[.slice (some ⟨w.heap.size, i * 3, none⟩) (n + 1 - i) dc, .slice (some ⟨vb, 0, none⟩) 1 1]).run Tryz.prog W1 = .ok (goInt (Nat.min 1 (n + 1 - i))) (W1.setCells w.heap.size (i * 3) ys) := fun ty dc =>
    run_copy_k W1 _ _ ty 66 3 w.heap.size (i * 3) (n + 1 - i) dc ⟨vb, 0, none⟩ 1 1 ys Tryz.underlying27 hsz (by rw [hys, show Nat.min 1 (n + 1 - i) = 1 from by simp only [Nat.min_def]; split <;> omega])
      (fun j v hj => by rw [add_mk, Nat.zero_add, hB1.cell]; simpa using hj)
      (fun j hj => own_some_cell hO1 _ (by rw [hys] at hj; omega)) (fun j hj => own_frozen hO1 _) h1y
  obtain ⟨W2, hW2⟩ : ∃ W2, W2 = W1.setCells w.heap.size (i * 3) ys := ⟨_, rfl⟩
  have hO2 : W2.ownsRow base 66 3 (.slice (some ⟨w.heap.size, 0, none⟩) (n + 1) G) (n + 1) (setL (xs.take (i * 3) ++ zz) (i * 3) ys) := by rw [hW2]; exact own_setCells _ _ hO1
  have hold2 : Below w.heap.size w W2 := by rw [hW2]; exact hold1.trans ((only_setCells ys W1 (i * 3)).below (fun k hk e => by omega) hold1.size)
  rw [← hW2] at hcpA
  clear hW2
  have hcpB : ∀ ty dc sc, (Builtin.copy_ #[27, 27] ty #[.slice (some ⟨w.heap.size, (i + 1) * 3, none⟩) (n - i) dc, .slice (some ⟨g, i * 3, none⟩) (n - i) sc]).run Tryz.prog W2.drew = .ok (goInt (Nat.min (n - i) (n - i))) (W2.drew.setCells w.heap.size ((i + 1) * 3) (xs.drop (i * 3))) := fun ty dc sc =>
    run_copy_k W2.drew _ _ ty 66 3 w.heap.size ((i + 1) * 3) (n - i) dc ⟨g, i * 3, none⟩ (n - i) sc (xs.drop (i * 3)) Tryz.underlying27 hsz (by rw [hdl]; congr 1; simp only [Nat.min_def]; split <;> omega)
      (fun j v hj => by
        rw [add_mk]
        exact (hold2.cell (p := ⟨g, i * 3 + j, none⟩) hgw).trans (own_cell hown (by rwa [List.getElem?_drop] at hj)))
      (fun j hj => own_some_cell hO2 _ (by rw [hdl] at hj; omega)) (fun j hj => own_frozen hO2 _) (fun v hv => h1x v (List.mem_of_mem_drop hv))
  have hfin : InsP w base (.slice (some ⟨g, 0, none⟩) n cap) (n + 1) (xs.take (i * 3) ++ (ys ++ xs.drop (i * 3))) (.returned (.slice (some ⟨w.heap.size, 0, none⟩) (n + 1) G)) (W2.drew.setCells w.heap.size ((i + 1) * 3) (xs.drop (i * 3))) := by
    refine ⟨_, rfl, ?_, Only.new _ (hold2.drew.trans ((only_setCells _ W2.drew _).below (fun k hk e => by omega) hold2.size)), fun k hk => .inr (by cases hk; exact Nat.le_refl _)⟩
    have h := own_setCells (w := W2.drew) (xs.drop (i * 3)) ((i + 1) * 3) (own_drewN hO2 1)
    rw [show (i + 1) * 3 = i * 3 + 3 from by omega, ins_cells2 xs ys zz (i * 3) 3 hys hle hzz] at h
    rw [show (i + 1) * 3 = i * 3 + 3 from by omega]
    exact h
  have Hfin := Lib.hid hfin
  have mixed : Tryz.prog.follows .mixedOrders = true := by kernel_rfl
  have hz2' : ¬ ((i : Int) = (n : Int)) := by omega
  have hz3 : (cap : Int) < (n : Int) + 1 := by omega
  have hw1 : IntKind.i64.wrap ((i : Int) + 1) = (i : Int) + 1 := by rw [IntKind.wrap_i64]; omega
  have hb1 : (0 : Int) ≤ (i : Int) + 1 := by omega
  have hin : i ≤ n := by omega
  have htn : ((i : Int) + 1).toNat = i + 1 := by omega
  have hG63' : G ≤ 9223372036854775807 := hG63
  have hGi : ¬ (G = i) := by omega
  have hGim : ¬ (G = i + 1) := by omega
  have hci : ¬ (cap = i) := by omega
  have hb3 : (i : Int) ≤ (n : Int) + 1 := by omega
  clear hfin hO1 hB1 hO2 hold1 hold2 hown hx hB hV hzl hle hdl hxl hcs hzz hkk hik
  go_enter Tryz.func93, Tryz.ntmps93
  go_wp2_with (first
    | (at_builtin; refine Lib.wpList_append_run _ rfl _ _ _ _ rfl _ _ rfl rfl _ _ (hrz _) ?_)
    | (at_builtin; refine wpList_copy_at _ rfl _ _ 27 27 rfl _ _ rfl rfl (hcpA _ _) ?_))
  go_region_law_o (refine step_copy_at rfl _ _ 27 27 rfl _ _ (by simp [Act.eval, Act.put]) (by simp [Act.eval, Act.put]) (hcpB _ _ _) ?_)
  go_wp2_with fail
  go_ret
  exact Hfin.out
/-- slices.Insert of one element -/
theorem insertP_any (v : Value) (n i vb base : Nat) (xs ys : List Value) (w : World) (hown : w.ownsRow base 66 3 v n xs) (hi : i ≤ n) (hys : ys.length = 3) (h1x : ∀ u ∈ xs, u.oneCell' = true) (h1y : ∀ u ∈ ys, u.oneCell' = true) (hV : Blk w vb 66 ys.toArray) (hvb : v.ownBlock ≠ some vb) (hbase : base ≤ w.heap.size) (hn : n ≤ 1000000000) :
    Calls Tryz.prog 93 #[v, .int .i64 (i : Int), .slice (some ⟨vb, 0, none⟩) 1 1] w (InsP w base v (n + 1) (xs.take (i * 3) ++ (ys ++ xs.drop (i * 3)))) := by
  by_cases he : i = n
  · subst he
    have hl := hown.1
    rw [List.take_of_length_le (by omega), List.drop_eq_nil_of_le (by omega), List.append_nil]
    exact insertP_end v i vb base xs ys w hown hys h1y hV hbase hn
  · obtain ⟨A, c, rfl, hnc, _⟩ := own_slice hown
    obtain ⟨g, rfl, hg1, hg2⟩ := own_some hown (by omega)
    by_cases hroom : n + 1 ≤ c
    · exact insertP_room g n c i vb base xs ys w hown (by omega) hroom hys h1x h1y hV (fun e => hvb (by rw [e]; rfl)) hn
    · exact insertP_grow g n c i vb base xs ys w hown (by omega) hroom hys h1x h1y hV hbase hn
end Go.Proofs.YtmnigoibbcigdaaGreat
/- The walk through ingest.Set (chapter 11). -/
namespace Go.Proofs.YtmnigoibbcigdaaGreat
open Go.RowKit
set_option linter.unusedVariables false

theorem flat_takeP (xs : List Pt.Point) (i : Nat) : (xs.flatMap pointCells).take (i * 3) = (xs.take i).flatMap pointCells := by
  induction xs generalizing i with
  | nil => simp
  | cons x xs ih =>
    cases i with
    | zero => simp
    | succ i =>
      rw [List.flatMap_cons, List.take_succ_cons, List.flatMap_cons, List.take_append, List.take_of_length_le (by show 3 ≤ _; omega), show (pointCells x).length = 3 from rfl, show (i + 1) * 3 - 3 = i * 3 from by omega, ih]
theorem flat_dropP (xs : List Pt.Point) (i : Nat) : (xs.flatMap pointCells).drop (i * 3) = (xs.drop i).flatMap pointCells := by
  induction xs generalizing i with
  | nil => simp
  | cons x xs ih =>
    cases i with
    | zero => simp
    | succ i =>
      rw [List.flatMap_cons, List.drop_succ_cons, List.drop_append, List.drop_eq_nil_of_le (by show 3 ≤ _; omega), show (pointCells x).length = 3 from rfl, show (i + 1) * 3 - 3 = i * 3 from by omega, ih, List.nil_append]
theorem pointCells_one (xs : List Pt.Point) : ∀ u ∈ xs.flatMap pointCells, u.oneCell' = true := by
  intro u hu
  obtain ⟨x, _, hx⟩ := List.mem_flatMap.1 hu
  unfold pointCells at hx
  simp at hx
  rcases hx with rfl | rfl | rfl <;> rfl
theorem ins_flatP (ps : List Pt.Point) (p : Pt.Point) (h : Ig.has ps p = false) : (ps.flatMap pointCells).take (Ig.lo ps p * 3) ++ (pointCells p ++ (ps.flatMap pointCells).drop (Ig.lo ps p * 3)) = (Ig.setP ps p).flatMap pointCells := by
  rw [flat_takeP, flat_dropP]
  unfold Ig.setP
  rw [if_neg (by rw [h]; simp), List.flatMap_append, List.flatMap_cons]
theorem set_flatP (ps : List Pt.Point) (p : Pt.Point) (h : Ig.has ps p = true) : setL (ps.flatMap pointCells) (Ig.lo ps p * 3) (pointCells p) = (Ig.setP ps p).flatMap pointCells := by
  obtain ⟨hk, _⟩ := Ig.has_lt h
  have hl : (ps.flatMap pointCells).length = ps.length * 3 := flat_length pointCells 3 (fun _ => rfl) ps
  unfold Ig.setP
  rw [if_pos h, setL_eq _ _ _ (by rw [hl]; show Ig.lo ps p * 3 + 3 ≤ _; omega), show Ig.lo ps p * 3 + (pointCells p).length = (Ig.lo ps p + 1) * 3 from by show Ig.lo ps p * 3 + 3 = _; omega, flat_takeP, flat_dropP, List.set_eq_take_append_cons_drop, if_pos hk, List.flatMap_append, List.flatMap_cons, List.append_assoc]
theorem setP_len_yes {ps : List Pt.Point} {p : Pt.Point} (h : Ig.has ps p = true) : (Ig.setP ps p).length = ps.length := by
  unfold Ig.setP; rw [if_pos h, List.length_set]
theorem setP_len_no {ps : List Pt.Point} {p : Pt.Point} (h : Ig.has ps p = false) : (Ig.setP ps p).length = ps.length + 1 := by
  have := Ig.lo_le ps p
  unfold Ig.setP; rw [if_neg (by rw [h]; simp)]; simp; omega
theorem pt_own_cells {w : World} {base g cap : Nat} {qs : List Pt.Point} {n : Nat} (h : w.ownsRow base 66 3 (.slice (some ⟨g, 0, none⟩) n cap) n (qs.flatMap pointCells)) (k : Nat) (hk : k < qs.length) :
    w.cell? ⟨g, k * 3, none⟩ = some (.string qs[k].1) ∧ w.cell? ⟨g, k * 3 + 1, none⟩ = some (.int .i64 qs[k].2.1) ∧ w.cell? ⟨g, k * 3 + 2, none⟩ = some (.int .i64 qs[k].2.2) :=
  ⟨own_cell h (by have := flat_at pointCells 3 (fun _ => rfl) qs k 0 hk (by omega); rw [Nat.add_zero] at this; rw [this]; rfl), own_cell h (by rw [flat_at pointCells 3 (fun _ => rfl) qs k 1 hk (by omega)]; rfl), own_cell h (by rw [flat_at pointCells 3 (fun _ => rfl) qs k 2 hk (by omega)]; rfl)⟩
def SetPost (w : World) (base : Nat) (v : Value) (qs : List Pt.Point) (e : Ending) (w' : World) : Prop :=
  ∃ v', e = .returned v' ∧ w'.ownsRow base 66 3 v' qs.length (qs.flatMap pointCells) ∧ Only (fun k => v.ownBlock = some k) w w' ∧ (∀ g, v'.ownBlock = some g → v.ownBlock = some g ∨ w.heap.size ≤ g)
set_option maxRecDepth 100000 in
set_option maxHeartbeats 2000000 in
theorem set_any (v : Value) (ps : List Pt.Point) (A : Option Addr) (c : Nat) (qs : List Pt.Point) (w : World) (base : Nat) (hown : w.ownsRow base 66 3 v ps.length (ps.flatMap pointCells)) (hbase : base ≤ w.heap.size) (hs : Ig.Sorted ps) (hr : Reads w w.heap.size 3 A qs.length (qs.flatMap pointCells)) (hne : 0 < qs.length → ∀ b off, A = some ⟨b, off, none⟩ → v.ownBlock ≠ some b) (hn : ps.length + qs.length ≤ 1000000) :
    Calls Tryz.prog 67 #[v, .slice A qs.length c] w (SetPost w base v (Ig.setAll ps qs)) := by
  have HR := Lib.hid hr
  have HNe := Lib.hid hne
  have HSo := Lib.hid (fun k => Ig.setAll_sorted hs (qs.take k))
  have HLn := Lib.hid (fun k => Ig.setAll_len ps (qs.take k))
  have HSn := Lib.hid (fun k hk => Ig.setAll_snoc ps qs k hk)
  have HEnd : Hid (∀ k, ¬ k < qs.length → Ig.setAll ps (qs.take k) = Ig.setAll ps qs) := fun k hk => by rw [List.take_of_length_le (by omega)]
  have H0 : Hid (Ig.setAll ps (qs.take 0) = ps) := by show _ = _; simp [Ig.setAll]
  have Hown := Lib.hid hown
  obtain ⟨Av, cv, hv, hncv, _⟩ := own_slice hown
  clear hr hne hs hown
  generalize Ig.setAll ps qs = res at *
  subst hv
  go_enter Tryz.func67, Tryz.ntmps67
  go_wp2_with fail
  go_step3
  go_wp2_with fail
  go_step3
  go_wp2_with fail
  go_loopw [0, 6, 7, 8, 11] (fun vo _ _ _ i wr => ∃ k : Nat, k ≤ qs.length ∧ i = .int .i64 (k : Int) ∧ Hid (wr.ownsRow base 66 3 vo (Ig.setAll ps (qs.take k)).length ((Ig.setAll ps (qs.take k)).flatMap pointCells)) ∧ Hid (Only (fun j => Value.ownBlock (.slice Av ps.length cv) = some j) w wr) ∧ Hid (∀ g, vo.ownBlock = some g → Value.ownBlock (.slice Av ps.length cv) = some g ∨ w.heap.size ≤ g)) (fun _ _ _ _ i _ => qs.length - (intOf i).toNat)
  case atStart => exact ⟨0, Nat.zero_le _, rfl, Lib.hid (by show World.ownsRow _ _ _ _ _ _ _; rw [H0.out]; exact Hown.out), Lib.hid (Only.refl _ _), Lib.hid (fun g hg => .inl hg)⟩
  case round =>
    obtain ⟨k, hk, rfl, hown, ho, hgb⟩ := hrel
    have hsw := ho.out.size
    have hso := HSo.out k
    have hln := HLn.out k
    rw [List.length_take] at hln
    by_cases hlt : k < qs.length
    · obtain ⟨b, off, rfl, hbl, hc⟩ := HR.out.2 (by omega)
      have hnb := HNe.out (by omega) b off rfl
      have hkeep : ∀ p : Addr, p.block = b → wr.cell? p = w.cell? p := fun p hp => ho.out.cell (p := p) (by rw [hp]; exact hbl) (by rw [hp]; exact hnb)
      have hc0 : wr.cell? ⟨b, off + k * 3, none⟩ = some (.string qs[k].1) := (hkeep _ rfl).trans (pt_cells (wr := w) hlt hc (fun p hp => rfl) hbl).1
      have hc1 : wr.cell? ⟨b, off + k * 3 + 1, none⟩ = some (.int .i64 qs[k].2.1) := (hkeep _ rfl).trans (pt_cells (wr := w) hlt hc (fun p hp => rfl) hbl).2.1
      have hc2 : wr.cell? ⟨b, off + k * 3 + 2, none⟩ = some (.int .i64 qs[k].2.2) := (hkeep _ rfl).trans (pt_cells (wr := w) hlt hc (fun p hp => rfl) hbl).2.2
      have hsn := Lib.hid (HSn.out k hlt)
      obtain ⟨A, cp, rfl, hnc, _⟩ := own_slice hown.out
      clear hc hkeep HSo HLn HSn HEnd H0 Hown
      generalize Ig.setAll ps (qs.take k) = cur at *
      have HSF := Lib.hid (set_flatP cur qs[k])
      have HIF := Lib.hid (ins_flatP cur qs[k])
      have HLY := Lib.hid (@setP_len_yes cur qs[k])
      have HLN := Lib.hid (@setP_len_no cur qs[k])
      have hlo := Ig.lo_le cur qs[k]
      have HLt := Lib.hid (@Ig.has_lt cur qs[k])
      have HBs := fun W (hb : Below wr.heap.size wr W) => Lib.hid (bsP_any A cp cur qs[k] W wr.heap.size ((Reads.of_own hown.out).below hb) hb.size (by omega) hso)
      unfold BsPPost at HBs
      generalize Ig.setP cur qs[k] = nx at *
      generalize Ig.lo cur qs[k] = lo at *
      cases hhas : Ig.has cur qs[k]
      all_goals
        rw [hhas] at HBs
        generalize qs[k] = q at *
        obtain ⟨nm, t, v⟩ := q
        simp only at hc0 hc1 hc2 HBs
        have hP := Blk.new wr 66 #[.string nm, .int .i64 t, .int .i64 v]
        have hb1 : Below wr.heap.size wr (wr.alloc (.cells #[.string nm, .int .i64 t, .int .i64 v] 66)) := (Below.refl _ _).alloc (Nat.le_refl _) _
        have HP := Lib.hid hP
        have Hb1 := Lib.hid hb1
        obtain ⟨x0, x1, x2⟩ := pt3_of hP
        clear hP hb1
        go_wp2_with fail
        generalize wr.alloc (.cells #[.string nm, .int .i64 t, .int .i64 v] 66) = w1 at *
        refine (HBs w1 Hb1.out).out.mono ?_
        rintro e w2 ⟨rfl, hb2⟩
        have HP2 := Lib.hid (Blk.below HP.out hb2 HP.out.lt)
        have Hb2 : Hid (Below wr.heap.size wr w2) := Hb1.out.trans (hb2.mono Hb1.out.size)
        have hs2 := Hb2.out.size
        have Hown2 := Lib.hid (own_only hown.out (Only.new (fun _ => False) Hb2.out) (fun _ _ h => h))
        have Ho2 : Hid (Only (fun j => Value.ownBlock (.slice Av ps.length cv) = some j) w w2) := ho.out.trans (Only.new (fun _ => False) Hb2.out) (fun _ _ h => absurd h id)
        obtain ⟨y0, y1, y2⟩ := pt3_of HP2.out
        clear hb2 x0 x1 x2 hc0 hc1 hc2 HBs
        have hgb2 : Hid (∀ j, Value.ownBlock (.slice A cur.length cp) = some j → j < wr.heap.size) := fun j hj => (own_lt hown.out hj).2
        have hhw : w.heap.size ≤ wr.heap.size := hsw
        generalize wr.heap.size = h at *
      · have HF := Lib.hid (HIF.out hhas)
        have HL := Lib.hid (HLN.out hhas)
        clear HSF HIF HLY HLN HLt hhas
        go_wp2_with fail
        have hV := Blk.new w2 66 #[.string nm, .int .i64 t, .int .i64 v]
        have hb3 : Below w2.heap.size w2 (w2.alloc (.cells #[.string nm, .int .i64 t, .int .i64 v] 66)) := (Below.refl _ _).alloc (Nat.le_refl _) _
        have hown3 := Hown2.out.alloc (.cells #[.string nm, .int .i64 t, .int .i64 v] 66)
        have hs3 : w2.heap.size ≤ (w2.alloc (.cells #[.string nm, .int .i64 t, .int .i64 v] 66)).heap.size := by simp
        have HV := Lib.hid hV
        have Hb3 := Lib.hid hb3
        have Hown3 := Lib.hid hown3
        clear hV hb3 hown3
        generalize w2.alloc (.cells #[.string nm, .int .i64 t, .int .i64 v] 66) = w3 at *
        refine (insertP_any (.slice A cur.length cp) cur.length lo w2.heap.size base (cur.flatMap pointCells) (pointCells (nm, t, v)) w3 Hown3.out hlo rfl (pointCells_one cur) (by unfold pointCells; simp [Value.oneCell']) HV.out (fun e => by have := hgb2.out _ e; omega) (by omega) (by omega)).mono ?_
        rintro e w4 ⟨v4, rfl, hown4, ho4, hg4⟩
        obtain ⟨A4, c4, rfl, hnc4, _⟩ := own_slice hown4
        have Hown4 : Hid (w4.ownsRow base 66 3 (.slice A4 (cur.length + 1) c4) nx.length (nx.flatMap pointCells)) := by
          show World.ownsRow _ _ _ _ _ _ _
          rw [HL.out, ← HF.out]; exact hown4
        have Ho4 : Hid (Only (fun j => Value.ownBlock (.slice Av ps.length cv) = some j) w w4) := by
          refine Only.trans (Only.trans Ho2.out (Only.new (fun _ => False) Hb3.out) (fun _ _ h => absurd h id)) ho4 (fun j hj e => ?_)
          rcases hgb.out j e with q | q
          · exact q
          · omega
        have Hg4 : Hid (∀ g, Value.ownBlock (.slice A4 (cur.length + 1) c4) = some g → Value.ownBlock (.slice Av ps.length cv) = some g ∨ w.heap.size ≤ g) := fun g hg => by
          rcases hg4 g hg with q | q
          · exact hgb.out g q
          · exact .inr (by omega)
        clear hown4 ho4 hg4
        go_wp2_with fail
        go_roundw
        case rel => exact ⟨k + 1, by omega, by go_num, by rw [hsn.out]; exact Hown4, Ho4, Hg4⟩
        case measure => simp [intOf]; omega
      · have HF := Lib.hid (HSF.out hhas)
        have HL := Lib.hid (HLY.out hhas)
        obtain ⟨hl, _⟩ := HLt.out hhas
        clear HSF HIF HLY HLN HLt hhas
        obtain ⟨g, rfl, hg1, hg2⟩ := own_some Hown2.out (by omega)
        have z0 := own_frozen Hown2.out (lo * 3)
        have z1 := own_frozen Hown2.out (lo * 3 + 1)
        have z2 := own_frozen Hown2.out (lo * 3 + 2)
        obtain ⟨u0, u1, u2⟩ := pt_own_cells Hown2.out lo hl
        have hli : (lo : Int) < (cur.length : Int) := by omega
        have hli0 : (0 : Int) ≤ (lo : Int) := by omega
        go_wp2_with fail
        have Hown4 : Hid ((w2.setCells g (lo * 3) (pointCells (nm, t, v))).ownsRow base 66 3 (.slice (some ⟨g, 0, none⟩) cur.length cp) nx.length (nx.flatMap pointCells)) := by
          show World.ownsRow _ _ _ _ _ _ _
          rw [HL.out, ← HF.out]; exact own_setCells (pointCells (nm, t, v)) (lo * 3) Hown2.out
        have hS : g < w.heap.size → Value.ownBlock (.slice Av ps.length cv) = some g := fun q => by
          rcases hgb.out g rfl with e | e
          · exact e
          · omega
        have Ho4 : Hid (Only (fun j => Value.ownBlock (.slice Av ps.length cv) = some j) w (w2.setCells g (lo * 3) (pointCells (nm, t, v)))) := ((Ho2.out.setCell (p := ⟨g, lo * 3, none⟩) hS _).setCell (p := ⟨g, lo * 3 + 1, none⟩) hS _).setCell (p := ⟨g, lo * 3 + 1 + 1, none⟩) hS _
        go_roundw
        case rel => exact ⟨k + 1, by omega, by go_num, by rw [hsn.out]; exact Hown4, Ho4, hgb⟩
        case measure => simp [intOf]; omega
    · have HE := Lib.hid (HEnd.out k hlt)
      rw [HE.out] at hown
      obtain ⟨A, cp, rfl, hnc, _⟩ := own_slice hown.out
      go_wp2_with fail
      go_ret
      exact ⟨_, rfl, hown.out, ho.out, hgb.out⟩
end Go.Proofs.YtmnigoibbcigdaaGreat
/- slices.Insert of one element into a row of the call's own, and slices.Delete of one (printed by gen_slices.py; the roads are worked out after the kit's at one cell). -/
namespace Go.Proofs.YtmnigoibbcigdaaGreat
open Go.RowKit Go.Shelf
set_option linter.unusedVariables false

def InsR (w : World) (base : Nat) (v : Value) (n : Nat) (xs : List Value) (e : Ending) (w' : World) : Prop :=
  ∃ v', e = .returned v' ∧ w'.ownsRow base 96 4 v' n xs ∧ Only (fun k => v.ownBlock = some k) w w' ∧ (∀ g, v'.ownBlock = some g → v.ownBlock = some g ∨ w.heap.size ≤ g)
theorem only_ownR {w w' : World} {g n cap : Nat} (h : Only (fun k => k = g) w w') : Only (fun k => Value.ownBlock (.slice (some ⟨g, 0, none⟩) n cap) = some k) w w' := h.mono fun j _ hj => by rw [hj]; rfl
theorem insR_fin {w w1 : World} {base n : Nat} {v v1 : Value} {xs : List Value} (hown1 : w1.ownsRow base 96 4 v1 n xs) (hg1 : w.grownBy w1 v.ownBlock) (hor : v1.ownBlock = v.ownBlock ∨ v1.ownBlock = some w.heap.size) : InsR w base v n xs (.returned v1) w1 :=
  ⟨_, rfl, hown1, Only.of_grown hg1 (fun k hk _ => hk), fun g hg => by
    rcases hor with h | h
    · rw [h] at hg; exact .inl hg
    · rw [h] at hg; cases hg; exact .inr (Nat.le_refl _)⟩
set_option maxRecDepth 100000 in
set_option maxHeartbeats 1000000 in
theorem insertR_end (v : Value) (n vb base : Nat) (xs ys : List Value) (w : World) (hown : w.ownsRow base 96 4 v n xs) (hys : ys.length = 4) (h1y : ∀ u ∈ ys, u.oneCell' = true) (hV : Blk w vb 96 ys.toArray) (hbase : base ≤ w.heap.size) (hn : n ≤ 1000000000) :
    Calls Tryz.prog 109 #[v, .int .i64 (n : Int), .slice (some ⟨vb, 0, none⟩) 1 1] w (InsR w base v (n + 1) (xs ++ ys)) := by
  obtain ⟨i0, hi, hz0, hz1, hz2⟩ := info_parts info_srow
  have hrd : Reads w (vb + 1) 4 (some ⟨vb, 0, none⟩) 1 ys := ⟨by rw [hys], fun _ => ⟨vb, 0, rfl, by omega, fun j u hu => by rw [Nat.zero_add, hV.cell]; simpa using hu⟩⟩
  obtain ⟨A, c, rfl, hnc, _⟩ := own_slice hown
  have hcm : c ≤ 9223372036854775807 := by
    rcases hown.2 with ⟨h, _⟩ | ⟨g', cap', cur, h, _, _, h1, h2, _⟩
    · injection h with _ _ h; omega
    · injection h with _ _ h; subst h; exact h2
  by_cases hcn : n = c
  · subst hcn
    go_enter Tryz.func109, Tryz.ntmps109
    go_wp2_with (at_builtin; refine wpList_plain rfl fun _ hK => wp_append_all _ _ _ 26 rfl base 96 i0 _ 4 32 Tryz.underlying26 hi hz0 hz1 hz2 rfl (by decide) _ n xs (by rfl) hown (vb + 1) _ 1 1 ys (by rfl) hrd h1y (by unfold maxLen; omega) (by omega) hbase ?_; intro v1 w1 hown1 hg1 hor; refine hK _ _ ?_)
    go_ret
    exact insR_fin hown1 hg1 hor
  · have hcn2 : ¬ c = n := fun e => hcn e.symm
    go_enter Tryz.func109, Tryz.ntmps109
    go_wp2_with (at_builtin; refine wpList_plain rfl fun _ hK => wp_append_all _ _ _ 26 rfl base 96 i0 _ 4 32 Tryz.underlying26 hi hz0 hz1 hz2 rfl (by decide) _ n xs (by rfl) hown (vb + 1) _ 1 1 ys (by rfl) hrd h1y (by unfold maxLen; omega) (by omega) hbase ?_; intro v1 w1 hown1 hg1 hor; refine hK _ _ ?_)
    go_ret
    exact insR_fin hown1 hg1 hor
set_option maxRecDepth 100000 in
set_option maxHeartbeats 1000000 in
theorem insertR_room (g n cap i vb base : Nat) (xs ys : List Value) (w : World) (hown : w.ownsRow base 96 4 (.slice (some ⟨g, 0, none⟩) n cap) n xs) (hi : i < n) (hroom : n + 1 ≤ cap) (hys : ys.length = 4) (h1x : ∀ u ∈ xs, u.oneCell' = true) (h1y : ∀ u ∈ ys, u.oneCell' = true) (hV : Blk w vb 96 ys.toArray) (hvb : vb ≠ g) (hn : n ≤ 1000000000) :
    Calls Tryz.prog 109 #[.slice (some ⟨g, 0, none⟩) n cap, .int .i64 (i : Int), .slice (some ⟨vb, 0, none⟩) 1 1] w (InsR w base (.slice (some ⟨g, 0, none⟩) n cap) (n + 1) (xs.take (i * 4) ++ (ys ++ xs.drop (i * 4)))) := by
  obtain ⟨cur, hg, hB, hnc, hcm, hcs, hx⟩ := own_parts hown
  obtain ⟨zs, hzl, hext⟩ := own_extend hown 1 hroom
  have hxl := hown.1
  have hcm' : cap ≤ 9223372036854775807 := hcm
  obtain ⟨i0, hi0, hz0, hz1, hz2⟩ := info_parts info_srow
  have hsz : (Tryz.prog.info? 96).map (·.size) = some 4 := by rw [hi0]; simp [hz1]
  have hsE : ∀ w, (sizeOf 96).run Tryz.prog w = .ok 4 w := fun w => by simp [sizeOf, typeInfo, hi0, hz1]
  have hov : ∀ lb cb, (callFunc 119 #[.slice (some ⟨vb, 0, none⟩) 1 1, .slice (some ⟨g, (i + 1) * 4, none⟩) lb cb]).run Tryz.prog w = .ok (.value (.bool false)) w := fun lb cb => by
    rw [run_callFunc_extern Tryz.func119 (by kernel_rfl) (by kernel_rfl) (by kernel_rfl) (e := Extern.SlicesOverlaps.overlaps #[26, 26] #[4]) (by kernel_rfl),
      Lib.run_overlaps_apart w 26 4 96 Tryz.underlying26 4 hsE ⟨vb, 0, none⟩ ⟨g, (i + 1) * 4, none⟩ 1 1 lb cb hvb _ _ _ _ hV.shape hB.shape (by omega) (hV.frozen _) (hV.frozen _)]
    rfl
  have hle : i * 4 ≤ xs.length := by omega
  have hdl : (xs.drop (i * 4)).length = (n - i) * 4 := by rw [List.length_drop, hxl]; omega
  have hcp1 : ∀ ty dc sc, (Builtin.copy_ #[26, 26] ty #[.slice (some ⟨g, (i + 1) * 4, none⟩) (n - i) dc, .slice (some ⟨g, i * 4, none⟩) (n + 1 - i) sc]).run Tryz.prog w.drew = .ok (goInt (Nat.min (n + 1 - i) (n - i))) (w.drew.setCells g ((i + 1) * 4) (xs.drop (i * 4))) := fun ty dc sc =>
    run_copy_k w.drew _ _ ty 96 4 g ((i + 1) * 4) (n - i) dc ⟨g, i * 4, none⟩ (n + 1 - i) sc (xs.drop (i * 4)) Tryz.underlying26 hsz (by rw [hdl]; congr 1; simp only [Nat.min_def]; split <;> omega)
      (fun j v hj => by rw [add_mk]; exact own_cell hown (by rwa [List.getElem?_drop] at hj))
      (fun j hj => own_some_cell hown _ (by rw [hdl] at hj; omega)) (fun j hj => own_frozen hown _) (fun v hv => h1x v (List.mem_of_mem_drop hv))
  obtain ⟨W1, hW1⟩ : ∃ W1, W1 = w.drew.setCells g ((i + 1) * 4) (xs.drop (i * 4)) := ⟨_, rfl⟩
  have hO1 : W1.ownsRow base 96 4 (.slice (some ⟨g, 0, none⟩) (n + 1) cap) (n + 1) (setL (xs ++ zs) ((i + 1) * 4) (xs.drop (i * 4))) := by
    rw [hW1]; exact own_setCells _ _ (own_drewN hext 1)
  have hB1 : Blk W1 vb 96 ys.toArray := by
    rw [hW1]; exact Blk.only (hV.drew) (only_setCells _ _ _) hvb
  have ho1 : Only (fun k => k = g) w W1 := by
    rw [hW1]; exact (Only.refl (fun k => k = g) w).drew.trans (only_setCells _ _ _) (fun _ _ h => h)
  rw [← hW1] at hcp1
  clear hW1
  have hcp2 : ∀ ty dc, (Builtin.copy_ #[26, 26] ty #[.slice (some ⟨g, i * 4, none⟩) (n + 1 - i) dc, .slice (some ⟨vb, 0, none⟩) 1 1]).run Tryz.prog W1 = .ok (goInt (Nat.min 1 (n + 1 - i))) (W1.setCells g (i * 4) ys) := fun ty dc =>
    run_copy_k W1 _ _ ty 96 4 g (i * 4) (n + 1 - i) dc ⟨vb, 0, none⟩ 1 1 ys Tryz.underlying26 hsz (by rw [hys, show Nat.min 1 (n + 1 - i) = 1 from by simp only [Nat.min_def]; split <;> omega])
      (fun j v hj => by rw [add_mk, Nat.zero_add, hB1.cell]; simpa using hj)
      (fun j hj => own_some_cell hO1 _ (by rw [hys] at hj; omega)) (fun j hj => own_frozen hO1 _) h1y
  have hfin : InsR w base (.slice (some ⟨g, 0, none⟩) n cap) (n + 1) (xs.take (i * 4) ++ (ys ++ xs.drop (i * 4))) (.returned (.slice (some ⟨g, 0, none⟩) (n + 1) cap)) (W1.setCells g (i * 4) ys) := by
    refine ⟨_, rfl, ?_, only_ownR (ho1.trans (only_setCells _ _ _) (fun _ _ h => h)), fun k hk => .inl hk⟩
    have h := own_setCells ys (i * 4) hO1
    rw [show (i + 1) * 4 = i * 4 + 4 from by omega, ins_cells xs ys zs (i * 4) 4 hys (by omega) hle] at h
    exact h
  have Hfin := Lib.hid hfin
  have mixed : Tryz.prog.follows .mixedOrders = true := by kernel_rfl
  have hz2' : ¬ ((i : Int) = (n : Int)) := by omega
  have hw1 : IntKind.i64.wrap ((i : Int) + 1) = (i : Int) + 1 := by rw [IntKind.wrap_i64]; omega
  have hb1 : (0 : Int) ≤ (i : Int) + 1 := by omega
  have hin : i ≤ n := by omega
  have htn : ((i : Int) + 1).toNat = i + 1 := by omega
  have hb2 : ¬ (cap = i + 1) := by omega
  have hb3 : (i : Int) ≤ (n : Int) + 1 := by omega
  have hb4 : ¬ (cap = i) := by omega
  clear hfin hO1 hB1 ho1 hext hown hx hB hV hzl hle hdl hxl hcs
  go_enter Tryz.func109, Tryz.ntmps109
  go_wp2_with (simp only [hov])
  go_region_law_o (refine step_copy_at rfl _ _ 26 26 rfl _ _ (by simp [Act.eval, Act.put]) (by simp [Act.eval, Act.put]) (hcp1 _ _ _) ?_)
  go_wp2_with (at_builtin; refine wpList_copy_at _ rfl _ _ 26 26 rfl _ _ rfl rfl (hcp2 _ _) ?_)
  go_ret
  exact Hfin.out
set_option maxRecDepth 100000 in
set_option maxHeartbeats 1000000 in
theorem insertR_grow (g n cap i vb base : Nat) (xs ys : List Value) (w : World) (hown : w.ownsRow base 96 4 (.slice (some ⟨g, 0, none⟩) n cap) n xs) (hi : i < n) (hroom : ¬ n + 1 ≤ cap) (hys : ys.length = 4) (h1x : ∀ u ∈ xs, u.oneCell' = true) (h1y : ∀ u ∈ ys, u.oneCell' = true) (hV : Blk w vb 96 ys.toArray) (hbase : base ≤ w.heap.size) (hn : n ≤ 1000000000) :
    Calls Tryz.prog 109 #[.slice (some ⟨g, 0, none⟩) n cap, .int .i64 (i : Int), .slice (some ⟨vb, 0, none⟩) 1 1] w (InsR w base (.slice (some ⟨g, 0, none⟩) n cap) (n + 1) (xs.take (i * 4) ++ (ys ++ xs.drop (i * 4)))) := by
  obtain ⟨cur, hg, hB, hnc, hcm, hcs, hx⟩ := own_parts hown
  have hxl := hown.1
  have hcm' : cap ≤ 9223372036854775807 := hcm
  obtain ⟨i0, hi0, hz0, hz1, hz2⟩ := info_parts info_srow
  have hsz : (Tryz.prog.info? 96).map (·.size) = some 4 := by rw [hi0]; simp [hz1]
  have hle : i * 4 ≤ xs.length := by omega
  have hdl : (xs.drop (i * 4)).length = (n - i) * 4 := by rw [List.length_drop, hxl]; omega
  have hkk : (n : Int) + 1 - (i : Int) = ((n + 1 - i : Nat) : Int) := by omega
  have hik : i + (n + 1 - i) = n + 1 := by omega
  have hgw := hB.lt
  have hvw := hV.lt
  have hold : (Builtin.firstCells i0.size i (.slice (some ⟨g, 0, none⟩) i cap)).run Tryz.prog w.drew = .ok (xs.take (i * 4)).toArray w.drew := by
    rw [hz1]
    have hld := run_loadCells_list (P := Tryz.prog) w.drew ⟨g, 0, none⟩ (xs.take (i * 4)) (fun j v hj => by
      rw [add_mk, Nat.zero_add]
      rw [List.getElem?_take] at hj
      split at hj
      · exact own_cell hown hj
      · cases hj)
    rw [List.length_take, Nat.min_eq_left hle] at hld
    exact hld
  have hrz : ∀ ty, (Builtin.append_ #[26, 3] ty #[.slice (some ⟨g, 0, none⟩) i cap, .int .i64 ((n : Int) + 1 - (i : Int))]).run Tryz.prog w =
      .ok (.slice (some ⟨w.heap.size, 0, none⟩) (n + 1) (grownCap w (n + 1) cap 96)) (w.drew.alloc (.cells ((xs.take (i * 4)).toArray ++ Builtin.zeroCells (Value.cells (.agg #[.int .i64 0, .int .i64 0, .int .i64 0, .int .i64 0])) (n + 1 - i) ++ Builtin.zeroCells (Value.cells (.agg #[.int .i64 0, .int .i64 0, .int .i64 0, .int .i64 0])) (grownCap w (n + 1) cap 96 - (n + 1))) 96)) := fun ty => by
    have h := Lib.run_append_grow_zeros w 26 3 ty 96 i0 _ .i64 .i64 Tryz.underlying26 Tryz.underlying3 hi0 hz0 (some ⟨g, 0, none⟩) i cap (xs.take (i * 4)) hold (n + 1 - i) (by omega) (by omega) (by omega) (by omega) (by rw [hz2]; omega) (by rw [hz2, hik]; exact growslice_fits (by omega) (by omega))
    rw [hik] at h
    rw [hkk]
    exact h
  have hGn : n + 1 ≤ grownCap w (n + 1) cap 96 := grownCap_ge w _ _ _
  have hG63 : grownCap w (n + 1) cap 96 ≤ maxLen := grownCap_le_maxLen w (n + 1) cap 96 (by unfold maxLen; omega)
  generalize grownCap w (n + 1) cap 96 = G at *
  have hzl : ∀ m, (Builtin.zeroCells (Value.cells (.agg #[.int .i64 0, .int .i64 0, .int .i64 0, .int .i64 0])) m).size = m * 4 := fun m => by simp [Builtin.zeroCells, Value.cells]
  obtain ⟨W1, hW1⟩ : ∃ W1, W1 = w.drew.alloc (.cells ((xs.take (i * 4)).toArray ++ Builtin.zeroCells (Value.cells (.agg #[.int .i64 0, .int .i64 0, .int .i64 0, .int .i64 0])) (n + 1 - i) ++ Builtin.zeroCells (Value.cells (.agg #[.int .i64 0, .int .i64 0, .int .i64 0, .int .i64 0])) (G - (n + 1))) 96) := ⟨_, rfl⟩
  rw [← hW1] at hrz
  have hO1 : W1.ownsRow base 96 4 (.slice (some ⟨w.heap.size, 0, none⟩) (n + 1) G) (n + 1) (xs.take (i * 4) ++ (Builtin.zeroCells (Value.cells (.agg #[.int .i64 0, .int .i64 0, .int .i64 0, .int .i64 0])) (n + 1 - i)).toList) := by
    rw [hW1]
    refine own_of_parts hbase (Blk.new w.drew _ _) hGn hG63 ?_ ?_
    · rw [Array.size_append, Array.size_append, hzl, hzl]
      simp only [List.size_toArray, List.length_take]
      rw [Nat.min_eq_left hle]; omega
    · rw [Array.toList_append, Array.toList_append]
      refine List.take_left' ?_
      rw [List.length_append, Array.length_toList, Array.length_toList, hzl]
      simp only [List.size_toArray, List.length_take]
      rw [Nat.min_eq_left hle]; omega
  have hold1 : Below w.heap.size w W1 := by rw [hW1]; exact (Below.refl _ _).drew.alloc (Nat.le_refl _) _
  have hzz : (Builtin.zeroCells (Value.cells (.agg #[.int .i64 0, .int .i64 0, .int .i64 0, .int .i64 0])) (n + 1 - i)).toList.length = xs.length - i * 4 + 4 := by rw [Array.length_toList, hzl]; omega
  generalize (Builtin.zeroCells (Value.cells (.agg #[.int .i64 0, .int .i64 0, .int .i64 0, .int .i64 0])) (n + 1 - i)).toList = zz at *
  clear hW1 hold
  have hB1 : Blk W1 vb 96 ys.toArray := hV.below hold1 hvw
  have hcpA : ∀ ty dc, (Builtin.copy_ #[26, 26] ty #[.slice (some ⟨w.heap.size, i * 4, none⟩) (n + 1 - i) dc, .slice (some ⟨vb, 0, none⟩) 1 1]).run Tryz.prog W1 = .ok (goInt (Nat.min 1 (n + 1 - i))) (W1.setCells w.heap.size (i * 4) ys) := fun ty dc =>
    run_copy_k W1 _ _ ty 96 4 w.heap.size (i * 4) (n + 1 - i) dc ⟨vb, 0, none⟩ 1 1 ys Tryz.underlying26 hsz (by rw [hys, show Nat.min 1 (n + 1 - i) = 1 from by simp only [Nat.min_def]; split <;> omega])
      (fun j v hj => by rw [add_mk, Nat.zero_add, hB1.cell]; simpa using hj)
      (fun j hj => own_some_cell hO1 _ (by rw [hys] at hj; omega)) (fun j hj => own_frozen hO1 _) h1y
  obtain ⟨W2, hW2⟩ : ∃ W2, W2 = W1.setCells w.heap.size (i * 4) ys := ⟨_, rfl⟩
  have hO2 : W2.ownsRow base 96 4 (.slice (some ⟨w.heap.size, 0, none⟩) (n + 1) G) (n + 1) (setL (xs.take (i * 4) ++ zz) (i * 4) ys) := by rw [hW2]; exact own_setCells _ _ hO1
  have hold2 : Below w.heap.size w W2 := by rw [hW2]; exact hold1.trans ((only_setCells ys W1 (i * 4)).below (fun k hk e => by omega) hold1.size)
  rw [← hW2] at hcpA
  clear hW2
  have hcpB : ∀ ty dc sc, (Builtin.copy_ #[26, 26] ty #[.slice (some ⟨w.heap.size, (i + 1) * 4, none⟩) (n - i) dc, .slice (some ⟨g, i * 4, none⟩) (n - i) sc]).run Tryz.prog W2.drew = .ok (goInt (Nat.min (n - i) (n - i))) (W2.drew.setCells w.heap.size ((i + 1) * 4) (xs.drop (i * 4))) := fun ty dc sc =>
    run_copy_k W2.drew _ _ ty 96 4 w.heap.size ((i + 1) * 4) (n - i) dc ⟨g, i * 4, none⟩ (n - i) sc (xs.drop (i * 4)) Tryz.underlying26 hsz (by rw [hdl]; congr 1; simp only [Nat.min_def]; split <;> omega)
      (fun j v hj => by
        rw [add_mk]
        exact (hold2.cell (p := ⟨g, i * 4 + j, none⟩) hgw).trans (own_cell hown (by rwa [List.getElem?_drop] at hj)))
      (fun j hj => own_some_cell hO2 _ (by rw [hdl] at hj; omega)) (fun j hj => own_frozen hO2 _) (fun v hv => h1x v (List.mem_of_mem_drop hv))
  have hfin : InsR w base (.slice (some ⟨g, 0, none⟩) n cap) (n + 1) (xs.take (i * 4) ++ (ys ++ xs.drop (i * 4))) (.returned (.slice (some ⟨w.heap.size, 0, none⟩) (n + 1) G)) (W2.drew.setCells w.heap.size ((i + 1) * 4) (xs.drop (i * 4))) := by
    refine ⟨_, rfl, ?_, Only.new _ (hold2.drew.trans ((only_setCells _ W2.drew _).below (fun k hk e => by omega) hold2.size)), fun k hk => .inr (by cases hk; exact Nat.le_refl _)⟩
    have h := own_setCells (w := W2.drew) (xs.drop (i * 4)) ((i + 1) * 4) (own_drewN hO2 1)
    rw [show (i + 1) * 4 = i * 4 + 4 from by omega, ins_cells2 xs ys zz (i * 4) 4 hys hle hzz] at h
    rw [show (i + 1) * 4 = i * 4 + 4 from by omega]
    exact h
  have Hfin := Lib.hid hfin
  have mixed : Tryz.prog.follows .mixedOrders = true := by kernel_rfl
  have hz2' : ¬ ((i : Int) = (n : Int)) := by omega
  have hz3 : (cap : Int) < (n : Int) + 1 := by omega
  have hw1 : IntKind.i64.wrap ((i : Int) + 1) = (i : Int) + 1 := by rw [IntKind.wrap_i64]; omega
  have hb1 : (0 : Int) ≤ (i : Int) + 1 := by omega
  have hin : i ≤ n := by omega
  have htn : ((i : Int) + 1).toNat = i + 1 := by omega
  have hG63' : G ≤ 9223372036854775807 := hG63
  have hGi : ¬ (G = i) := by omega
  have hGim : ¬ (G = i + 1) := by omega
  have hci : ¬ (cap = i) := by omega
  have hb3 : (i : Int) ≤ (n : Int) + 1 := by omega
  clear hfin hO1 hB1 hO2 hold1 hold2 hown hx hB hV hzl hle hdl hxl hcs hzz hkk hik
  go_enter Tryz.func109, Tryz.ntmps109
  go_wp2_with (first
    | (at_builtin; refine Lib.wpList_append_run _ rfl _ _ _ _ rfl _ _ rfl rfl _ _ (hrz _) ?_)
    | (at_builtin; refine wpList_copy_at _ rfl _ _ 26 26 rfl _ _ rfl rfl (hcpA _ _) ?_))
  go_region_law_o (refine step_copy_at rfl _ _ 26 26 rfl _ _ (by simp [Act.eval, Act.put]) (by simp [Act.eval, Act.put]) (hcpB _ _ _) ?_)
  go_wp2_with fail
  go_ret
  exact Hfin.out
/-- slices.Insert of one element -/
theorem insertR_any (v : Value) (n i vb base : Nat) (xs ys : List Value) (w : World) (hown : w.ownsRow base 96 4 v n xs) (hi : i ≤ n) (hys : ys.length = 4) (h1x : ∀ u ∈ xs, u.oneCell' = true) (h1y : ∀ u ∈ ys, u.oneCell' = true) (hV : Blk w vb 96 ys.toArray) (hvb : v.ownBlock ≠ some vb) (hbase : base ≤ w.heap.size) (hn : n ≤ 1000000000) :
    Calls Tryz.prog 109 #[v, .int .i64 (i : Int), .slice (some ⟨vb, 0, none⟩) 1 1] w (InsR w base v (n + 1) (xs.take (i * 4) ++ (ys ++ xs.drop (i * 4)))) := by
  by_cases he : i = n
  · subst he
    have hl := hown.1
    rw [List.take_of_length_le (by omega), List.drop_eq_nil_of_le (by omega), List.append_nil]
    exact insertR_end v i vb base xs ys w hown hys h1y hV hbase hn
  · obtain ⟨A, c, rfl, hnc, _⟩ := own_slice hown
    obtain ⟨g, rfl, hg1, hg2⟩ := own_some hown (by omega)
    by_cases hroom : n + 1 ≤ c
    · exact insertR_room g n c i vb base xs ys w hown (by omega) hroom hys h1x h1y hV (fun e => hvb (by rw [e]; rfl)) hn
    · exact insertR_grow g n c i vb base xs ys w hown (by omega) hroom hys h1x h1y hV hbase hn
set_option maxRecDepth 100000 in
set_option maxHeartbeats 1000000 in
theorem deleteR_any (g m cap i base : Nat) (xs : List Value) (w : World) (hown : w.ownsRow base 96 4 (.slice (some ⟨g, 0, none⟩) (m + 1) cap) (m + 1) xs) (hi : i ≤ m) (h1x : ∀ u ∈ xs, u.oneCell' = true) (hn : m ≤ 1000000000) :
    Calls Tryz.prog 110 #[.slice (some ⟨g, 0, none⟩) (m + 1) cap, .int .i64 (i : Int), .int .i64 ((i : Int) + 1)] w (InsR w base (.slice (some ⟨g, 0, none⟩) (m + 1) cap) m (xs.take (i * 4) ++ xs.drop ((i + 1) * 4))) := by
  obtain ⟨cur, hg, hB, hnc, hcm, hcs, hx⟩ := own_parts hown
  have hxl := hown.1
  have hcm' : cap ≤ 9223372036854775807 := hcm
  obtain ⟨i0, hi0, hz0, hz1, hz2⟩ := info_parts info_srow
  have hdl : (xs.drop ((i + 1) * 4)).length = (m - i) * 4 := by rw [List.length_drop, hxl]; omega
  have hrun : ∀ ty a c', (i < m → a = ⟨g, (i + 1) * 4, none⟩) → (Builtin.append_ #[26, 26] ty #[.slice (some ⟨g, 0, none⟩) i cap, .slice (some a) (m - i) c']).run Tryz.prog w.drew = .ok (.slice (some ⟨g, 0, none⟩) m cap) (w.drew.setCells g (i * 4) (xs.drop ((i + 1) * 4))) := fun ty a c' ha => by
    have h := run_append_room (P := Tryz.prog) w.drew 26 26 ty 96 i0 Tryz.underlying26 Tryz.underlying26 hi0 g i cap a (m - i) c' (xs.drop ((i + 1) * 4)) (by omega) (by rw [hdl, hz1])
      (fun j v hj => by
        have hjl := (List.getElem?_eq_some_iff.1 hj).1
        rw [hdl] at hjl
        rw [ha (by omega), add_mk]
        exact own_cell hown (by rwa [List.getElem?_drop] at hj))
      (fun j hj => own_some_cell hown _ (by rw [hz1]; rw [hdl] at hj; omega)) (fun j hj => own_frozen hown _) (fun v hv => h1x v (List.mem_of_mem_drop hv))
    rw [show i + (m - i) = m from by omega, hz1] at h
    exact h
  obtain ⟨W1, hW1⟩ : ∃ W1, W1 = w.drew.setCells g (i * 4) (xs.drop ((i + 1) * 4)) := ⟨_, rfl⟩
  have hO1 : W1.ownsRow base 96 4 (.slice (some ⟨g, 0, none⟩) (m + 1) cap) (m + 1) (setL xs (i * 4) (xs.drop ((i + 1) * 4))) := by rw [hW1]; exact own_setCells _ _ (own_drewN hown 1)
  have ho1 : Only (fun k => k = g) w W1 := by rw [hW1]; exact (Only.refl (fun k => k = g) w).drew.trans (only_setCells _ _ _) (fun _ _ h => h)
  rw [← hW1] at hrun
  clear hW1
  have hO2 := own_cut hO1 m (by omega)
  rw [show m * 4 = xs.length - 4 from by omega, show (i + 1) * 4 = i * 4 + 4 from by omega, del_cells xs (i * 4) 4 (by omega)] at hO2
  have hcl : ∀ ty c', (Builtin.clear_ #[26] ty #[.slice (some ⟨g, m * 4, none⟩) 1 c']).run Tryz.prog W1 = .ok (.tuple #[]) (W1.setCells g (m * 4) (Builtin.zeroCells (Value.cells (.agg #[.int .i64 0, .int .i64 0, .int .i64 0, .int .i64 0])) 1).toList) := fun ty c' =>
    run_clear_k W1 26 96 ty _ 4 Tryz.underlying26 (fun w => by simp [zeroValue, typeInfo, hi0, hz0]) rfl (by simp [Value.cells, Value.oneCell']) g (m * 4) 1 c' (by omega) (by omega)
      (fun j hj => own_some_cell hO1 _ (by omega)) (fun j hj => own_frozen hO1 _)
  have hfin : InsR w base (.slice (some ⟨g, 0, none⟩) (m + 1) cap) m (xs.take (i * 4) ++ xs.drop ((i + 1) * 4)) (.returned (.slice (some ⟨g, 0, none⟩) m cap)) (W1.setCells g (m * 4) (Builtin.zeroCells (Value.cells (.agg #[.int .i64 0, .int .i64 0, .int .i64 0, .int .i64 0])) 1).toList) := by
    refine ⟨_, rfl, ?_, only_ownR (ho1.trans (only_setCells _ _ _) (fun _ _ h => h)), fun k hk => .inl hk⟩
    have h := own_setCells (Builtin.zeroCells (Value.cells (.agg #[.int .i64 0, .int .i64 0, .int .i64 0, .int .i64 0])) 1).toList (m * 4) hO2
    rw [setL_past _ _ _ (by rw [hO2.1]; exact Nat.le_refl _)] at h
    rw [show (i + 1) * 4 = i * 4 + 4 from by omega]
    exact h
  have Hfin := Lib.hid hfin
  generalize W1.setCells g (m * 4) (Builtin.zeroCells (Value.cells (.agg #[.int .i64 0, .int .i64 0, .int .i64 0, .int .i64 0])) 1).toList = W2 at *
  have mixed : Tryz.prog.follows .mixedOrders = true := by kernel_rfl
  have hb0 : ¬ ((i : Int) = (i : Int) + 1) := by omega
  have hw1 : IntKind.i64.wrap ((i : Int) + 1) = (i : Int) + 1 := by rw [IntKind.wrap_i64]; omega
  have hb1 : (0 : Int) ≤ (i : Int) + 1 := by omega
  have htn : ((i : Int) + 1).toNat = i + 1 := by omega
  have hic : i ≤ cap := by omega
  have hjc : i + 1 ≤ cap := by omega
  have hcm2 : ¬ (cap = m) := by omega
  have hci : ¬ (cap = i) := by omega
  clear hfin hO1 ho1 hO2 hown hx hB hxl hcs hdl
  by_cases him : i = m
  · subst him
    have hrun' := fun ty a c' => hrun ty a c' (fun h => absurd h (by omega))
    rw [Nat.sub_self] at hrun'
    have hii : (i : Int) ≤ (i : Int) + 1 := by omega
    have Hrun := Lib.hid hrun'
    clear hrun hrun'
    by_cases hce : cap = i + 1
    · subst hce
      have hii2 : i ≤ i + 1 := by omega
      go_enter Tryz.func110, Tryz.ntmps110
      go_wp2_with fail
      go_region_law_o (refine step_append_at rfl (.tmp 22) (.tmp 25) 26 26 rfl (.slice (some ⟨g, 0, none⟩) i (i + 1)) (.slice (some ⟨g, 0, none⟩) 0 0) (by simp [Act.eval, Act.put]) (by simp [Act.eval, Act.put]) (Hrun.out _ _ _) ?_)
      go_wp2_with fail
      go_ret
      exact Hfin.out
    · go_enter Tryz.func110, Tryz.ntmps110
      go_wp2_with fail
      go_region_law_o (refine step_append_at rfl (.tmp 22) (.tmp 25) 26 26 rfl (.slice (some ⟨g, 0, none⟩) i cap) (.slice (some ⟨g, (i + 1) * 4, none⟩) 0 (cap - (i + 1))) (by simp [Act.eval, Act.put]) (by simp [Act.eval, Act.put]) (Hrun.out _ _ _) ?_)
      go_wp2_with fail
      go_ret
      exact Hfin.out
  · have Hrun := Lib.hid (fun ty c' => hrun ty ⟨g, (i + 1) * 4, none⟩ c' (fun _ => rfl))
    have hce : ¬ (cap = i + 1) := by omega
    clear hrun
    go_enter Tryz.func110, Tryz.ntmps110
    go_wp2_with fail
    go_region_law_o (refine step_append_at rfl (.tmp 22) (.tmp 25) 26 26 rfl (.slice (some ⟨g, 0, none⟩) i cap) (.slice (some ⟨g, (i + 1) * 4, none⟩) (m - i) (cap - (i + 1))) (by simp [Act.eval, Act.put]) (by simp [Act.eval, Act.put]) (Hrun.out _ _) ?_)
    go_wp2_with fail
    go_ret
    exact Hfin.out
end Go.Proofs.YtmnigoibbcigdaaGreat
/- A session is opened: the walks through BinarySearchFunc over a table, session.open and its reference (chapter 10). -/
namespace Go.Proofs.YtmnigoibbcigdaaGreat
open Go.RowKit
set_option linter.unusedVariables false

theorem open1_any (r : Se.Row) (t : Int) (w : World) :
    Calls Tryz.prog 107 #[.agg #[.int .i64 r.1, .int .i64 r.2.1, .int .i64 r.2.2.1, .int .i64 r.2.2.2], .int .i64 t] w fun e w' => e = .returned (.int .i64 (Lib.compareInt r.1 t)) ∧ Below w.heap.size w w' := by
  have H1 := fun W => Lib.hid (Tryz.cmp_Compare_int r.1 t W)
  generalize Lib.compareInt r.1 t = q at *
  go_enter Tryz.func107, Tryz.ntmps107
  go_wp2_with fail
  refine (H1 _).out.mono ?_
  rintro e w' ⟨rfl, rfl⟩
  go_wp2_with fail
  go_ret
  exact ⟨rfl, (Below.refl w.heap.size w).alloc (Nat.le_refl _) _⟩
theorem cmp_lt {x y : Int} (h : x < y) : Lib.compareInt x y < 0 := by unfold Lib.compareInt; rw [if_pos h]; omega
theorem cmp_ge {x y : Int} (h : ¬ x < y) : ¬ Lib.compareInt x y < 0 := by unfold Lib.compareInt; rw [if_neg h]; split <;> omega
theorem half_of (i j : Nat) (h : i ≤ 1000000000 ∧ j ≤ 1000000000) : (IntKind.u64.wrap ((i : Int) + (j : Int)) / 2 : Int) = (((i + j) / 2 : Nat) : Int) := by rw [IntKind.wrap_u64]; omega
def BsPost (w : World) (k : Nat) (e : Ending) (w' : World) : Prop := ∃ b, e = .returned (.tuple #[.int .i64 (k : Int), .bool b]) ∧ Below w.heap.size w w'
set_option maxRecDepth 100000 in
set_option maxHeartbeats 1000000 in
theorem bsR_any (A : Option Addr) (c : Nat) (ps : List Se.Row) (t : Int) (w : World) (B : Nat) (hr : Reads w B 4 A ps.length (ps.flatMap rowCells)) (hB : B ≤ w.heap.size) (hn : ps.length ≤ 1000000) (hs : ∀ i j (hij : i < j) (hj : j < ps.length), (ps[i]'(by omega)).1 < ps[j].1) :
    Calls Tryz.prog 106 #[.slice A ps.length c, .int .i64 t, .func (.func 107) #[] #[]] w (BsPost w (Se.lo ps t)) := by
  have HR := Lib.hid hr
  have HS := Lib.hid hs
  have HLo := Lib.hid (fun k hk ha hb => @Se.lo_of ps t k hk ha hb)
  clear hr hs
  generalize Se.lo ps t = res at *
  go_enter Tryz.func106, Tryz.ntmps106
  go_wp2_with fail
  go_loopw [9, 10, 11] (fun x y _ wr => ∃ i j : Nat, i ≤ j ∧ j ≤ ps.length ∧ x = .int .i64 (i : Int) ∧ y = .int .i64 (j : Int) ∧ Hid (∀ q (hq : q < ps.length), q < i → ps[q].1 < t) ∧ Hid (∀ q (hq : q < ps.length), j ≤ q → t ≤ ps[q].1) ∧ Hid (Below w.heap.size w wr)) (fun x y _ _ => (intOf y).toNat - (intOf x).toNat)
  case atStart => exact ⟨0, ps.length, Nat.zero_le _, Nat.le_refl _, rfl, rfl, Lib.hid (fun _ _ h => absurd h (by omega)), Lib.hid (fun _ _ h => absurd h (by omega)), Lib.hid (Below.refl _ _)⟩
  case round =>
    obtain ⟨i, j, hij, hj, rfl, rfl, ha, hb, hbw⟩ := hrel
    have hsw := hbw.out.size
    by_cases hlt : i < j
    · obtain ⟨h, hh⟩ : ∃ h, h = (i + j) / 2 := ⟨_, rfl⟩
      have hhl : h < ps.length := by omega
      have hih : i ≤ h ∧ h < j := by omega
      have hq0 : (0 : Int) ≤ ((i : Int) + (j : Int)) / 2 := by omega
      have hq1 : ((i : Int) + (j : Int)) / 2 < (ps.length : Int) := by omega
      obtain ⟨b, off, rfl, hbl, hc⟩ := HR.out.2 (by omega)
      obtain ⟨hc0, hc1, hc2, hc3⟩ := row_cells (wr := wr) hhl hc (fun p hp => hbw.out.cell (p := p) (by omega)) hbl
      have HSh := Lib.hid (fun q (hq : q < ps.length) (hqh : q < h) => HS.out q h hqh hhl)
      have HSg : Hid (∀ q (hq : q < ps.length), h < q → ps[h].1 < ps[q].1) := fun q hq hqh => HS.out h q hqh hq
      obtain ⟨p, hp⟩ : ∃ p, ps[h] = p := ⟨_, rfl⟩
      have Hp := Lib.hid hp
      rw [hp] at hc0 hc1 hc2 hc3 HSh HSg
      have Hh := Lib.hid hh
      rw [hh] at hc0 hc1 hc2 hc3
      have H1 := fun W => Lib.hid (open1_any p t W)
      clear hc hh hp
      by_cases hm : p.1 < t
      · have hcm := cmp_lt hm
        have hF : Hid (∀ q (hq : q < ps.length), q < h + 1 → ps[q].1 < t) := fun q hq hqh => by
          by_cases e : q = h
          · subst e; rw [Hp.out]; exact hm
          · have := HSh.out q hq (by omega); omega
        clear HSh HSg ha hm
        generalize Lib.compareInt p.1 t = cv at *
        go_wp2_with fail
        refine (H1 _).out.mono ?_
        rintro e w1 ⟨rfl, hb1⟩
        go_wp2_with fail
        go_roundw
        case rel => exact ⟨h + 1, j, by omega, hj, by rw [Hh.out]; go_num, rfl, hF, hb, Lib.hid (hbw.out.trans (hb1.mono hsw))⟩
        case measure => simp [intOf]; omega
      · have hcm := cmp_ge hm
        have hF : Hid (∀ q (hq : q < ps.length), h ≤ q → t ≤ ps[q].1) := fun q hq hqh => by
          by_cases e : q = h
          · subst e; rw [Hp.out]; omega
          · have := HSg.out q hq (by omega); omega
        clear HSh HSg hb hm
        generalize Lib.compareInt p.1 t = cv at *
        go_wp2_with fail
        refine (H1 _).out.mono ?_
        rintro e w1 ⟨rfl, hb1⟩
        go_wp2_with fail
        go_roundw
        case rel => exact ⟨i, h, by omega, by omega, rfl, by rw [Hh.out]; go_num, ha, hF, Lib.hid (hbw.out.trans (hb1.mono hsw))⟩
        case measure => simp [intOf]; omega
    · obtain rfl : i = j := by omega
      have hF : Hid (res = i) := HLo.out i hj (fun q hq => ha.out q (by omega) hq) (fun h => hb.out i h (Nat.le_refl _))
      clear ha hb HLo
      by_cases hil : i < ps.length
      · obtain ⟨b, off, rfl, hbl, hc⟩ := HR.out.2 (by omega)
        obtain ⟨hc0, hc1, hc2, hc3⟩ := row_cells (wr := wr) hil hc (fun p hp => hbw.out.cell (p := p) (by omega)) hbl
        have H1 := fun W => Lib.hid (open1_any ps[i] t W)
        have hd : decide ((i : Int) < (ps.length : Int)) = true := decide_eq_true (by omega)
        clear hc
        generalize Lib.compareInt ps[i].1 t = cv at *
        go_wp2_with fail
        refine (H1 _).out.mono ?_
        rintro e w1 ⟨rfl, hb1⟩
        go_wp2_with fail
        go_ret2
        exact ⟨_, by rw [hF.out]; rfl, hbw.out.trans (hb1.mono hsw)⟩
      · have hd : decide ((i : Int) < (ps.length : Int)) = false := decide_eq_false (by omega)
        go_wp2_with fail
        go_ret2
        exact ⟨_, by rw [hF.out]; rfl, hbw.out⟩
end Go.Proofs.YtmnigoibbcigdaaGreat
