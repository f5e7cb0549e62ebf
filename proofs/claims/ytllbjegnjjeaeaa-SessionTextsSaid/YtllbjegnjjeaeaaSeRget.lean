/- The walk through the reference's Get (chapter 10). -/
import Derived.Test.YtllbjegnjjeaeaaSeGet
import Derived.Test.YtllbjegnjjeaeaaSeRput
import Derived.Deep.RegionHeld3
import Derived.Deep.AppendLies
namespace Go.Proofs.Ytllbjegnjjeaeaa
open Go.RowKit
set_option linter.unusedVariables false

theorem getN_bdS (s : ByteArray) (a : Int) (hs : s.size ≤ 4611686018427387904) : (-9223372036854775808 ≤ (Wr.getN s.data.toList a).2.1 ∧ (Wr.getN s.data.toList a).2.1 ≤ 9223372036854775807) ∧ (-9007199254740992 ≤ (Wr.getN s.data.toList a).1 ∧ (Wr.getN s.data.toList a).1 ≤ 9007199254740992) := by
  rcases Wr.getN_cases s.data.toList a with ⟨e, hg, he⟩ | ⟨x, b, k, ha, hg, hn, _, hle, _⟩
  · rw [hg]; simp
  · rw [Wr.len_list] at hle
    have := (Wr.isNum_iff x).1 hn
    rw [hg]; exact ⟨⟨by simp; omega, by simp; omega⟩, ⟨by simp; omega, by simp; omega⟩⟩
/-- j numbers read from a place on -/
def Se.gk (s : ByteArray) (st : Pt.St) : Nat → List Int × Pt.St
  | 0 => ([], st)
  | j + 1 => ((Se.gk s st j).1 ++ [(Se.rdN s (Se.gk s st j).2).1], Se.rd1 s (Se.gk s st j).2)
theorem gk_len (s : ByteArray) (st : Pt.St) (j : Nat) : (Se.gk s st j).1.length = j := by
  induction j with
  | zero => rfl
  | succ j ih => rw [Se.gk, List.length_append, ih]; rfl
theorem gk_row (s : ByteArray) (st : Pt.St) {a b c d : Int} (h : (Se.gk s st 4).1 = [a, b, c, d]) : Se.rdRow s st = ((a, b, c, d), (Se.gk s st 4).2) := by
  simp only [Se.gk, List.nil_append, List.cons_append] at h ⊢
  injection h with h1 h
  injection h with h2 h
  injection h with h3 h
  injection h with h4 h
  unfold Se.rdRow
  rw [← h1, ← h2, ← h3, ← h4]
theorem four_of (l : List Int) (h : l.length = 4) : ∃ a b c d, l = [a, b, c, d] := by
  match l, h with
  | [a, b, c, d], _ => exact ⟨a, b, c, d, rfl⟩
theorem rdN_okay (s : ByteArray) (a x m : Int) (h : Wr.getN s.data.toList a = (x, m, 0)) : Se.rdN s (a, false) = (x, (m, false)) := by
  have hb := (Wr.getN_cases s.data.toList a)
  rcases hb with ⟨e, hg, he⟩ | ⟨x', b, k, ha, hg, hn, _, hle, _⟩
  · rw [hg] at h; injection h with _ h; injection h with _ h; omega
  · rw [hg] at h
    injection h with h1 h
    injection h with h2 h
    have := (Wr.isNum_iff x').1 hn
    subst h1
    exact Pt.rdNum_ok s _ _ a x' m (by rw [hg, h2]) (by omega) (by omega)
theorem rd1_bad (s : ByteArray) (st : Pt.St) (h : st.2 = true) : (Se.rd1 s st).2 = true := by
  obtain ⟨a, b⟩ := st
  simp only at h
  subst h
  unfold Se.rd1 Se.rdN
  rw [Pt.rdNum_bad]
theorem gk_stick (s : ByteArray) (st : Pt.St) (j m : Nat) (h : (Se.gk s st j).2.2 = true) (hm : j ≤ m) : (Se.gk s st m).2.2 = true := by
  induction m with
  | zero => obtain rfl : j = 0 := by omega
            exact h
  | succ m ih =>
    by_cases e : j = m + 1
    · subst e; exact h
    · rw [Se.gk]; exact rd1_bad s _ (ih (by omega))
theorem rdRow_st (s : ByteArray) (st : Pt.St) : (Se.rdRow s st).2 = (Se.gk s st 4).2 := by simp [Se.gk, Se.rdRow]
theorem rdK_stick (s : ByteArray) (st : Pt.St) (j m : Nat) (h : (Se.rdK s st j).2.2 = true) (hm : j ≤ m) : (Se.rdK s st m).2.2 = true := by
  induction m with
  | zero => obtain rfl : j = 0 := by omega
            exact h
  | succ m ih =>
    by_cases e : j = m + 1
    · subst e; exact h
    · rw [rdK_st, rdRow_st]; exact gk_stick s _ 0 4 (by rw [Se.gk]; exact ih (by omega)) (by omega)
/-- a number that is none: no table -/
theorem rget_stop {s : ByteArray} {n : Int} {st0 : Pt.St} (h0 : Pt.rdNum s 0 4 (0, false) = (n, st0)) {k j : Nat} (hk : k < n.toNat) (hj : j < 4) {a : Int} (hs : (Se.gk s (Se.rdK s st0 k).2 j).2 = (a, false)) (he : (Wr.getN s.data.toList a).2.2 ≠ 0) : Se.getR s = ([], 1001) := by
  have h1 : (Se.gk s (Se.rdK s st0 k).2 (j + 1)).2.2 = true := by
    rw [Se.gk]
    show (Se.rd1 s (Se.gk s (Se.rdK s st0 k).2 j).2).2 = true
    rw [hs]
    unfold Se.rd1 Se.rdN
    rw [Pt.rdNum_no s _ _ a false he]
  have h2 := gk_stick s _ (j + 1) 4 h1 (by omega)
  have h3 : (Se.rdK s st0 (k + 1)).2.2 = true := by rw [rdK_st, rdRow_st]; exact h2
  have h4 := rdK_stick s st0 (k + 1) n.toNat h3 (by omega)
  refine sget_no (rows := (Se.rdK s st0 n.toNat).1) (a := (Se.rdK s st0 n.toNat).2.1) (bad := true) h0 ?_ (.inl rfl)
  rw [← h4]
/-- the count is none -/
theorem rget_head {s : ByteArray} {x a : Int} {e : Int} (h : Wr.getN s.data.toList 0 = (x, a, e)) (hb : e ≠ 0 ∨ x < 0 ∨ 4 < x) : Se.getR s = ([], 1001) := by
  have h0 : Pt.rdNum s 0 4 (0, false) = (0, (0, true)) := by
    unfold Pt.rdNum
    rw [h]
    rw [if_pos (by rcases hb with hb | hb | hb; exact .inl hb; exact .inr (.inl hb); exact .inr (.inr (.inl hb)))]
  exact sget_no (rows := []) (a := 0) (bad := true) h0 rfl (.inl rfl)
def Se.xsRow (l : List Int) (j : Nat) : Array Value := ((l ++ List.replicate (4 - j) 0).map (Value.int .i64)).toArray
theorem xs_make : ∀ w : World, (Instr.makeSlice 44 (.int .i64 4) (.int .i64 4)).run Try.prog w = .ok (.slice (some ⟨w.heap.size, 0, none⟩) 4 4) (w.alloc (.cells (Se.xsRow [] 0) 3)) := by
  intro w; kernel_rfl
theorem xs_set (l : List Int) (j : Nat) (x : Int) (hl : l.length = j) (hj : j < 4) : (Se.xsRow l j).setIfInBounds j (.int .i64 x) = Se.xsRow (l ++ [x]) (j + 1) := by
  unfold Se.xsRow
  rw [List.setIfInBounds_toArray, ← List.map_set]
  congr 2
  rw [List.set_append_right j x (by omega), hl, Nat.sub_self, show 4 - j = (4 - (j + 1)) + 1 from by omega, List.replicate_succ]
  simp
theorem xs_at {w : World} {g : Nat} {l : List Int} {j : Nat} (h : Blk w g 3 (Se.xsRow l j)) (hl : l.length = j) (hj : j < 4) : ∃ u, w.cell? ⟨g, j, none⟩ = some u := by
  rw [h.cell]
  unfold Se.xsRow
  rw [List.getElem?_toArray, List.getElem?_map, List.getElem?_append_right (by omega), hl, Nat.sub_self, show 4 - j = (4 - (j + 1)) + 1 from by omega, List.replicate_succ]
  exact ⟨_, rfl⟩
theorem xs_four {w : World} {g : Nat} {a b c d : Int} (h : Blk w g 3 (Se.xsRow [a, b, c, d] 4)) : w.cell? ⟨g, 0, none⟩ = some (.int .i64 a) ∧ w.cell? ⟨g, 1, none⟩ = some (.int .i64 b) ∧ w.cell? ⟨g, 2, none⟩ = some (.int .i64 c) ∧ w.cell? ⟨g, 3, none⟩ = some (.int .i64 d) :=
  ⟨(h.cell 0).trans rfl, (h.cell 1).trans rfl, (h.cell 2).trans rfl, (h.cell 3).trans rfl⟩

set_option maxRecDepth 100000 in
set_option maxHeartbeats 2000000 in
theorem rseget_any (s : ByteArray) (w : World) (hs : s.size ≤ 140737488355328) :
    Calls Try.prog 20 #[.string s] w (SGetPost w (Se.getR s)) := by
  obtain ⟨i0, hi, hz0, hz1, hz2⟩ := info_parts info_srow
  have H0 := fun W => Lib.hid (rgetNum_any s 0 W (by omega) (by omega))
  have hbd := getN_bdS s 0 (by omega)
  have HH := @rget_head s
  have hmk := xs_make
  have HO := fun (x m : Int) (h : Wr.getN s.data.toList 0 = (x, m, 0)) (h1 : 0 ≤ x) (h2 : x ≤ 4) => Pt.rdNum_ok s 0 4 0 x m h h1 h2
  have HSt := Lib.hid (fun n st0 h0 k j hk hj a h he => @rget_stop s n st0 h0 k j hk hj a h he)
  have HOk := Lib.hid (fun k st0 rows h0 hk hm => @sget_ok s k st0 rows h0 hk hm)
  have HNo := Lib.hid (fun k st0 rows a bad h0 hk h => @sget_no s k st0 rows a bad h0 hk h)
  generalize Se.getR s = res at *
  obtain ⟨x, to0, e0, hX⟩ : ∃ x to0 e0, Wr.getN s.data.toList 0 = (x, to0, e0) := ⟨_, _, _, rfl⟩
  rw [hX] at H0 hbd
  simp only [gnV] at H0 hbd
  by_cases hbad : e0 ≠ 0 ∨ x < 0 ∨ 4 < x
  · have HR := Lib.hid (HH hX hbad)
    clear HH HO HSt HOk HNo hX hmk
    have hz : (e0 != 0) = true ∨ ((e0 != 0) = false ∧ (x < 0 ∨ (¬ x < 0 ∧ 4 < x))) := by
      by_cases h : e0 = 0
      · right; exact ⟨by simp [h], by omega⟩
      · left; simp [h]
    clear hbad
    rcases hz with hz | ⟨hz, h1 | ⟨h1, h2⟩⟩
    all_goals
      go_enter Try.func20, Try.ntmps20
      go_wp2_with fail
      refine (H0 _).out.mono ?_
      rintro e w' ⟨rfl, rfl⟩
      go_wp2_with fail
      go_ret2
      exact ⟨_, by rw [HR.out]; rfl, by rw [HR.out]; exact own_nil _ _ _ _, Below.refl _ _⟩
  · obtain rfl : e0 = 0 := by omega
    have hx0 : 0 ≤ x := by omega
    have hx4 : x ≤ 4 := by omega
    have h0 := HO x to0 hX hx0 hx4
    obtain ⟨n, rfl⟩ : ∃ n : Nat, x = (n : Int) := ⟨x.toNat, by omega⟩
    have hst := hbd.1
    have HSt' := Lib.hid (fun k j hk hj a h he => HSt.out _ _ h0 k j hk hj a h he)
    have HOk' := Lib.hid (fun rows hk hm => HOk.out _ _ rows h0 hk hm)
    have HNo' := Lib.hid (fun rows a bad hk h => HNo.out _ _ rows a bad h0 hk h)
    rw [Int.toNat_natCast] at HSt' HOk' HNo'
    clear HH HO HSt HOk HNo hX hbad h0 hbd
    have hz : ((0 : Int) != 0) = false := rfl
    obtain ⟨st0, hst0⟩ : ∃ st0 : Pt.St, st0 = (to0, false) := ⟨_, rfl⟩
    rw [← hst0] at HSt' HOk' HNo'
    have Hst0 := Lib.hid hst0
    clear hst0
    go_enter Try.func20, Try.ntmps20
    go_wp2_with fail
    refine (H0 _).out.mono ?_
    rintro e w' ⟨rfl, rfl⟩
    go_wp2_with fail
    go_loopw [5, 7, 8, 9, 10, 11, 12, 13] (fun vt vo i _ _ _ _ _ wr => ∃ (k : Nat) (to : Int), k ≤ n ∧ i = .int .i64 (k : Int) ∧ vt = .int .i64 to ∧ Hid ((Se.rdK s st0 k).2 = (to, false)) ∧ (-9223372036854775808 ≤ to ∧ to ≤ 9223372036854775807) ∧ Hid (wr.ownsRow w.heap.size 49 4 vo k ((Se.rdK s st0 k).1.flatMap rowCells)) ∧ Hid (Below w.heap.size w wr)) (fun _ _ i _ _ _ _ _ _ => n - (intOf i).toNat)
    case atStart => exact ⟨0, to0, Nat.zero_le _, rfl, rfl, Lib.hid (by show _ = _; rw [Se.rdK]; exact Hst0.out), hst, Lib.hid (own_nil _ _ _ _), Lib.hid (Below.refl _ _)⟩
    case round =>
      obtain ⟨k, to, hk, rfl, rfl, hrel, hto, hown, hbw⟩ := hrel
      have hsw := hbw.out.size
      by_cases hlt : k < n
      · have HStk := Lib.hid (fun j hj a h he => HSt'.out k j hlt hj a h he)
        have hsn := rdK_snoc s st0 k
        have hss := rdK_st s st0 k
        have Hsn := Lib.hid hsn
        have Hss := Lib.hid hss
        clear HSt' HOk' HNo' hsn hss
        generalize (Se.rdK s st0 k).1 = rows at *
        generalize (Se.rdK s st0 k).2 = st at *
        obtain ⟨Wo, hWo⟩ : ∃ Wo, Wo = wr := ⟨_, rfl⟩
        go_wp2_with fail
        have hB0 := Blk.new wr 3 (Se.xsRow [] 0)
        have hb0 : Below wr.heap.size wr (wr.alloc (.cells (Se.xsRow [] 0) 3)) := (Below.refl _ _).alloc (Nat.le_refl _) _
        rw [← hWo] at hB0 hb0 hown hbw hsw ⊢
        have HB0 := Lib.hid hB0
        have Hb0 := Lib.hid hb0
        clear hB0 hb0 hWo wr
        generalize Wo.alloc (.cells (Se.xsRow [] 0) 3) = W1 at *
        go_loopw [5, 10, 11, 12, 13] (fun vt i _ _ _ wr => ∃ (j : Nat) (a : Int), j ≤ 4 ∧ i = .int .i64 (j : Int) ∧ vt = .int .i64 a ∧ Hid ((Se.gk s st j).2 = (a, false)) ∧ (-9223372036854775808 ≤ a ∧ a ≤ 9223372036854775807) ∧ Hid (Blk wr Wo.heap.size 3 (Se.xsRow (Se.gk s st j).1 j)) ∧ Hid (Below Wo.heap.size Wo wr)) (fun _ i _ _ _ _ => 4 - (intOf i).toNat)
        case atStart => exact ⟨0, to, Nat.zero_le _, rfl, rfl, Lib.hid (by show _ = _; rw [Se.gk]; exact hrel.out), hto, HB0, Hb0⟩
        case round =>
          rename_i hrel0
          obtain ⟨j, a, hj, rfl, rfl, hrel, hta, hB, hbx⟩ := hrel
          by_cases hlj : j < 4
          · have hgl := gk_len s st j
            obtain ⟨u, hcj⟩ := xs_at hB.out hgl hlj
            have hfj := hB.out.frozen j
            have H1 := fun W => Lib.hid (rgetNum_any s a W (by omega) hta)
            have hN := getN_bdS s a (by omega)
            have HOj := fun x m h => rdN_okay s a x m h
            have HStj := Lib.hid (fun he => HStk.out j hlj a hrel.out he)
            have Hgl := Lib.hid hgl
            have Hg1 : Hid ((Se.gk s st (j + 1)).1 = (Se.gk s st j).1 ++ [(Se.rdN s (Se.gk s st j).2).1]) := by show _ = _; rw [Se.gk]
            have Hg2 : Hid ((Se.gk s st (j + 1)).2 = Se.rd1 s (Se.gk s st j).2) := by show _ = _; rw [Se.gk]
            rw [hrel.out] at Hg1 Hg2
            clear hgl HStk
            generalize Wr.getN s.data.toList a = Y at *
            obtain ⟨y, a2, e2⟩ := Y
            simp only [gnV] at H1 hN
            obtain ⟨hN1, hN2⟩ := hN
            by_cases he2 : e2 = 0
            · subst he2
              have Hrd := HOj y a2 rfl
              have Hg2' : Hid ((Se.gk s st (j + 1)).2 = (a2, false)) := by show _ = _; rw [Hg2.out]; unfold Se.rd1; rw [Hrd]
              have HBn : Hid (∀ W, Blk W Wo.heap.size 3 ((Se.xsRow (Se.gk s st j).1 j).setIfInBounds j (.int .i64 y)) → Blk W Wo.heap.size 3 (Se.xsRow (Se.gk s st (j + 1)).1 (j + 1))) := by
                intro W h
                rw [xs_set _ j y Hgl.out hlj] at h
                rw [Hg1.out, Hrd]
                exact h
              clear HStj Hrd HOj Hg1 Hg2
              go_wp2_with fail
              refine (H1 _).out.mono ?_
              rintro e w' ⟨rfl, rfl⟩
              go_wp2_with fail
              have HB' := Lib.hid (HBn.out _ (hB.out.set_ j (.int .i64 y)))
              have Hbx' : Hid (Below Wo.heap.size Wo (wr.setCell ⟨Wo.heap.size, j, none⟩ (.int .i64 y))) := hbx.out.setCell (p := ⟨Wo.heap.size, j, none⟩) (Nat.le_refl _) _
              go_roundw
              case rel => exact ⟨j + 1, a2, by omega, by go_num, rfl, Hg2', hN1, HB', Hbx'⟩
              case measure => simp [intOf]; omega
            · have hz2 : (e2 != 0) = true := by simp [he2]
              have HR := Lib.hid (HStj.out he2)
              have Hbf : Hid (Below w.heap.size w wr) := hbw.out.trans (hbx.out.mono hsw)
              clear HStj HOj Hg1 Hg2 he2
              go_wp2_with fail
              refine (H1 _).out.mono ?_
              rintro e w' ⟨rfl, rfl⟩
              go_wp2_with fail
              go_ret2
              exact ⟨_, by rw [HR.out]; rfl, by rw [HR.out]; exact own_nil _ _ _ _, Hbf.out⟩
          · obtain rfl : j = 4 := by omega
            obtain ⟨a0, a1, a2, a3, h4⟩ := four_of _ (gk_len s st 4)
            have hrow := gk_row s st h4
            rw [hrow] at Hsn Hss
            rw [h4] at hB
            simp only at Hsn Hss
            obtain ⟨c0, c1, c2, c3⟩ := xs_four hB.out
            have HownW := Lib.hid (own_only hown.out (Only.new (fun _ => False) hbx.out) (fun _ _ h => h))
            have Hbf : Hid (Below w.heap.size w wr) := hbw.out.trans (hbx.out.mono hsw)
            have hszr := hbx.out.size
            have hsf := Hbf.out.size
            have hne := Ne.symm (show u7.ownBlock ≠ some Wo.heap.size from fun h => by have := (own_lt hown.out h).2; omega)
            have HssF : Hid ((Se.rdK s st0 (k + 1)).2 = (a, false)) := by show _ = _; rw [Hss.out, hrel.out]
            have hgr := hB.out.lt
            generalize Wo.heap.size = G at *
            clear hrow h4 HStk hB hrel Hss
            go_wp2_with fail
            have hm64 : k + 1 ≤ maxLen := by unfold maxLen; omega
            go_region_held3 (fun w' => w'.cell? ⟨G, 0, none⟩ = some (.int .i64 a0) ∧ w'.cell? ⟨G, 1, none⟩ = some (.int .i64 a1) ∧ w'.cell? ⟨G, 2, none⟩ = some (.int .i64 a2) ∧ w'.cell? ⟨G, 3, none⟩ = some (.int .i64 a3))
              (first
                | go_keep
                | (go_split_ands
                   refine ⟨?_, ?_, ?_, ?_⟩
                   · (rw [hgrow.cell_far _ (by simp; omega) hne]; assumption)
                   · (rw [hgrow.cell_far _ (by simp; omega) hne]; assumption)
                   · (rw [hgrow.cell_far _ (by simp; omega) hne]; assumption)
                   · (rw [hgrow.cell_far _ (by simp; omega) hne]; assumption)))
              ((refine step_append_lies _ (by rfl) _ _ _ (by rfl) w.heap.size 49 i0 _ 4 32 Try.underlying22 hi hz0 hz1 hz2 rfl (by omega) u7 k _ (by rfl) ((HownW.out.alloc _).drew)
                  ⟨wr.heap.size, 0, none⟩ 1 1 [.int .i64 a0, .int .i64 a1, .int .i64 a2, .int .i64 a3] (by rfl) (by rfl) (World.news_of_block (cs := #[.int .i64 a0, .int .i64 a1, .int .i64 a2, .int .i64 a3]) (t := 49) (fr := (0, 0)) (heap_alloc_new wr _)) (by simp [Value.oneCell'])
                  (by omega) hm64 (by omega) (by simp; omega) (wr.heap.size + 1) (by simp) ?_; intro gg cap w1 hown1 hgrow hat hlt))
            have hbw1 : Hid (Below w.heap.size w w1) := (((Hbf.out.alloc hsf _).drew).grown hgrow (by simp; omega) (fun j hj => (own_lt HownW.out hj).1))
            have hown2 : Hid (w1.ownsRow w.heap.size 49 4 (.slice (some ⟨gg, 0, none⟩) (k + 1) cap) (k + 1) ((Se.rdK s st0 (k + 1)).1.flatMap rowCells)) := by
              rw [Hsn.out, List.flatMap_append]; exact hown1
            clear hown1 hgrow hat hown hbw
            go_wp2_with fail
            go_roundw
            case rel => exact ⟨k + 1, a, by omega, by go_num, rfl, HssF, hta, hown2, hbw1⟩
            case measure => simp [intOf]; omega
      · obtain rfl : k = n := by omega
        have hlen := rdK_len s st0 k
        have HE := Lib.hid (fun h => HOk'.out (Se.rdK s st0 k).1 h)
        have HN := Lib.hid (fun h => HNo'.out (Se.rdK s st0 k).1 to false (by rw [← hrel.out]) h)
        have Hre : Hid (to = (s.size : Int) → Se.rdK s st0 k = ((Se.rdK s st0 k).1, ((s.size : Int), false))) := by
          intro h; rw [← h, ← hrel.out]
        clear HOk' HNo' HSt' hrel
        generalize (Se.rdK s st0 k).1 = rows at *
        obtain ⟨Aq, cq, rfl, hnq, hrd⟩ := own_slice hown.out
        have HM := Lib.hid (rtable_any Aq cq rows wr wr.heap.size (by rw [hlen]; exact hrd) (by omega))
        rw [hlen] at HM
        have Hlen := Lib.hid hlen
        clear hrd hlen
        by_cases hov : to = (s.size : Int)
        · have hz1 : (to != (s.size : Int)) = false := by simp [hov]
          have HE' := Lib.hid (HE.out (Hre.out hov))
          cases hmay : Se.mayB rows
          · have HR := Lib.hid (HN.out (.inr hmay))
            rw [hmay] at HM
            clear HE HE' HN Hre hov hmay
            go_wp2_with fail
            refine HM.out.mono ?_
            rintro e w9 ⟨rfl, n9, rfl⟩
            go_wp2_with fail
            go_ret2
            exact ⟨_, by rw [HR.out]; rfl, by rw [HR.out]; exact own_nil _ _ _ _, below_drewN hbw.out _⟩
          · have HR := Lib.hid (HE'.out hmay)
            rw [hmay] at HM
            clear HE HE' HN Hre hov hmay
            go_wp2_with fail
            refine HM.out.mono ?_
            rintro e w9 ⟨rfl, n9, rfl⟩
            go_wp2_with fail
            go_ret2
            exact ⟨_, by rw [HR.out]; rfl, by rw [HR.out, Hlen.out]; exact own_drewN hown.out n9, below_drewN hbw.out _⟩
        · have hz1 : (to != (s.size : Int)) = true := by simp [hov]
          have HR := Lib.hid (HN.out (.inl (by simp [hov])))
          clear HE HN Hre hov
          go_wp2_with fail
          go_ret2
          exact ⟨_, by rw [HR.out]; rfl, by rw [HR.out]; exact own_nil _ _ _ _, hbw.out⟩
end Go.Proofs.Ytllbjegnjjeaeaa
