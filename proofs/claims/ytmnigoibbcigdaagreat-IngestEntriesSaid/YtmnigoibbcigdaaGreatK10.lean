/- Joined texts: IgApply, IgBytes, IgLoadP, SePut, IgSnap, IgCopy, IgMx, IgWrite. -/
import Derived.Test.YtmnigoibbcigdaaGreatK4
import Derived.Test.YtmnigoibbcigdaaGreatK6
import Derived.Test.YtmnigoibbcigdaaGreatK7
import Derived.Test.YtmnigoibbcigdaaGreatK8
import Derived.Test.YtmnigoibbcigdaaGreatK9
import Derived.Deep.RegionHeld3
/- The walk through Apply of the machine (chapter 11). -/
namespace Go.Proofs.YtmnigoibbcigdaaGreat
open Go.RowKit
set_option linter.unusedVariables false

def MachPost (w : World) (base g : Nat) (vr vo vd vs : Value) (q : Ig.M × Int × Int) (e : Ending) (w' : World) : Prop :=
  ∃ vr' vo' vd' vs', e = .returned (.tuple #[.int .i64 q.2.1, .int .i64 q.2.2]) ∧ Mach w' base g q.1 vr' vo' vd' vs' ∧ Only (Foot g vr vo vd vs) w w' ∧ (∀ k, Foot g vr' vo' vd' vs' k → Foot g vr vo vd vs k ∨ w.heap.size ≤ k)
theorem putR_small (r : Int) (ps : List Pt.Point) : (Sg.putR r ps).1.size ≤ maxLen := by
  unfold Sg.putR
  split
  · show 0 ≤ maxLen; exact Nat.zero_le _
  · split
    · rename_i hr
      have hl := rise_len hr
      have hm := rise_may hr
      have h1 := textsB_le (xs := Sg.names ps) (names_short hm) (by unfold Sg.names; simp; omega)
      have h2 := intsB_le (xs := Sg.times ps) (times_small hm)
      have h3 := intsB_le (xs := Sg.vals ps) (vals_small hm)
      have h4 := Wr.putL_len r
      have h5 := Wr.putL_len (ps.length : Int)
      have e1 : (Sg.names ps).length = ps.length := by unfold Sg.names; simp
      have e2 : (Sg.times ps).length = ps.length := by unfold Sg.times; simp
      have e3 : (Sg.vals ps).length = ps.length := by unfold Sg.vals; simp
      unfold Sg.fileB Sg.bodyB
      have h7 : ∀ x, (Sg.tailB x).size = 8 := Sg.tailB_size
      have h6 : Sg.mark.size = 4 := rfl
      simp only [ByteArray.size_append, h7, h6, Wr.putB_size]
      unfold maxLen
      omega
    · show 0 ≤ maxLen; exact Nat.zero_le _
theorem apply_full {m : Ig.M} {v c s n : Int} {bs : List Pt.Point} (h : 4096 ≤ m.at_) : Ig.applyM m v c s n bs = (m, -1, 9) := by unfold Ig.applyM; rw [if_pos h]
theorem apply_go {m : Ig.M} {v c s n : Int} {bs : List Pt.Point} (h : ¬ 4096 ≤ m.at_) (h8 : ¬ (m.at_ + 1) % 8 = 0) : Ig.applyM m v c s n bs = Ig.takeM (Ig.up m) v c s n bs := by unfold Ig.applyM; rw [if_neg h, if_neg h8]
theorem apply_seal {m : Ig.M} {v c s n : Int} {bs : List Pt.Point} (h : ¬ 4096 ≤ m.at_) (h8 : (m.at_ + 1) % 8 = 0) : Ig.applyM m v c s n bs = (Ig.sealM (Ig.takeM (Ig.up m) v c s n bs).1, (Ig.takeM (Ig.up m) v c s n bs).2) := by unfold Ig.applyM; rw [if_neg h, if_pos h8]
section
variable {w w' : World} {ops : Array Oper} {o : Oper} {a : Act} {K : Act → World → Prop} {Q : Exit → Act → World → Prop} {E : Prop} {base : Nat} {v : Value}
theorem digs_snoc (ds : List Int) (x : Int) : (ds ++ [x]).flatMap digCells = ds.flatMap digCells ++ [.int .u64 x] := by rw [List.flatMap_append]; simp [digCells]
theorem files_snoc (fs : List (Int × ByteArray)) (r : Int) (s : ByteArray) : (fs ++ [(r, s)]).flatMap fileCells = fs.flatMap fileCells ++ [.int .i64 r, .string s] := by rw [List.flatMap_append]; simp [fileCells]
theorem step_pushD (w : World) (hgd : o.guard = none) (s x : Operand) (ho : o.op = .call { callee := .builtin .append, args := #[s, x], argTypes := #[28, 28] }) (ds : List Int)
    (hR : w.ownsRow base 56 1 v ds.length (ds.flatMap digCells)) (hs : a.eval s = v) (g : Nat) (hx : a.eval x = .slice (some ⟨g, 0, none⟩) 1 1) (d : Int) (hc : w.cell? ⟨g, 0, none⟩ = some (.int .u64 d)) (hn : ds.length ≤ 100000) (hb : base ≤ w.heap.size)
    (h : ∀ gg cap w', w'.ownsRow base 56 1 (.slice (some ⟨gg, 0, none⟩) (ds.length + 1) cap) (ds ++ [d]).length ((ds ++ [d]).flatMap digCells) → w.grownBy w' v.ownBlock → (v.ownBlock = some gg ∨ gg = w.heap.size) → K (a.put o.dst (.slice (some ⟨gg, 0, none⟩) (ds.length + 1) cap)) w') :
    if Region.wanted o (yielded ops a.tmps) = true then Oper.wp Tryz.prog o a w K Q else E := by
  obtain ⟨i0, hi, hz0, hz1, hz2⟩ := info_parts info_cloneD
  refine step_append_lies _ hgd s x _ ho base 56 i0 _ 1 8 Tryz.underlying28 hi hz0 hz1 hz2 rfl (by decide) v ds.length _ hs hR ⟨g, 0, none⟩ 1 1 [.int .u64 d] hx rfl (news_one hc) (by simp [Value.oneCell']) (by omega) (by unfold maxLen; omega) (by omega) hb _ rfl ?_
  intro gg cap w' hown hg hat hlt
  exact h gg cap w' (by rw [digs_snoc, List.length_append]; exact hown) hg hat
end
section
variable {w w' : World} {ops : Array Oper} {o : Oper} {a : Act} {K : Act → World → Prop} {Q : Exit → Act → World → Prop} {E : Prop}
theorem step_hash (w : World) (hgd : o.guard = none) (x : Operand) (t : TypeId) (ho : o.op = .call { callee := .value (.func 21), args := #[x], argTypes := #[t] }) (s : ByteArray) (hx : a.eval x = .string s) (hs : s.size ≤ maxLen) (X : Nat) (hX : Hid (Sm.hashL s.data.toList = X))
    (h : K (a.put o.dst (.int .u64 X)) w) :
    if Region.wanted o (yielded ops a.tmps) = true then Oper.wp Tryz.prog o a w K Q else E := by
  have hw : Region.wanted o (yielded ops a.tmps) = true := by simp [Region.wanted, hgd]
  rw [if_pos hw]
  unfold Oper.wp execOp
  simp only [ho, resolve, List.map_toArray, List.map_cons, List.map_nil, hx, BigFrame.eval_func]
  go_simp
  refine (hash_any s w hs).mono ?_
  rintro e w' ⟨rfl, rfl⟩
  rw [hX.out]
  exact h
end
theorem foot_down {w w1 : World} {g : Nat} {vr vo vd vs : Value} {P : Nat → Prop} (h : ∀ k, P k → Foot g vr vo vd vs k ∨ w1.heap.size ≤ k) (hs : w.heap.size ≤ w1.heap.size) : ∀ k, P k → Foot g vr vo vd vs k ∨ w.heap.size ≤ k := fun k hk => by
  rcases h k hk with q | q
  · exact .inl q
  · exact .inr (Nat.le_trans hs q)
section
variable {w : World} {base g : Nat} {m : Ig.M} {vr vo vd vs : Value}
set_option maxRecDepth 100000 in
set_option maxHeartbeats 2000000 in
theorem apply_mach (h : Mach w base g m vr vo vd vs) (hI : Ig.Inv m) (v c s n : Int) (A : Option Addr) (d : Nat) (bs : List Pt.Point) (hr : Reads w w.heap.size 3 A bs.length (bs.flatMap pointCells)) (hne : 0 < bs.length → ∀ b off, A = some ⟨b, off, none⟩ → ¬ Foot g vr vo vd vs b) (hwf : ∀ p ∈ bs, Pt.wf p) (hn : bs.length ≤ 140737488355328) (hbase : base ≤ w.heap.size) :
    Calls Tryz.prog 6 #[.pointer (some ⟨g, 0, none⟩), .agg #[.int .i64 v, .int .i64 c, .int .i64 s, .int .i64 n, .slice A bs.length d]] w (MachPost w base g vr vo vd vs (Ig.applyM m v c s n bs)) := by
  have HM := Lib.hid h
  have hat0 := hI.at0
  have hat1 := hI.at1
  have hgw := h.blk.lt
  have hgne : ¬ w.heap.size = g := by omega
  have hE := Blk.new w 36 #[.int .i64 v, .int .i64 c, .int .i64 s, .int .i64 n, .slice A bs.length d]
  have hb1 : Below w.heap.size w (w.alloc (.cells #[.int .i64 v, .int .i64 c, .int .i64 s, .int .i64 n, .slice A bs.length d] 36)) := (Below.refl _ _).alloc (Nat.le_refl _) _
  have HM1 := Lib.hid (h.below hb1)
  have m0 := h.cells.1
  have m0' := HM1.out.cells.1
  have f0' := HM1.out.blk.frozen 0
  by_cases hfull : 4096 ≤ m.at_
  · have HA := Lib.hid (@apply_full m v c s n bs hfull)
    have Hb1 := Lib.hid hb1
    clear hr hne hwf hE h hI hb1 HM1
    generalize Ig.applyM m v c s n bs = res at *
    go_enter Tryz.func6, Tryz.ntmps6
    go_wp2_with fail
    go_ret2
    exact ⟨_, _, _, _, by rw [HA.out]; rfl, by rw [HA.out]; exact HM.out.below Hb1.out, Only.new _ Hb1.out, fun k hk => .inl hk⟩
  · have HA : Hid (Ig.applyM m v c s n bs = if (m.at_ + 1) % 8 = 0 then (Ig.sealM (Ig.takeM (Ig.up m) v c s n bs).1, (Ig.takeM (Ig.up m) v c s n bs).2) else Ig.takeM (Ig.up m) v c s n bs) := by
      show _ = _
      split
      · rename_i h8; exact apply_seal hfull h8
      · rename_i h8; exact apply_go hfull h8
    have Hmid := Lib.hid (Ig.mid_take hI hfull v c s n bs)
    have Hat := Lib.hid (Ig.take_at (Ig.up m) v c s n bs)
    have hMs := HM.out.setAt (m.at_ + 1)
    have hss : (w.setCell ⟨g, 0, none⟩ (.int .i64 (m.at_ + 1))).heap.size = w.heap.size := by simp [World.setCell]
    have hbs : Below (w.setCell ⟨g, 0, none⟩ (.int .i64 (m.at_ + 1))).heap.size (w.setCell ⟨g, 0, none⟩ (.int .i64 (m.at_ + 1))) ((w.setCell ⟨g, 0, none⟩ (.int .i64 (m.at_ + 1))).alloc (.cells #[.int .i64 v, .int .i64 c, .int .i64 s, .int .i64 n, .slice A bs.length d] 36)) := (Below.refl _ _).alloc (Nat.le_refl _) _
    have HMu := Lib.hid (hMs.below hbs)
    have HEu := Lib.hid (Blk.new (w.setCell ⟨g, 0, none⟩ (.int .i64 (m.at_ + 1))) 36 #[.int .i64 v, .int .i64 c, .int .i64 s, .int .i64 n, .slice A bs.length d])
    rw [hss] at HEu
    have HO1 : Hid (Only (Foot g vr vo vd vs) w ((w.setCell ⟨g, 0, none⟩ (.int .i64 (m.at_ + 1))).alloc (.cells #[.int .i64 v, .int .i64 c, .int .i64 s, .int .i64 n, .slice A bs.length d] 36))) := ((Only.refl _ w).setCell (p := ⟨g, 0, none⟩) (fun _ => .inl rfl) _).alloc _
    have e0 := HEu.out.cell 0
    have e1 := HEu.out.cell 1
    have e2 := HEu.out.cell 2
    have e3 := HEu.out.cell 3
    have e4 := HEu.out.cell 4
    simp only [List.getElem?_toArray, List.getElem?_cons_zero, List.getElem?_cons_succ] at e0 e1 e2 e3 e4
    have hsz : ((w.setCell ⟨g, 0, none⟩ (.int .i64 (m.at_ + 1))).alloc (.cells #[.int .i64 v, .int .i64 c, .int .i64 s, .int .i64 n, .slice A bs.length d] 36)).heap.size = w.heap.size + 1 := by simp [World.setCell]
    have hrd1 : Reads ((w.setCell ⟨g, 0, none⟩ (.int .i64 (m.at_ + 1))).alloc (.cells #[.int .i64 v, .int .i64 c, .int .i64 s, .int .i64 n, .slice A bs.length d] 36)) (w.heap.size + 1) 3 A bs.length (bs.flatMap pointCells) := ((reads_far hr (fun h0 b off e q => hne h0 b off e (.inl q))).below (hbs.mono (by omega))).more (by omega)
    have hI2 := Ig.mid_up hI hfull
    have HT := Lib.hid (take_any (m := Ig.up m) HMu.out v c s n A d bs (by rw [hsz]; exact hrd1) hne hwf hn hI2.sorted (by have := hI2.many; omega) (by have := Se.may_len hI2.rows; omega) (by rw [hsz]; omega))
    clear hr hne hwf hE h hI hb1 HM1 hrd1 hsz hI2 HEu HMu hMs hbs hss
    generalize Ig.applyM m v c s n bs = res at *
    generalize Ig.takeM (Ig.up m) v c s n bs = q at *
    obtain ⟨⟨at2, R2, O2, D2, F2⟩, rs2, cd2⟩ := q
    have hat2 : at2 = m.at_ + 1 := Hat.out
    subst hat2
    clear Hat
    go_enter Tryz.func6, Tryz.ntmps6
    go_wp2_with fail
    refine HT.out.mono ?_
    rintro e w2 ⟨vr2, vo2, rfl, hM2, ho2, hf2⟩
    clear HT e0 e1 e2 e3 e4 m0 m0' f0'
    generalize hw1 : (w.setCell ⟨g, 0, none⟩ (.int .i64 (m.at_ + 1))).alloc (.cells #[.int .i64 v, .int .i64 c, .int .i64 s, .int .i64 n, .slice A bs.length d] 36) = w1 at *
    clear hw1
    have HM2 := Lib.hid hM2
    have HO2 : Hid (Only (Foot g vr vo vd vs) w w2) := HO1.out.trans ho2 (fun _ _ h => h)
    have HF2 : Hid (∀ k, Foot g vr2 vo2 vd vs k → Foot g vr vo vd vs k ∨ w.heap.size ≤ k) := foot_down hf2 HO1.out.size
    have hs2 := HO2.out.size
    clear hM2 ho2 hf2 HO1 w1
    have hmid := Hmid.out
    have hb1 := hmid.at0
    have hb2 := hmid.at1
    have hl2 := Ig.mid_len hmid
    have hdl := hmid.dl
    have hsl := hmid.sl
    have Hpts := Lib.hid hmid.pts
    clear hmid Hmid hat0 hat1
    simp only at hb1 hb2 hl2 hdl hsl Hpts
    generalize m.at_ + 1 = a1 at *
    have hdl' : D2.length ≤ 512 := by omega
    have hsl' : F2.length ≤ 512 := by omega
    clear hdl hsl
    obtain ⟨c0, c1, c2, c3, c4⟩ := HM2.out.cells
    simp only at c0
    by_cases h8 : a1 % 8 = 0
    · have HA2 : Hid (res = (Ig.sealM ⟨a1, R2, O2, D2, F2⟩, rs2, cd2)) := by show _ = _; rw [HA.out, if_pos h8]
      have h8b : (a1 % 8 == 0) = true := by rw [beq_iff_eq]; exact h8
      clear h8 HA
      obtain ⟨Ao, co, rfl, hnco, hro⟩ := own_slice HM2.out.opn
      have HP := fun W (hb : Below w2.heap.size w2 W) => Lib.hid (sgput_any (a1 / 8) Ao co O2 W w2.heap.size (hro.below hb) hb.size (by omega) (fun p hp => Ig.wf_of (Hpts.out p hp)))
      have hq0 : 0 ≤ a1 / 8 := by omega
      have hq1 : a1 / 8 ≤ 512 := by omega
      clear hro Hpts
      go_wp2_with fail
      refine (HP _ (Below.refl _ _)).out.mono ?_
      rintro e w3 ⟨rfl, hb3⟩
      have HM3 := Lib.hid (HM2.out.below hb3)
      have HO3 : Hid (Only (Foot g vr vo vd vs) w w3) := HO2.out.trans (Only.new (fun _ => False) hb3) (fun _ _ h => absurd h id)
      have hs3 := hb3.size
      clear hb3 HP HO2 HM2 c0 c1 c2 c3 c4
      have HA3 : Hid (res = (⟨a1, R2, [], D2 ++ [(Sm.hashL (Sg.putR (a1 / 8) O2).1.data.toList : Int)], F2 ++ [(a1 / 8, (Sg.putR (a1 / 8) O2).1)]⟩, rs2, cd2)) := HA2.out
      have hSz : (Sg.putR (a1 / 8) O2).1.size ≤ maxLen := putR_small _ _
      clear HA2
      generalize Sg.putR (a1 / 8) O2 = pr at *
      obtain ⟨S, er⟩ := pr
      simp only at HA3 hSz
      obtain ⟨c0, c1, c2, c3, c4⟩ := HM3.out.cells
      simp only at c0
      have f2 := HM3.out.blk.frozen 2
      have HM4 := Lib.hid (HM3.out.setOpen (P := []) (Only.refl _ _) (own_nil w3 base 66 3))
      have HO4 : Hid (Only (Foot g vr vo vd vs) w (w3.setCell ⟨g, 2, none⟩ (.slice none 0 0))) := HO3.out.setCell (p := ⟨g, 2, none⟩) (fun _ => .inl rfl) _
      have HF4 : Hid (∀ k, Foot g vr2 (.slice none 0 0) vd vs k → Foot g vr vo vd vs k ∨ w.heap.size ≤ k) := fun k hk => by
        rcases hk with q | q | q | q | q
        · exact HF2.out k (.inl q)
        · exact HF2.out k (.inr (.inl q))
        · simp [Value.ownBlock] at q
        · exact HF2.out k (.inr (.inr (.inr (.inl q))))
        · exact HF2.out k (.inr (.inr (.inr (.inr q))))
      have hs4 : w.heap.size ≤ (w3.setCell ⟨g, 2, none⟩ (.slice none 0 0)).heap.size := by simp [World.setCell]; omega
      obtain ⟨p0, p1, p2, p3, p4⟩ := HM4.out.cells
      simp only at p0
      have fr3 := HM4.out.blk.frozen 3
      have HH := fun W => Lib.hid (hash_any S W hSz)
      obtain ⟨i1, hi1, hy0, hy1, hy2⟩ := info_parts info_cloneF
      clear HO3 HM3 HF2
      go_wp2_with fail
      clear c0 c1 c2 c3 c4 f2
      generalize hw4 : w3.setCell ⟨g, 2, none⟩ (.slice none 0 0) = w4 at *
      clear hw4
      have HXlt := Lib.hid (Sm.hashL_lt S.data.toList)
      generalize hX : Sm.hashL S.data.toList = X at *
      have HX := Lib.hid hX
      clear hX
      have hvd : Hid (∀ k, vd.ownBlock = some k → k < w4.heap.size ∧ k ≠ g) := fun k hk => ⟨(own_lt HM4.out.digs hk).2, HM4.out.apart HM4.out.digs (by decide) k hk⟩
      have hg4 : g < w4.heap.size := HM4.out.blk.lt
      have hba4 : base ≤ w4.heap.size := by omega
      have hD4 : Hid (w4.ownsRow base 56 1 vd D2.length (D2.flatMap digCells)) := HM4.out.digs
      have p3d : w4.drew.cell? ⟨g, 3, none⟩ = some vd := p3
      go_region_law (first
        | (refine step_hash (o := ⟨some 62, _, _, _, _, _⟩) _ rfl (.tmp 61) _ (by rfl) S (by rfl) hSz X HX ?_)
        | (refine step_pushD (o := ⟨some 64, _, _, _, _, _⟩) (base := base) (v := vd) _ rfl (.tmp 60) (.tmp 63) (by rfl) D2 (by exact ((Hid.out hD4).alloc _).drew) (by rfl) w4.heap.size (by rfl) (X : Int) (by exact (drew_cell _ _).trans (cell_new_at _ _ (by first | rfl | simp) _ _)) (by omega) (by first | omega | (simp; omega)) ?_; intro gg cap w5 hown5 hgr hat5; have hm5 := ((HM4.out.blk.alloc _).drew).grown hgr (fun e => absurd rfl (hvd.out g e.symm).2); have fr5 := hm5.frozen 3; have t35 := hm5.cell 3; have Hm5 := Lib.hid hm5; clear hm5))
      all_goals
        have ho45 : Only (fun k => vd.ownBlock = some k) w4 w5 := (((Only.refl _ w4).alloc _).drew).trans (Only.of_grown (S := fun k => vd.ownBlock = some k) hgr (fun k hk _ => hk)) (fun _ _ h => h)
        have HM6 := Lib.hid (HM4.out.setDigs ho45 hown5)
        have HO6 : Hid (Only (Foot g vr vo vd vs) w (w5.setCell ⟨g, 3, none⟩ (.slice (some ⟨gg, 0, none⟩) (D2.length + 1) cap))) := (HO4.out.trans ho45 (fun j _ q => .inr (.inr (.inr (.inl q))))).setCell (p := ⟨g, 3, none⟩) (fun _ => .inl rfl) _
        have HF6 : Hid (∀ k, Foot g vr2 (.slice none 0 0) (.slice (some ⟨gg, 0, none⟩) (D2.length + 1) cap) vs k → Foot g vr vo vd vs k ∨ w.heap.size ≤ k) := fun k hk => by
          rcases hk with q | q | q | q | q
          · exact HF4.out k (.inl q)
          · exact HF4.out k (.inr (.inl q))
          · exact HF4.out k (.inr (.inr (.inl q)))
          · rcases hat5 with z | z
            · exact HF4.out k (.inr (.inr (.inr (.inl (z.trans (by rw [← q]; rfl))))))
            · have : gg = k := by simpa [Value.ownBlock] using q
              right; rw [← this, z]; simp [World.drew]; omega
          · exact HF4.out k (.inr (.inr (.inr (.inr q))))
        have hs6 : w.heap.size ≤ (w5.setCell ⟨g, 3, none⟩ (.slice (some ⟨gg, 0, none⟩) (D2.length + 1) cap)).heap.size := HO6.out.size
        clear ho45 hown5 hgr hat5 fr5 t35 Hm5 HM4 HO4 HF4 p0 p1 p2 p3 p4 fr3 HH HX hvd hg4 hD4 p3d hs4 hba4
        generalize w5.setCell ⟨g, 3, none⟩ (.slice (some ⟨gg, 0, none⟩) (D2.length + 1) cap) = w6 at *
        obtain ⟨p0, p1, p2, p3, p4⟩ := HM6.out.cells
        have f4 := HM6.out.blk.frozen 4
        have hba6 : base ≤ w6.heap.size := by omega
        have hS6 : Hid (w6.ownsRow base 59 2 vs F2.length (F2.flatMap fileCells)) := HM6.out.seals
        go_wp2_with (at_builtin; refine wpList_push_only w6 rfl _ _ 29 rfl base 59 i1 _ 2 24 Tryz.underlying29 hi1 hy0 hy1 hy2 rfl (by decide) _ F2.length _ (by rfl) hS6.out [.int .i64 (a1 / 8), .string S] (by rfl) rfl (by simp [Value.oneCell']) (by unfold maxLen; omega) (by omega) hba6 ?_; intro v7 w7 hown7 ho7 hg7; obtain ⟨A7, c7, rfl, hnc7, _⟩ := own_slice hown7; have hm7 := HM6.out.blk.only ho7 (fun q => HM6.out.apart HM6.out.seals (by decide) g q rfl); have t4 := hm7.cell 4; have f47 := hm7.frozen 4)
        have HM8 := Lib.hid (HM6.out.setSeals ho7 (F := F2 ++ [(a1 / 8, S)]) (by rw [files_snoc, List.length_append]; exact hown7))
        have HO8 : Hid (Only (Foot g vr vo vd vs) w (w7.setCell ⟨g, 4, none⟩ (.slice A7 (F2.length + 1) c7))) := (HO6.out.trans ho7 (fun j _ q => .inr (.inr (.inr (.inr q))))).setCell (p := ⟨g, 4, none⟩) (fun _ => .inl rfl) _
        have HF8 : Hid (∀ k, Foot g vr2 (.slice none 0 0) (.slice (some ⟨gg, 0, none⟩) (D2.length + 1) cap) (.slice A7 (F2.length + 1) c7) k → Foot g vr vo vd vs k ∨ w.heap.size ≤ k) := fun k hk => by
          rcases hk with q | q | q | q | q
          · exact HF6.out k (.inl q)
          · exact HF6.out k (.inr (.inl q))
          · exact HF6.out k (.inr (.inr (.inl q)))
          · exact HF6.out k (.inr (.inr (.inr (.inl q))))
          · rcases hg7 k q with z | z
            · exact HF6.out k (.inr (.inr (.inr (.inr z))))
            · exact .inr (Nat.le_trans hs6 z)
        go_ret2
        exact ⟨_, _, _, _, by rw [HA3.out]; rfl, by rw [HA3.out]; exact HM8.out, HO8.out, HF8.out⟩
    · have HA2 : Hid (res = (⟨a1, R2, O2, D2, F2⟩, rs2, cd2)) := by show _ = _; rw [HA.out, if_neg h8]
      have h8b : (a1 % 8 == 0) = false := by rw [beq_eq_false_iff_ne]; exact h8
      clear h8 HA
      go_wp2_with fail
      go_ret2
      exact ⟨_, _, _, _, by rw [HA2.out]; rfl, by rw [HA2.out]; exact HM2.out, HO2.out, HF2.out⟩
end
end Go.Proofs.YtmnigoibbcigdaaGreat
/- Eight bytes out of a reader: plain, and the walk through wire.Reader's Bytes (chapter 11). -/
namespace Go.Proofs.YtmnigoibbcigdaaGreat
open Go.RowKit
set_option linter.unusedVariables false

/-- the number that bytes are, the highest first -/
def Ig.num8 (l : List UInt8) : Nat := l.foldl (fun x c => 256 * x + c.toNat) 0
def Ig.rdBytes (s : ByteArray) (st : Pt.St) : ByteArray × Pt.St := if st.2 = true ∨ (s.size : Int) - st.1 < 8 then (⟨#[]⟩, (st.1, true)) else (s.extract st.1.toNat (st.1.toNat + 8), (st.1 + 8, false))
theorem Ig.bytes_no {s : ByteArray} {a : Int} {b : Bool} (h : b = true ∨ (s.size : Int) - a < 8) : Ig.rdBytes s (a, b) = (⟨#[]⟩, (a, true)) := by unfold Ig.rdBytes; rw [if_pos h]
theorem Ig.bytes_yes {s : ByteArray} {j : Nat} (h : ¬ (s.size : Int) - (j : Int) < 8) : Ig.rdBytes s ((j : Int), false) = (s.extract j (j + 8), ((j : Int) + 8, false)) := by unfold Ig.rdBytes; rw [if_neg (by simp; omega)]; rfl
set_option maxRecDepth 100000 in
set_option maxHeartbeats 800000 in
theorem readerBytes_any (s : ByteArray) (j : Nat) (bad : Bool) (w : World) (g : Nat) (hR : RdAt w g s ((j : Int), bad)) (hs : s.size ≤ 4611686018427387904) (hj : j ≤ s.size) :
    Calls Tryz.prog 58 #[.pointer (some ⟨g, 0, none⟩), .int .i64 8] w (RdPost g s w (.string (Ig.rdBytes s ((j : Int), bad)).1) (Ig.rdBytes s ((j : Int), bad)).2) := by
  have hc0 := hR.cell0
  have hc1 := hR.cell1
  have hc2 := hR.cell2
  have hf1 := hR.frozen 1
  have hf2 := hR.frozen 2
  simp only at hc1 hc2
  have HR := Lib.hid hR
  have HNo := Lib.hid (@Ig.bytes_no s (j : Int) bad)
  have HYes := Lib.hid (@Ig.bytes_yes s j)
  clear hR
  cases bad
  · by_cases h8 : (s.size : Int) - (j : Int) < 8
    · have Hres := Lib.hid (HNo.out (.inr h8))
      clear HNo HYes
      generalize Ig.rdBytes s ((j : Int), false) = res at *
      have h8' : decide ((s.size : Int) - (j : Int) < 8) = true := decide_eq_true h8
      clear h8
      go_enter Tryz.func58, Tryz.ntmps58
      go_wp2_with fail
      go_quiet (fail)
      go_wp2_with fail
      go_ret
      exact ⟨by rw [Hres.out]; rfl, by rw [Hres.out]; exact (rd_stop HR.out nq).1, (rd_stop HR.out nq).2⟩
    · have Hres := Lib.hid (HYes.out h8)
      clear HNo HYes
      generalize Ig.rdBytes s ((j : Int), false) = res at *
      have h8' : decide ((s.size : Int) - (j : Int) < 8) = false := decide_eq_false h8
      have h8n : j + 8 ≤ s.size := by omega
      have hRn := fun n => (rd_go HR.out n ((j : Int) + 8)).1
      have d0 := fun n => (hRn n).cell0
      have d1 := fun n => (hRn n).cell1
      simp only at d1
      have w1 : IntKind.i64.wrap ((j : Int) + 8 - 8) = (j : Int) := by rw [show (j : Int) + 8 - 8 = (j : Int) from by omega]; exact IntWalk.i64_in _ (by omega)
      have e1 : (0 : Int) ≤ (j : Int) := by omega
      have e2 : (j : Int) ≤ (j : Int) + 8 := by omega
      have e3 : (j : Int) + 8 ≤ (s.size : Int) := by omega
      clear h8
      go_enter Tryz.func58, Tryz.ntmps58
      go_wp2_with fail
      go_quiet (fail)
      go_wp2_with fail
      go_quiet (fail)
      go_wp2_with fail
      go_ret
      rename_i n1
      exact ⟨by rw [Hres.out]; rfl, by rw [Hres.out]; exact (hRn n1).drewN nq, (rd_go HR.out n1 ((j : Int) + 8)).2.drewN nq⟩
  · have Hres := Lib.hid (HNo.out (.inl rfl))
    clear HNo HYes
    generalize Ig.rdBytes s ((j : Int), true) = res at *
    go_enter Tryz.func58, Tryz.ntmps58
    go_wp2_with fail
    go_quiet (fail)
    go_wp2_with fail
    go_ret
    exact ⟨by rw [Hres.out]; rfl, by rw [Hres.out]; exact (rd_stop HR.out nq).1, (rd_stop HR.out nq).2⟩
end Go.Proofs.YtmnigoibbcigdaaGreat
/- A machine's text, written and read: plain (chapter 11). No walk in sight. -/
namespace Go.Proofs.YtmnigoibbcigdaaGreat
open Go.RowKit
set_option linter.unusedVariables false

def Ig.rdDigs (s : ByteArray) (st : Pt.St) : Nat → List Int × Pt.St
  | 0 => ([], st)
  | k + 1 => ((Ig.rdDigs s st k).1 ++ [(Ig.num8 (Ig.rdBytes s (Ig.rdDigs s st k).2).1.data.toList : Int)], (Ig.rdBytes s (Ig.rdDigs s st k).2).2)
/-- what Load reads: none where the text is no machine's -/
def Ig.loadR (s : ByteArray) : Option Ig.M :=
  if (Pt.rdNum s 0 512 (Pt.rdText s 65536 (Pt.rdNum s 0 4096 (0, false)).2).2).1 ≠ (Pt.rdNum s 0 4096 (0, false)).1 / 8 ∨ (Pt.rdNum s 0 4096 (0, false)).1 % 8 ≠ 0 ∨ (Pt.rdNum s 0 512 (Pt.rdText s 65536 (Pt.rdNum s 0 4096 (0, false)).2).2).2.2 = true ∨ (Se.getR (Pt.rdText s 65536 (Pt.rdNum s 0 4096 (0, false)).2).1).2 ≠ 0 then none
  else if (Ig.rdDigs s (Pt.rdNum s 0 512 (Pt.rdText s 65536 (Pt.rdNum s 0 4096 (0, false)).2).2).2 ((Pt.rdNum s 0 4096 (0, false)).1 / 8).toNat).2 = ((s.size : Int), false) then
    some ⟨(Pt.rdNum s 0 4096 (0, false)).1, (Se.getR (Pt.rdText s 65536 (Pt.rdNum s 0 4096 (0, false)).2).1).1, [], (Ig.rdDigs s (Pt.rdNum s 0 512 (Pt.rdText s 65536 (Pt.rdNum s 0 4096 (0, false)).2).2).2 ((Pt.rdNum s 0 4096 (0, false)).1 / 8).toNat).1, []⟩
  else none
section
variable {s t : ByteArray} {at_ k e : Int} {st1 st2 st3 : Pt.St} {rows : List Se.Row}
theorem Ig.load_no (h1 : Pt.rdNum s 0 4096 (0, false) = (at_, st1)) (h2 : Pt.rdText s 65536 st1 = (t, st2)) (h3 : Se.getR t = (rows, e)) (h4 : Pt.rdNum s 0 512 st2 = (k, st3)) (h : k ≠ at_ / 8 ∨ at_ % 8 ≠ 0 ∨ st3.2 = true ∨ e ≠ 0) : Ig.loadR s = none := by
  unfold Ig.loadR; rw [h1]; simp only; rw [h2]; simp only; rw [h3]; simp only; rw [h4]; simp only; rw [if_pos h]
theorem Ig.load_over (h1 : Pt.rdNum s 0 4096 (0, false) = (at_, st1)) (h2 : Pt.rdText s 65536 st1 = (t, st2)) (h3 : Se.getR t = (rows, e)) (h4 : Pt.rdNum s 0 512 st2 = (k, st3)) (h5 : (Ig.rdDigs s st3 (at_ / 8).toNat).2 ≠ ((s.size : Int), false)) : Ig.loadR s = none := by
  unfold Ig.loadR; rw [h1]; simp only; rw [h2]; simp only; rw [h3]; simp only; rw [h4]; simp only
  split
  · rfl
  · first | rfl | rw [if_neg h5]
theorem Ig.load_yes (h1 : Pt.rdNum s 0 4096 (0, false) = (at_, st1)) (h2 : Pt.rdText s 65536 st1 = (t, st2)) (h3 : Se.getR t = (rows, e)) (h4 : Pt.rdNum s 0 512 st2 = (k, st3)) (h : ¬ (k ≠ at_ / 8 ∨ at_ % 8 ≠ 0 ∨ st3.2 = true ∨ e ≠ 0)) (h5 : (Ig.rdDigs s st3 (at_ / 8).toNat).2 = ((s.size : Int), false)) : Ig.loadR s = some ⟨at_, rows, [], (Ig.rdDigs s st3 (at_ / 8).toNat).1, []⟩ := by
  unfold Ig.loadR; rw [h1]; simp only; rw [h2]; simp only; rw [h3]; simp only; rw [h4]; simp only; rw [if_neg h, if_pos h5]
end
/-- a reader's place stays within its text -/
def Ig.In (s : ByteArray) (st : Pt.St) : Prop := ∃ j : Nat, j ≤ s.size ∧ st.1 = (j : Int)
theorem Ig.in_num {s : ByteArray} {st : Pt.St} (lo hi : Int) (h : Ig.In s st) : Ig.In s (Pt.rdNum s lo hi st).2 := by
  obtain ⟨j, hj, he⟩ := h
  obtain ⟨a, b⟩ := st
  simp only at he
  subst he
  unfold Pt.rdNum
  split
  · exact ⟨j, hj, rfl⟩
  · rename_i hc
    rcases Wr.getN_cases s.data.toList (j : Int) with ⟨e, he, h2⟩ | ⟨x, a, k, h1, h2, _, _, h5, _⟩
    · exact absurd (.inl (by rw [he]; simp only; omega)) hc
    · refine ⟨a + k, by simpa using h5, by simp only [h2]⟩
theorem Ig.in_text {s : ByteArray} {st : Pt.St} (most : Int) (h : Ig.In s st) : Ig.In s (Pt.rdText s most st).2 := by
  obtain ⟨j, hj, he⟩ := h
  obtain ⟨a, b⟩ := st
  simp only at he
  subst he
  have hg := Pt.getT_at s (j : Int) most
  unfold Pt.rdText
  split
  · exact ⟨j, hj, rfl⟩
  · exact ⟨(Wr.getT s (j : Int) most).2.1.toNat, by omega, by simp only; omega⟩
theorem Ig.in_bytes {s : ByteArray} {st : Pt.St} (h : Ig.In s st) : Ig.In s (Ig.rdBytes s st).2 := by
  obtain ⟨j, hj, he⟩ := h
  obtain ⟨a, b⟩ := st
  simp only at he
  subst he
  unfold Ig.rdBytes
  split
  · exact ⟨j, hj, rfl⟩
  · rename_i hc
    simp only [not_or, Bool.not_eq_true] at hc
    exact ⟨j + 8, by omega, by simp only; omega⟩
theorem Ig.in_digs {s : ByteArray} {st : Pt.St} (h : Ig.In s st) (k : Nat) : Ig.In s (Ig.rdDigs s st k).2 := by
  induction k with
  | zero => exact h
  | succ k ih => rw [Ig.rdDigs]; exact Ig.in_bytes ih
theorem Ig.digs_len (s : ByteArray) (st : Pt.St) (k : Nat) : (Ig.rdDigs s st k).1.length = k := by
  induction k with
  | zero => rfl
  | succ k ih => rw [Ig.rdDigs, List.length_append, ih]; rfl
theorem Ig.bytes_size (s : ByteArray) (st : Pt.St) : (Ig.rdBytes s st).1.size ≤ 8 := by
  unfold Ig.rdBytes
  split
  · show 0 ≤ 8; omega
  · rw [ByteArray.size_extract]; omega
theorem Ig.num8_lt (l : List UInt8) : Ig.num8 l < 256 ^ l.length := by
  unfold Ig.num8
  have h : ∀ (l : List UInt8) (x n : Nat), x < 256 ^ n → l.foldl (fun x c => 256 * x + c.toNat) x < 256 ^ (n + l.length) := by
    intro l
    induction l with
    | nil => intro x n h; simpa using h
    | cons c l ih =>
      intro x n h
      have hc := c.toNat_lt
      have := ih (256 * x + c.toNat) (n + 1) (by rw [Nat.pow_succ]; omega)
      simp only [List.foldl_cons, List.length_cons]
      rw [show n + (l.length + 1) = n + 1 + l.length from by omega]
      exact this
  have := h l 0 0 (by simp)
  simpa using this
theorem Ig.num8_lt8 {l : List UInt8} (h : l.length ≤ 8) : Ig.num8 l < 18446744073709551616 := by
  have h1 := Ig.num8_lt l
  have h2 : 256 ^ l.length ≤ 256 ^ 8 := Nat.pow_le_pow_right (by omega) h
  have h3 : (256 : Nat) ^ 8 = 18446744073709551616 := by decide
  omega
theorem Ig.num8_snoc (l : List UInt8) (c : UInt8) : Ig.num8 (l ++ [c]) = 256 * Ig.num8 l + c.toNat := by unfold Ig.num8; rw [List.foldl_append]; rfl
/-- x << 8 | uint64(b) -/
theorem Ig.num8_step (x : Nat) (c : UInt8) (h : 256 * x + c.toNat < 18446744073709551616) : bits .or .u64 (IntKind.u64.wrap ((x : Int) * 256)) (IntKind.u64.wrap (c.toNat : Int)) = ((256 * x + c.toNat : Nat) : Int) := by
  have hc := c.toNat_lt
  rw [show (x : Int) * 256 = ((256 * x : Nat) : Int) from by omega, IntWalk.u64_in _ ⟨by omega, by omega⟩, Sm.byte_u64, u64_or_nat _ _ (by omega) (by omega)]
  congr 1
  rw [nat_join 8 _ _ (by omega) (by omega)]
end Go.Proofs.YtmnigoibbcigdaaGreat
/- The walks through session.Put and session.Ask (chapter 10). -/
namespace Go.Proofs.YtmnigoibbcigdaaGreat
open Go.RowKit
set_option linter.unusedVariables false

def Se.fld (r : Se.Row) (j : Nat) : Int := [r.1, r.2.1, r.2.2.1, r.2.2.2].getD j 0
def Se.partL (r : Se.Row) (j : Nat) : List UInt8 := (List.range j).flatMap fun i => Wr.putL (Se.fld r i)
theorem part_four (r : Se.Row) : Se.partL r 4 = Se.rowL r := by
  simp [Se.partL, Se.rowL, List.range, List.range.loop, Se.fld]
theorem part_step (r : Se.Row) (j : Nat) : Se.partL r (j + 1) = Se.partL r j ++ Wr.putL (Se.fld r j) := by
  unfold Se.partL; rw [List.range_succ, List.flatMap_append]; simp
theorem fits_fld {r : Se.Row} (h : ∀ j, j < 4 → Wr.isNum (Se.fld r j) = true) : Se.fitsB r = true := by
  have h0 := h 0 (by omega); have h1 := h 1 (by omega); have h2 := h 2 (by omega); have h3 := h 3 (by omega)
  unfold Se.fld at h0 h1 h2 h3
  simp only [List.getD_eq_getElem?_getD, List.getElem?_cons_zero, List.getElem?_cons_succ, Option.getD_some] at h0 h1 h2 h3
  unfold Se.fitsB; rw [h0, h1, h2, h3]; rfl
theorem fits_not {r : Se.Row} {j : Nat} (hj : j < 4) (h : Wr.isNum (Se.fld r j) = false) : Se.fitsB r = false := by
  unfold Se.fitsB
  unfold Se.fld at h
  obtain rfl | rfl | rfl | rfl : j = 0 ∨ j = 1 ∨ j = 2 ∨ j = 3 := by omega
  all_goals
    simp only [List.getD_eq_getElem?_getD, List.getElem?_cons_zero, List.getElem?_cons_succ, Option.getD_some] at h
    rw [h]; simp
theorem se_all_stop {ps : List Se.Row} {k : Nat} (hk : k < ps.length) (h : Se.fitsB ps[k] = false) : ps.all Se.fitsB = false := by
  rw [List.all_eq_false]; exact ⟨ps[k], List.getElem_mem _, by rw [h]; simp⟩
theorem se_all_step {ps : List Se.Row} {k : Nat} (hk : k < ps.length) (ha : (ps.take k).all Se.fitsB = true) (h : Se.fitsB ps[k] = true) : (ps.take (k + 1)).all Se.fitsB = true := by
  rw [List.take_succ_eq_append_getElem hk, List.all_append, ha]; simp [h]
theorem four_cell {w : World} {g : Nat} {r : Se.Row} (h : Blk w g 3 #[.int .i64 r.1, .int .i64 r.2.1, .int .i64 r.2.2.1, .int .i64 r.2.2.2]) (j : Nat) (hj : j < 4) : w.cell? ⟨g, j, none⟩ = some (.int .i64 (Se.fld r j)) := by
  rw [h.cell]
  obtain rfl | rfl | rfl | rfl : j = 0 ∨ j = 1 ∨ j = 2 ∨ j = 3 := by omega
  all_goals rfl
theorem putL_of_num {x : Int} : (Wr.putB x).data.toList = Wr.putL x := Wr.putB_list x
def PutPost (w : World) (q : ByteArray × Int) (e : Ending) (w' : World) : Prop := e = .returned (.tuple #[.string q.1, .int .i64 q.2]) ∧ Below w.heap.size w w'

set_option maxRecDepth 100000 in
set_option maxHeartbeats 2000000 in
theorem seput_any (A : Option Addr) (c : Nat) (ps : List Se.Row) (w : World) (B : Nat) (hr : Reads w B 4 A ps.length (ps.flatMap rowCells)) (hB : B ≤ w.heap.size) :
    Calls Tryz.prog 41 #[.slice A ps.length c] w (PutPost w (Se.putR ps)) := by
  have HM := Lib.hid (semay_any A c ps w B hr)
  have HOk := Lib.hid (fun h1 h2 => @Se.put_ok ps h1 h2)
  have HNo := Lib.hid (@Se.put_no ps)
  generalize Se.putR ps = res at *
  cases hm : Se.mayB ps
  · rw [hm] at HM
    have Hres := Lib.hid (HNo.out (.inl hm))
    clear hr hm HOk HNo
    go_enter Tryz.func41, Tryz.ntmps41
    go_wp2_with fail
    refine HM.out.mono ?_
    rintro e w1 ⟨rfl, n1, rfl⟩
    go_wp2_with fail
    go_ret2
    exact ⟨by rw [Hres.out]; rfl, below_drewN (Below.refl _ _) _⟩
  · rw [hm] at HM
    have h4 := Se.may_len hm
    have HRd := Lib.hid hr
    have HOk' := Lib.hid (fun h => HOk.out hm h)
    have HNo' := Lib.hid (fun h => HNo.out (.inr h))
    have HPN := fun W => Lib.hid (putNum_any (ps.length : Int) W (by omega))
    have HPL := Lib.hid (Wr.putB_list (ps.length : Int))
    have hpl : (Wr.putL (ps.length : Int)).length ≤ 8 := Wr.putL_len _
    have hpn : (Wr.putB (ps.length : Int)).size ≤ 8 := by rw [Wr.putB_size]; exact Wr.putL_len _
    clear hr hm HOk HNo
    go_enter Tryz.func41, Tryz.ntmps41
    go_wp2_with fail
    refine HM.out.mono ?_
    rintro e w1' ⟨rfl, n1, rfl⟩
    have Hb1 : Hid (Below w.heap.size w (w.drewN n1)) := below_drewN (Below.refl _ _) _
    have hs1 : w.heap.size ≤ (w.drewN n1).heap.size := Nat.le_refl _
    generalize w.drewN n1 = w1 at *
    go_wp2_with fail
    have hbn := bld_new w1
    have hsz : w1.heap.size < (w1.alloc (.cells #[.pointer none, .slice none 0 0] 84)).heap.size := by simp
    have hba : Below w1.heap.size w1 (w1.alloc (.cells #[.pointer none, .slice none 0 0] 84)) := (Below.refl _ _).alloc (Nat.le_refl _) _
    generalize hbe : w1.heap.size = b at *
    have Hbe := Lib.hid hbe
    clear hbe
    generalize w1.alloc (.cells #[.pointer none, .slice none 0 0] 84) = w2 at *
    have Hbn := Lib.hid hbn
    have Hba := Lib.hid hba
    clear hbn hba
    refine (HPN _).out.mono ?_
    rintro e w3 ⟨rfl, hb3⟩
    have Hb3 := Lib.hid hb3
    have hs3 := hb3.size
    clear hb3
    go_wp2_with fail
    refine (write_any b b [] (Wr.putB (ps.length : Int)) w3 (bld_below Hbn.out Hb3.out) (by simp; omega) (by omega)).mono ?_
    rintro e w4 ⟨rfl, hB4, hb4, _⟩
    rw [HPL.out, List.nil_append] at hB4
    have HB4 := Lib.hid hB4
    have Hb4 : Hid (Below b w1 w4) := Hba.out.trans ((Hb3.out.mono (by omega)).trans hb4)
    clear hB4 hb4 Hb3 Hbn Hba HPL HPN
    generalize Wr.putB (ps.length : Int) = PB at *
    go_wp2_with fail
    go_loopw [6, 8, 18] (fun _ _ i wr => ∃ (k : Nat) (l : List UInt8), k ≤ ps.length ∧ i = .int .i64 (k : Int) ∧ Hid (l = Wr.putL (ps.length : Int) ++ (ps.take k).flatMap Se.rowL) ∧ l.length ≤ 8 + 32 * k ∧ Hid ((ps.take k).all Se.fitsB = true) ∧ Hid (Bld b b (Lib.byteCells l) wr) ∧ Hid (Below b w1 wr)) (fun _ _ i _ => ps.length - (intOf i).toNat)
    case atStart => exact ⟨0, _, Nat.zero_le _, rfl, Lib.hid (by simp), by omega, Lib.hid (by simp), HB4, Hb4⟩
    case round =>
      obtain ⟨k, l, hk, rfl, hl, hll, hfa, hBl, hbl⟩ := hrel
      by_cases hlt : k < ps.length
      · obtain ⟨bb, off, rfl, hbb, hc⟩ := HRd.out.2 (by omega)
        obtain ⟨hc0, hc1, hc2, hc3⟩ := row_cells (wr := wr) hlt hc (fun p hp => (hbl.out.cell (p := p) (show p.block < b by omega)).trans (Hb1.out.cell (p := p) (by omega))) hbb
        have HSt := Lib.hid (fun h => HNo'.out (se_all_stop hlt h))
        have HGo := Lib.hid (fun h => se_all_step hlt hfa.out h)
        have Hsn : Hid ((ps.take (k + 1)).flatMap Se.rowL = (ps.take k).flatMap Se.rowL ++ Se.rowL ps[k]) := by
          show _ = _; rw [List.take_succ_eq_append_getElem hlt, List.flatMap_append]; simp
        clear hc hfa
        generalize ps[k] = r at *
        obtain ⟨a0, a1, a2, a3⟩ := r
        simp only at hc0 hc1 hc2 hc3
        go_wp2_with fail
        have hlb := bld_lt hBl.out
        have hI := Blk.new (wr.alloc (.cells #[.int .i64 a0, .int .i64 a1, .int .i64 a2, .int .i64 a3] 96)) 3 #[.int .i64 a0, .int .i64 a1, .int .i64 a2, .int .i64 a3]
        have hb6r : Below wr.heap.size wr ((wr.alloc (.cells #[.int .i64 a0, .int .i64 a1, .int .i64 a2, .int .i64 a3] 96)).alloc (.cells #[.int .i64 a0, .int .i64 a1, .int .i64 a2, .int .i64 a3] 3)) := ((Below.refl _ _).alloc (Nat.le_refl _) _).alloc (by simp) _
        have hB6 := bld_below hBl.out hb6r
        have hb6 : Below b w1 ((wr.alloc (.cells #[.int .i64 a0, .int .i64 a1, .int .i64 a2, .int .i64 a3] 96)).alloc (.cells #[.int .i64 a0, .int .i64 a1, .int .i64 a2, .int .i64 a3] 3)) := hbl.out.trans (hb6r.mono (by omega))
        have HI := Lib.hid hI
        have HB6 := Lib.hid hB6
        have Hb6 := Lib.hid hb6
        have hgs : (wr.alloc (.cells #[.int .i64 a0, .int .i64 a1, .int .i64 a2, .int .i64 a3] 96)).heap.size ≠ b := by rw [World.size_alloc]; omega
        clear hI hB6 hb6 hb6r hc0 hc1 hc2 hc3 hBl hbl
        simp only [World.size_alloc] at HI hgs
        generalize (wr.alloc (.cells #[.int .i64 a0, .int .i64 a1, .int .i64 a2, .int .i64 a3] 96)).alloc (.cells #[.int .i64 a0, .int .i64 a1, .int .i64 a2, .int .i64 a3] 3) = w6 at *
        generalize wr.heap.size = hw at *
        obtain ⟨r, hr⟩ : ∃ r : Se.Row, r = (a0, a1, a2, a3) := ⟨_, rfl⟩
        have Hr := Lib.hid hr
        clear hr
        go_loopw [8, 32] (fun _ i wr => ∃ (j : Nat) (l' : List UInt8), j ≤ 4 ∧ i = .int .i64 (j : Int) ∧ Hid (l' = l ++ Se.partL (a0, a1, a2, a3) j) ∧ l'.length ≤ 8 + 32 * k + 8 * j ∧ Hid (∀ i, i < j → Wr.isNum (Se.fld (a0, a1, a2, a3) i) = true) ∧ Hid (Blk wr (hw + 1) 3 #[.int .i64 a0, .int .i64 a1, .int .i64 a2, .int .i64 a3]) ∧ Hid (Bld b b (Lib.byteCells l') wr) ∧ Hid (Below b w1 wr)) (fun _ i _ => 4 - (intOf i).toNat)
        case atStart => exact ⟨0, l, Nat.zero_le _, rfl, Lib.hid (by simp [Se.partL]), by omega, Lib.hid (fun i h => absurd h (by omega)), HI, HB6, Hb6⟩
        case round =>
          obtain ⟨j, l', hj, rfl, hl', hll', hfj, hIj, hBj, hbj⟩ := hrel
          by_cases hjl : j < 4
          · have hcj := four_cell (r := (a0, a1, a2, a3)) hIj.out j hjl
            have HFn := Lib.hid (fun h => HSt.out (fits_not hjl h))
            have hps := Lib.hid (part_step (a0, a1, a2, a3) j)
            have hfj' := Lib.hid (fun (h : Wr.isNum (Se.fld (a0, a1, a2, a3) j) = true) i (hi : i < j + 1) => (by by_cases e : i = j; (subst e; exact h); exact hfj.out i (by omega) : Wr.isNum (Se.fld (a0, a1, a2, a3) i) = true))
            generalize hx : Se.fld (a0, a1, a2, a3) j = x at *
            have HF := fun W => Lib.hid (fits_any x W)
            clear hfj hx
            cases hnum : Wr.isNum x
            · have Hres := Lib.hid (HFn.out hnum)
              rw [hnum] at HF
              clear hnum HFn hfj'
              go_wp2_with fail
              refine (HF _).out.mono ?_
              rintro e w' ⟨rfl, rfl⟩
              go_wp2_with fail
              go_ret2
              exact ⟨by rw [Hres.out]; rfl, Hb1.out.trans (hbj.out.mono hs1)⟩
            · have hxb := (Wr.isNum_iff x).1 hnum
              have Hf := Lib.hid (hfj'.out hnum)
              rw [hnum] at HF
              have HPx := fun W => Lib.hid (putNum_any x W (by omega))
              have hpx : (Wr.putB x).size ≤ 8 := by rw [Wr.putB_size]; exact Wr.putL_len _
              have HPl := Lib.hid (Wr.putB_list x)
              clear hnum HFn hfj'
              go_wp2_with fail
              refine (HF _).out.mono ?_
              rintro e w' ⟨rfl, rfl⟩
              go_wp2_with fail
              refine (HPx _).out.mono ?_
              rintro e w7 ⟨rfl, hb7⟩
              have hs7 := hb7.size
              have hbj' := (bld_lt hBj.out).2
              have HI7 := Lib.hid (Blk.below hIj.out hb7 hIj.out.lt)
              have HB7 := Lib.hid (bld_below hBj.out hb7)
              have Hb7 : Hid (Below b w1 w7) := hbj.out.trans (hb7.mono (by omega))
              clear hb7
              generalize Wr.putB x = PX at *
              go_wp2_with fail
              refine (write_any b b l' PX w7 HB7.out (by omega) (by omega)).mono ?_
              rintro e w8 ⟨rfl, hB8, hb8, ho8⟩
              rw [HPl.out] at hB8
              have HB8 := Lib.hid hB8
              have HI8 := Lib.hid (Blk.others HI7.out ho8 hgs (by decide))
              have Hb8 : Hid (Below b w1 w8) := Hb7.out.trans hb8
              clear hB8 hb8 ho8
              go_wp2_with fail
              go_roundw
              case rel => exact ⟨j + 1, l' ++ Wr.putL x, by omega, by go_num, Lib.hid (by show _ = _; rw [hl'.out, hps.out, List.append_assoc]), by rw [List.length_append]; have := Wr.putL_len x; omega, Hf, HI8, HB8, Hb8⟩
              case measure => simp [intOf]; omega
          · obtain rfl : j = 4 := by omega
            have hfit : Se.fitsB (a0, a1, a2, a3) = true := fits_fld (fun i hi => hfj.out i hi)
            have HG := Lib.hid (HGo.out hfit)
            have Hl2 : Hid (l' = Wr.putL (ps.length : Int) ++ (ps.take (k + 1)).flatMap Se.rowL) := by
              show _ = _; rw [hl'.out, part_four, hl.out, Hsn.out, List.append_assoc]
            clear hfit hfj
            go_wp2_with fail
            go_roundw
            case rel => exact ⟨k + 1, l', by omega, by go_num, Hl2, by omega, HG, hBj, hbj⟩
            case measure => simp [intOf]; omega
      · have htk : ps.take k = ps := List.take_of_length_le (by omega)
        rw [htk] at hl hfa
        have Hres : Hid (res = (⟨l.toArray⟩, 0)) := by show _ = _; rw [HOk'.out hfa.out, hl.out]; rfl
        have hlb := bld_lt hBl.out
        clear hl hfa htk
        go_wp2_with fail
        refine (bstring_any b b l wr hBl.out (by omega)).mono ?_
        rintro e w9 ⟨rfl, _, hb9, _⟩
        have Hb9 : Hid (Below w.heap.size w w9) := Hb1.out.trans ((hbl.out.trans hb9).mono (by omega))
        clear hb9
        go_wp2_with fail
        go_ret2
        exact ⟨by rw [Hres.out]; rfl, Hb9.out⟩
end Go.Proofs.YtmnigoibbcigdaaGreat
/- The walk through Snap of the machine (chapter 11). -/
namespace Go.Proofs.YtmnigoibbcigdaaGreat
open Go.RowKit
set_option linter.unusedVariables false

def Ig.snapL (m : Ig.M) : List UInt8 := Wr.putL m.at_ ++ ((Wr.textB (Se.putR m.rows).1).data.toList ++ (Wr.putL (m.digs.length : Int) ++ m.digs.flatMap fun x => (Sg.tailB x.toNat).data.toList))
def Ig.snapR (m : Ig.M) : ByteArray × Int := if m.at_ % 8 ≠ 0 then (⟨#[]⟩, 1100) else (⟨(Ig.snapL m).toArray⟩, 0)
theorem Ig.putR_size (rows : List Se.Row) : (Se.putR rows).1.size ≤ 136 := by
  unfold Se.putR
  split
  · rename_i h
    have h4 := Se.may_len h.1
    have h5 := Se.rows_le rows
    have h6 := Wr.putL_len (rows.length : Int)
    show (Se.rowsL rows).toArray.size ≤ 136
    unfold Se.rowsL
    simp only [List.size_toArray, List.length_append]
    omega
  · show 0 ≤ 136; omega
theorem Ig.textB_size (s : ByteArray) : (Wr.textB s).size ≤ s.size + 8 := by
  have := Wr.putL_len (s.size : Int)
  unfold Wr.textB
  rw [ByteArray.size_append, Wr.putB_size]; omega
theorem Ig.snap_no {m : Ig.M} (h : m.at_ % 8 ≠ 0) : Ig.snapR m = (⟨#[]⟩, 1100) := by unfold Ig.snapR; rw [if_pos h]
theorem Ig.snap_yes {m : Ig.M} (h : ¬ m.at_ % 8 ≠ 0) : Ig.snapR m = (⟨(Ig.snapL m).toArray⟩, 0) := by unfold Ig.snapR; rw [if_neg h]
def SnapPost (w : World) (q : ByteArray × Int) (e : Ending) (w' : World) : Prop := e = .returned (.tuple #[.string q.1, .int .i64 q.2]) ∧ Below w.heap.size w w'
theorem digs_map (l : List Int) : l.flatMap digCells = l.map (Value.int .u64) := by
  induction l with
  | nil => rfl
  | cons a l ih => rw [List.flatMap_cons, ih]; rfl
theorem tails_le (l : List Int) : (l.flatMap (fun x => (Sg.tailB x.toNat).data.toList)).length ≤ 8 * l.length := by
  induction l with
  | nil => simp
  | cons a l ih =>
    have h : (Sg.tailB a.toNat).data.toList.length = 8 := by
      have := Sg.tailB_size a.toNat
      simpa using this
    simp only [List.flatMap_cons, List.length_append, List.length_cons, h]
    omega
theorem tail_int (d : Int) (hd : 0 ≤ d ∧ d < 18446744073709551616) (W : World) : Calls Tryz.prog 45 #[.int .u64 d] W fun e w' => e = .returned (.string (Sg.tailB d.toNat)) ∧ Below W.heap.size W w' := by
  have h := tail_any d.toNat W (by omega)
  rw [Int.toNat_of_nonneg hd.1] at h
  exact h
section
variable {w : World} {base g : Nat} {m : Ig.M} {vr vo vd vs : Value}
set_option maxRecDepth 100000 in
set_option maxHeartbeats 2000000 in
theorem snap_mach (h : Mach w base g m vr vo vd vs) (h0 : 0 ≤ m.at_) (h1 : m.at_ ≤ 4096) (hd : m.digs.length ≤ 1000000) (hr : ∀ d ∈ m.digs, 0 ≤ d ∧ d < 18446744073709551616) :
    Calls Tryz.prog 10 #[.pointer (some ⟨g, 0, none⟩)] w (SnapPost w (Ig.snapR m)) := by
  have HS : Hid (∀ W, Below w.heap.size w W → W.cell? ⟨g, 0, none⟩ = some (.int .i64 m.at_) ∧ W.cell? ⟨g, 1, none⟩ = some vr ∧ W.cell? ⟨g, 2, none⟩ = some vo ∧ W.cell? ⟨g, 3, none⟩ = some vd ∧ W.cell? ⟨g, 4, none⟩ = some vs) := fun W hb => (h.below hb).cells
  have hgw := h.blk.lt
  by_cases h8 : m.at_ % 8 ≠ 0
  · have Hres := Lib.hid (Ig.snap_no h8)
    generalize Ig.snapR m = res at *
    obtain ⟨c0, c1, c2, c3, c4⟩ := h.cells
    have h8b : (m.at_ % 8 != 0) = true := by simpa using h8
    clear h h8 hr
    go_enter Tryz.func10, Tryz.ntmps10
    go_wp2_with fail
    go_ret2
    exact ⟨by rw [Hres.out]; rfl, Below.refl _ _⟩
  · have Hres := Lib.hid (Ig.snap_yes h8)
    generalize Ig.snapR m = res at *
    have h8b : (m.at_ % 8 != 0) = false := by simpa using h8
    obtain ⟨Ar, cr, rfl, _, hr1⟩ := own_slice h.rows
    obtain ⟨Ad, cd, rfl, _, hr3⟩ := own_slice h.digs
    have HP := fun W (hb : Below w.heap.size w W) => Lib.hid (seput_any Ar cr m.rows W w.heap.size (hr1.below hb) hb.size)
    have HRd := Lib.hid hr3
    have HRg := Lib.hid hr
    obtain ⟨c0, c1, c2, c3, c4⟩ := h.cells
    clear h h8 hr hr1 hr3
    have HL : Hid (Ig.snapL m = Wr.putL m.at_ ++ ((Wr.textB (Se.putR m.rows).1).data.toList ++ (Wr.putL (m.digs.length : Int) ++ m.digs.flatMap fun x => (Sg.tailB x.toNat).data.toList))) := rfl
    generalize Ig.snapL m = out at *
    have hrs := Ig.putR_size m.rows
    generalize Se.putR m.rows = pr at *
    obtain ⟨S, er⟩ := pr
    simp only at HL hrs
    have HN1 := fun W => Lib.hid (putNum_any m.at_ W (by omega))
    have HN2 := fun W => Lib.hid (putNum_any (m.digs.length : Int) W (by omega))
    have HT := fun W => Lib.hid (putText_any S W (by omega))
    go_enter Tryz.func10, Tryz.ntmps10
    go_wp2_with fail
    refine (HP _ (Below.refl _ _)).out.mono ?_
    rintro e w1 ⟨rfl, hb1⟩
    have Hb1 := Lib.hid hb1
    clear hb1 HP c0 c1 c2 c3 c4
    go_wp2_with fail
    have HB2 := Lib.hid (bld_new w1)
    have Hb2 : Hid (Below w.heap.size w (w1.alloc (.cells #[.pointer none, .slice none 0 0] 84))) := Hb1.out.alloc Hb1.out.size _
    have hs1 := Hb1.out.size
    have hs2 : w1.heap.size < (w1.alloc (.cells #[.pointer none, .slice none 0 0] 84)).heap.size := by simp
    clear Hb1
    generalize w1.alloc (.cells #[.pointer none, .slice none 0 0] 84) = w2 at *
    generalize w1.heap.size = b at *
    have HS2 : Hid (∀ W, Below w.heap.size w W → W.cell? ⟨g, 0, none⟩ = some (.int .i64 m.at_) ∧ W.cell? ⟨g, 3, none⟩ = some (.slice Ad m.digs.length cd)) := fun W hb => ⟨(HS.out W hb).1, (HS.out W hb).2.2.2.1⟩
    have HTl := fun k (hk : k < m.digs.length) => Lib.hid (tail_int m.digs[k] (HRg.out _ (List.getElem_mem hk)))
    have z1 : (Wr.putB m.at_).size ≤ 8 := by rw [Wr.putB_size]; exact Wr.putL_len _
    have z2 : (Wr.putB (m.digs.length : Int)).size ≤ 8 := by rw [Wr.putB_size]; exact Wr.putL_len _
    have z3 := Ig.textB_size S
    have y1 : Hid ((Wr.putB m.at_).data.toList = Wr.putL m.at_) := Wr.putB_list _
    have y2 : Hid ((Wr.putB (m.digs.length : Int)).data.toList = Wr.putL (m.digs.length : Int)) := Wr.putB_list _
    rw [← y1.out, ← y2.out] at HL
    clear y1 y2 HS
    generalize Wr.putB m.at_ = PA at *
    generalize Wr.putB (m.digs.length : Int) = PD at *
    generalize Wr.textB S = PT at *
    have hq1 : ¬ 9223372036854775807 < PA.size + PT.size := by omega
    have hq2 : ¬ 9223372036854775807 < PA.size + PT.size + PD.size := by omega
    go_region_held3 (fun w' => w'.cell? ⟨g, 0, none⟩ = some (.int .i64 m.at_) ∧ w'.cell? ⟨g, 3, none⟩ = some (.slice Ad m.digs.length cd))
      (first | exact HS2.out _ Hbd.out | exact HS2.out _ Hbc.out | exact HS2.out _ Hbb.out | exact HS2.out _ Hba.out | exact HS2.out _ Hb2.out.drew)
      (first
        | (go_at_call 44; (with_reducible refine (HT _).out.mono ?_); rintro e wb ⟨rfl, hbb⟩; have hsb := hbb.size; have Hbb : Hid (Below w.heap.size w wb) := Hba.out.trans (hbb.mono Hba.out.size); have HBb := Lib.hid (bld_below HBa.out hbb))
        | (go_at_call 43; (with_reducible refine (HN1 _).out.mono ?_); rintro e wa ⟨rfl, hba⟩; have hba' : Below w2.heap.size w2 wa := ⟨hba.os, hba.tape, hba.output, hba.size, hba.block⟩; have hsa := hba'.size; have Hba : Hid (Below w.heap.size w wa) := Hb2.out.trans (hba'.mono Hb2.out.size); have HBa := Lib.hid (bld_below HB2.out hba'))
        | (go_at_call 43; (with_reducible refine (HN2 _).out.mono ?_); rintro e wc ⟨rfl, hbc⟩; have hsc := hbc.size; have Hbc : Hid (Below w.heap.size w wc) := Hbb.out.trans (hbc.mono Hbb.out.size); have HBc := Lib.hid (bld_below HBb.out hbc))
        | (go_at_call 42; refine (write_any b b [] (PA ++ PT ++ PD) wc HBc.out (by simp only [ByteArray.size_append, List.length_nil]; omega) (by omega)).mono ?_; rintro e wd ⟨rfl, hBd, hbd, hkd⟩; have hsd := hbd.size; have Hbd : Hid (Below w.heap.size w wd) := Hbc.out.trans (hbd.mono (by omega)); have HBd := Lib.hid hBd))
    have HL0 : Hid ([] ++ (PA ++ PT ++ PD).data.toList = PA.data.toList ++ (PT.data.toList ++ PD.data.toList)) := by show _ = _; simp
    have hl0 : ([] ++ (PA ++ PT ++ PD).data.toList).length ≤ 200 := by
      rw [HL0.out]; simp only [List.length_append]
      have e1 : PA.data.toList.length = PA.size := by simp
      have e2 : PT.data.toList.length = PT.size := by simp
      have e3 : PD.data.toList.length = PD.size := by simp
      omega
    generalize [] ++ (PA ++ PT ++ PD).data.toList = l0 at *
    have hbw : b < wd.heap.size := by omega
    clear HBa HBb HBc Hba Hbb Hbc HB2 Hb2 hkd hbd hBd hba hbb hbc hba' HN1 HN2 HT hq1 hq2
    obtain ⟨c0, c3⟩ := HS2.out wd Hbd.out
    clear c0
    have Hfin : Hid (∀ k, ¬ k < m.digs.length → l0 ++ (m.digs.take k).flatMap (fun x => (Sg.tailB x.toNat).data.toList) = out) := fun k hk => by
      rw [List.take_of_length_le (by omega), HL0.out, HL.out]; simp only [List.append_assoc]
    have Hlen : Hid (∀ k, (l0 ++ (m.digs.take k).flatMap (fun x => (Sg.tailB x.toNat).data.toList)).length ≤ 200 + 8 * k) := fun k => by
      rw [List.length_append]
      have : ((m.digs.take k).flatMap (fun x => (Sg.tailB x.toNat).data.toList)).length ≤ 8 * (m.digs.take k).length := tails_le _
      have := List.length_take_le k m.digs
      omega
    have Hsnoc : Hid (∀ k (hk : k < m.digs.length), l0 ++ (m.digs.take (k + 1)).flatMap (fun x => (Sg.tailB x.toNat).data.toList) = (l0 ++ (m.digs.take k).flatMap (fun x => (Sg.tailB x.toNat).data.toList)) ++ (Sg.tailB m.digs[k].toNat).data.toList) := fun k hk => by
      rw [List.take_succ_eq_append_getElem hk, List.flatMap_append, List.append_assoc]; simp
    have H0 : Hid (l0 = l0 ++ (m.digs.take 0).flatMap (fun x => (Sg.tailB x.toNat).data.toList)) := by show _ = _; simp
    rw [H0.out] at HBd
    clear HL HL0 H0 HS2 HRg hl0
    have hG : Hid (Bld b b (Lib.byteCells (l0 ++ (m.digs.take 0).flatMap (fun x => (Sg.tailB x.toNat).data.toList))) wd) := HBd
    clear HBd
    have hdc : ∀ k (hk : k < m.digs.length), ∃ bd off, Ad = some ⟨bd, off, none⟩ ∧ bd < w.heap.size ∧ w.cell? ⟨bd, off + k, none⟩ = some (.int .u64 m.digs[k]) := fun k hk => by
      obtain ⟨bd, off, e, hbd, hc⟩ := HRd.out.2 (by omega)
      exact ⟨bd, off, e, hbd, hc k _ (by rw [show m.digs.flatMap digCells = m.digs.map (Value.int .u64) from digs_map m.digs]; simp [hk])⟩
    have HDc := Lib.hid hdc
    clear hdc HRd
    go_wp2_with fail
    go_loopw [8, 48] (fun _ i wr => ∃ k : Nat, k ≤ m.digs.length ∧ i = .int .i64 (k : Int) ∧ Hid (Bld b b (Lib.byteCells (l0 ++ (m.digs.take k).flatMap (fun x => (Sg.tailB x.toNat).data.toList))) wr) ∧ Hid (Below w.heap.size w wr) ∧ b < wr.heap.size) (fun _ i _ => m.digs.length - (intOf i).toNat)
    case atStart => exact ⟨0, Nat.zero_le _, rfl, hG, Hbd, hbw⟩
    case round =>
      obtain ⟨k, hk, rfl, hB, hbr, hbz⟩ := hrel
      by_cases hlt : k < m.digs.length
      · obtain ⟨bd, off, rfl, hbd, hcd⟩ := HDc.out k hlt
        have hcr := (hbr.out.cell (p := ⟨bd, off + k, none⟩) hbd).trans hcd
        have HT := Lib.hid ((HTl k hlt).out)
        have Hsn := Lib.hid (Hsnoc.out k hlt)
        have hlk := Hlen.out k
        clear hcd Hfin Hsnoc Hlen HDc HTl hG
        have hts := Sg.tailB_size m.digs[k].toNat
        generalize l0 ++ (m.digs.take k).flatMap (fun x => (Sg.tailB x.toNat).data.toList) = lk at *
        generalize Sg.tailB m.digs[k].toNat = tb at *
        generalize m.digs[k] = dk at *
        go_wp2_with fail
        refine (HT.out _).mono ?_
        rintro e w5 ⟨rfl, hb5⟩
        have HB5 := Lib.hid (bld_below hB.out hb5)
        have Hb5 : Hid (Below w.heap.size w w5) := hbr.out.trans (hb5.mono hbr.out.size)
        have hs5 := hb5.size
        clear hb5
        go_wp2_with fail
        refine (write_any b b lk tb w5 HB5.out (by omega) (by omega)).mono ?_
        rintro e w6 ⟨rfl, hB6, hb6, _⟩
        have HB6 := Lib.hid hB6
        have Hb6 : Hid (Below w.heap.size w w6) := Hb5.out.trans (hb6.mono (by omega))
        have hs6 := hb6.size
        clear hB6 hb6
        go_wp2_with fail
        go_roundw
        case rel => exact ⟨k + 1, by omega, by go_num, by rw [Hsn.out]; exact HB6, Hb6, by omega⟩
        case measure => simp [intOf]; omega
      · have hF := Lib.hid (Hfin.out k hlt)
        rw [hF.out] at hB
        clear hF Hfin Hsnoc Hlen HDc HTl hG
        go_wp2_with fail
        refine (bstring_any b b out wr hB.out (by omega)).mono ?_
        rintro e w5 ⟨rfl, _, hb5, _⟩
        have Hb5 : Hid (Below w.heap.size w w5) := hbr.out.trans (hb5.mono (by omega))
        clear hb5
        go_wp2_with fail
        go_ret2
        exact ⟨by rw [Hres.out]; rfl, Hb5.out⟩
end
end Go.Proofs.YtmnigoibbcigdaaGreat
/- The walk through Copy of the machine (chapter 11). -/
namespace Go.Proofs.YtmnigoibbcigdaaGreat
open Go.RowKit
set_option linter.unusedVariables false

def CopyPost (w : World) (m : Ig.M) (e : Ending) (w' : World) : Prop :=
  ∃ g vr vo vd vs, e = .returned (.pointer (some ⟨g, 0, none⟩)) ∧ Mach w' w.heap.size g m vr vo vd vs ∧ Below w.heap.size w w'
section
variable {w : World} {base g : Nat} {m : Ig.M} {vr vo vd vs : Value}
set_option maxRecDepth 100000 in
set_option maxHeartbeats 2000000 in
theorem copy_mach (h : Mach w base g m vr vo vd vs) (h1 : m.rows.length ≤ 1000000) (h2 : m.opn.length ≤ 1000000) (h3 : m.digs.length ≤ 1000000) (h4 : m.seals.length ≤ 1000000) :
    Calls Tryz.prog 13 #[.pointer (some ⟨g, 0, none⟩)] w (CopyPost w m) := by
  have HS : Hid (∀ W, Below w.heap.size w W → W.cell? ⟨g, 0, none⟩ = some (.int .i64 m.at_) ∧ W.cell? ⟨g, 1, none⟩ = some vr ∧ W.cell? ⟨g, 2, none⟩ = some vo ∧ W.cell? ⟨g, 3, none⟩ = some vd ∧ W.cell? ⟨g, 4, none⟩ = some vs) := fun W hb => (h.below hb).cells
  obtain ⟨c0, c1, c2, c3, c4⟩ := h.cells
  obtain ⟨Ar, cr, rfl, _, hr1⟩ := own_slice h.rows
  obtain ⟨Ao, co, rfl, _, hr2⟩ := own_slice h.opn
  obtain ⟨Ad, cd, rfl, _, hr3⟩ := own_slice h.digs
  obtain ⟨As, cs, rfl, _, hr4⟩ := own_slice h.seals
  have HC1 := fun W (hb : Below w.heap.size w W) => Lib.hid (cloneR_any Ar cr m.rows W w.heap.size (hr1.below hb) hb.size (by omega))
  have HC2 := fun W (hb : Below w.heap.size w W) => Lib.hid (cloneP_any Ao co m.opn W w.heap.size (hr2.below hb) hb.size (by omega))
  have HC3 := fun W (hb : Below w.heap.size w W) => Lib.hid (cloneD_any Ad cd m.digs W w.heap.size (hr3.below hb) hb.size (by omega))
  have HC4 := fun W (hb : Below w.heap.size w W) => Lib.hid (cloneF_any As cs m.seals W w.heap.size (hr4.below hb) hb.size (by omega))
  clear h hr1 hr2 hr3 hr4
  go_enter Tryz.func13, Tryz.ntmps13
  go_wp2_with fail
  clear c0 c1 c2 c3 c4
  go_region_held3 (fun w' => w'.cell? ⟨g, 0, none⟩ = some (.int .i64 m.at_) ∧ w'.cell? ⟨g, 1, none⟩ = some (.slice Ar m.rows.length cr) ∧ w'.cell? ⟨g, 2, none⟩ = some (.slice Ao m.opn.length co) ∧ w'.cell? ⟨g, 3, none⟩ = some (.slice Ad m.digs.length cd) ∧ w'.cell? ⟨g, 4, none⟩ = some (.slice As m.seals.length cs))
    (first | exact HS.out _ (Hb4.out.alloc (Nat.le_refl _) _) | exact HS.out _ (Hb4.out.alloc (by first | omega | exact Hb4.out.size) _) | exact HS.out _ Hb4.out | exact HS.out _ Hb3.out | exact HS.out _ Hb2.out | exact HS.out _ Hb1.out | exact HS.out _ ((Below.refl _ _).drew))
    (first
      | (go_at_call 51; (with_reducible refine (HC1 _ (by exact (Below.refl _ _).drew)).out.mono ?_); rintro e w1 ⟨v1, rfl, hown1, hb1⟩; obtain ⟨A1, k1, rfl, _, _⟩ := own_slice hown1; have Hb1 : Hid (Below w.heap.size w w1) := ((Below.refl _ _).drew).trans hb1)
      | (go_at_call 52; (with_reducible refine (HC2 _ (by exact Hb1.out)).out.mono ?_); rintro e w2 ⟨v2, rfl, hown2, hb2⟩; obtain ⟨A2, k2, rfl, _, _⟩ := own_slice hown2; have Hb2 : Hid (Below w.heap.size w w2) := Hb1.out.trans (hb2.mono Hb1.out.size))
      | (go_at_call 53; (with_reducible refine (HC3 _ (by exact Hb2.out)).out.mono ?_); rintro e w3 ⟨v3, rfl, hown3, hb3⟩; obtain ⟨A3, k3, rfl, _, _⟩ := own_slice hown3; have Hb3 : Hid (Below w.heap.size w w3) := Hb2.out.trans (hb3.mono Hb2.out.size))
      | (go_at_call 54; (with_reducible refine (HC4 _ (by exact Hb3.out)).out.mono ?_); rintro e w4 ⟨v4, rfl, hown4, hb4⟩; obtain ⟨A4, k4, rfl, _, _⟩ := own_slice hown4; have Hb4 : Hid (Below w.heap.size w w4) := Hb3.out.trans (hb4.mono Hb3.out.size)))
  have o1 := own_only (own_only (own_only hown1 (Only.new (fun _ => False) hb2) (fun _ _ h => h)) (Only.new (fun _ => False) hb3) (fun _ _ h => h)) (Only.new (fun _ => False) hb4) (fun _ _ h => h)
  have o2 := own_only (own_only hown2 (Only.new (fun _ => False) hb3) (fun _ _ h => h)) (Only.new (fun _ => False) hb4) (fun _ _ h => h)
  have o3 := own_only hown3 (Only.new (fun _ => False) hb4) (fun _ _ h => h)
  have Ho := Lib.hid (And.intro (own_down o1 (show w.heap.size ≤ w.drew.heap.size from Nat.le_refl _)) (And.intro (own_down o2 Hb1.out.size) (And.intro (own_down o3 Hb2.out.size) (own_down hown4 Hb3.out.size))))
  clear o1 o2 o3 hown1 hown2 hown3 hown4 hb1 hb2 hb3 hb4
  go_wp2_with fail
  go_ret
  obtain ⟨o1, o2, o3, o4⟩ := Ho.out
  exact ⟨w4.heap.size, _, _, _, _, rfl, ⟨Blk.new w4 _ _, Hb4.out.size, o1.alloc _, o2.alloc _, o3.alloc _, o4.alloc _⟩, Hb4.out.alloc Hb4.out.size _⟩
end
end Go.Proofs.YtmnigoibbcigdaaGreat
/- A machine in memory beside other blocks: the contracts that the laws use (chapter 11). -/
namespace Go.Proofs.YtmnigoibbcigdaaGreat
open Go.RowKit
set_option linter.unusedVariables false

/-- the machine m is at g, its blocks lie from base on, none of them in X -/
def MachX (w : World) (base g : Nat) (m : Ig.M) (X : Nat → Prop) : Prop := ∃ vr vo vd vs, Mach w base g m vr vo vd vs ∧ ∀ k, Foot g vr vo vd vs k → ¬ X k
section
variable {w w' : World} {base g : Nat} {m : Ig.M} {X : Nat → Prop}
theorem MachX.below (h : MachX w base g m X) (hb : Below w.heap.size w w') : MachX w' base g m X := by
  obtain ⟨vr, vo, vd, vs, hm, hx⟩ := h
  exact ⟨vr, vo, vd, vs, hm.below hb, hx⟩
theorem MachX.only (h : MachX w base g m X) {S : Nat → Prop} (ho : Only S w w') (hs : ∀ k, base ≤ k → S k → X k) : MachX w' base g m X := by
  obtain ⟨vr, vo, vd, vs, hm, hx⟩ := h
  exact ⟨vr, vo, vd, vs, hm.only ho (fun k hk q => hx k hk (hs k (hm.lt hk).1 q)), hx⟩
theorem MachX.less (h : MachX w base g m X) {Y : Nat → Prop} (hy : ∀ k, base ≤ k → k < w.heap.size → Y k → X k) : MachX w base g m Y := by
  obtain ⟨vr, vo, vd, vs, hm, hx⟩ := h
  exact ⟨vr, vo, vd, vs, hm, fun k hk q => hx k hk (hy k (hm.lt hk).1 (hm.lt hk).2 q)⟩
theorem MachX.more (h : MachX w base g m X) (hb : Below w.heap.size w w') {Y : Nat → Prop} (hy : ∀ k, Y k → X k ∨ w.heap.size ≤ k) : MachX w' base g m Y := by
  obtain ⟨vr, vo, vd, vs, hm, hx⟩ := h
  refine ⟨vr, vo, vd, vs, hm.below hb, fun k hk q => ?_⟩
  rcases hy k q with z | z
  · exact hx k hk z
  · have := (hm.lt hk).2; omega
theorem MachX.lt (h : MachX w base g m X) : base ≤ g ∧ g < w.heap.size := by
  obtain ⟨vr, vo, vd, vs, hm, hx⟩ := h
  exact hm.lt (.inl rfl)
theorem MachX.drew (h : MachX w base g m X) : MachX w.drew base g m X := h.below ((Below.refl _ _).drew)
def ApplyPost' (w : World) (base g : Nat) (X : Nat → Prop) (q : Ig.M × Int × Int) (e : Ending) (w' : World) : Prop :=
  e = .returned (.tuple #[.int .i64 q.2.1, .int .i64 q.2.2]) ∧ MachX w' base g q.1 X ∧ Only (fun k => base ≤ k ∧ ¬ X k) w w'
theorem applyX (h : MachX w base g m X) (hI : Ig.Inv m) (v c s n : Int) (A : Option Addr) (d l : Nat) (bs : List Pt.Point) (hl : bs.length = l) (hr : Reads w w.heap.size 3 A bs.length (bs.flatMap pointCells)) (hwf : ∀ p ∈ bs, Pt.wf p) (hn : bs.length ≤ 140737488355328) (hX : ∀ k, X k → k < w.heap.size) (hA : ∀ b off, A = some ⟨b, off, none⟩ → X b ∨ b < base) (hbase : base ≤ w.heap.size) :
    Calls Tryz.prog 6 #[.pointer (some ⟨g, 0, none⟩), .agg #[.int .i64 v, .int .i64 c, .int .i64 s, .int .i64 n, .slice A l d]] w (ApplyPost' w base g X (Ig.applyM m v c s n bs)) := by
  subst hl
  obtain ⟨vr, vo, vd, vs, hm, hx⟩ := h
  refine (apply_mach hm hI v c s n A d bs hr (fun _ b off e q => ?_) hwf hn hbase).mono fun e w' h => ?_
  · rcases hA b off e with z | z
    · exact hx b q z
    · have := (hm.lt q).1; omega
  · obtain ⟨vr', vo', vd', vs', he, hm', ho, hf⟩ := h
    refine ⟨he, ⟨vr', vo', vd', vs', hm', fun k hk q => ?_⟩, ho.mono fun k hk q => ⟨(hm.lt q).1, hx k q⟩⟩
    rcases hf k hk with z | z
    · exact hx k z q
    · have := hX k q; omega
theorem atX (h : MachX w base g m X) : Calls Tryz.prog 32 #[.pointer (some ⟨g, 0, none⟩)] w fun e w' => e = .returned (.int .i64 m.at_) ∧ w = w' := by
  obtain ⟨vr, vo, vd, vs, hm, hx⟩ := h
  exact machAt_any hm
theorem openX (h : MachX w base g m X) (hn : m.opn.length ≤ 1000000) : Calls Tryz.prog 28 #[.pointer (some ⟨g, 0, none⟩)] w (OwnPPost w m.opn) := by
  obtain ⟨vr, vo, vd, vs, hm, hx⟩ := h
  exact machOpen_any hm (by omega)
theorem rowsX (h : MachX w base g m X) (hn : m.rows.length ≤ 1000000) : Calls Tryz.prog 29 #[.pointer (some ⟨g, 0, none⟩)] w (OwnPost w m.rows) := by
  obtain ⟨vr, vo, vd, vs, hm, hx⟩ := h
  exact machRows_any hm (by omega)
theorem digsX (h : MachX w base g m X) (hn : m.digs.length ≤ 1000000) : Calls Tryz.prog 30 #[.pointer (some ⟨g, 0, none⟩)] w (OwnDPost w m.digs) := by
  obtain ⟨vr, vo, vd, vs, hm, hx⟩ := h
  exact machDigs_any hm (by omega)
theorem sealsX (h : MachX w base g m X) (hn : m.seals.length ≤ 1000000) : Calls Tryz.prog 31 #[.pointer (some ⟨g, 0, none⟩)] w (OwnFPost w m.seals) := by
  obtain ⟨vr, vo, vd, vs, hm, hx⟩ := h
  exact machSeals_any hm (by omega)
theorem copyX (h : MachX w base g m X) (hI : Ig.Inv m) : Calls Tryz.prog 13 #[.pointer (some ⟨g, 0, none⟩)] w (CopyPost w m) := by
  obtain ⟨vr, vo, vd, vs, hm, hx⟩ := h
  have h1 := Se.may_len hI.rows
  have h2 := Ig.inv_len hI
  have h3 := hI.dl
  have h4 := hI.sl
  have h5 := hI.at1
  exact copy_mach hm (by omega) (by omega) (by omega) (by omega)
theorem snapX (h : MachX w base g m X) (hI : Ig.Inv m) : Calls Tryz.prog 10 #[.pointer (some ⟨g, 0, none⟩)] w (SnapPost w (Ig.snapR m)) := by
  obtain ⟨vr, vo, vd, vs, hm, hx⟩ := h
  have h3 := hI.dl
  have h5 := hI.at1
  exact snap_mach hm hI.at0 hI.at1 (by omega) hI.dr
theorem newX (w : World) : Calls Tryz.prog 4 #[] w fun e w' => e = .returned (.pointer (some ⟨w.heap.size, 0, none⟩)) ∧ MachX w' w.heap.size w.heap.size Ig.m0 (fun _ => False) ∧ Below w.heap.size w w' :=
  (machNew_any w).mono fun e w' ⟨he, hm, hb⟩ => ⟨he, ⟨_, _, _, _, hm, fun k hk q => q⟩, hb⟩
end
def Ig.m1 : Ig.M := ⟨1, [(1, 0, 1, 1)], [], [], []⟩
theorem Ig.begun_eq : Ig.applyM Ig.m0 0 0 0 0 [] = (Ig.m1, 1, 0) := by rfl
theorem Ig.inv1 : Ig.Inv Ig.m1 := by
  have := Ig.inv_apply Ig.inv0 0 0 0 0 []
  rw [Ig.begun_eq] at this
  exact this
/-- a session's entry -/
def Ig.pt (t v : Int) : Pt.Point := (⟨#[115]⟩, t, v)
end Go.Proofs.YtmnigoibbcigdaaGreat
/- What a session's writes do to the plain machine; sorted buffers by their members (chapter 11). No walk in sight. -/
namespace Go.Proofs.YtmnigoibbcigdaaGreat
open Go.RowKit
set_option linter.unusedVariables false
namespace Ig

theorem pt_may {t v : Int} (h1 : -2147483648 ≤ t ∧ t ≤ 2147483647) (h2 : -2147483648 ≤ v ∧ v ≤ 2147483647) : Pt.mayB (pt t v) = true := by
  unfold pt Pt.mayB
  rw [show Pt.nameB (⟨#[115]⟩ : ByteArray) = true from by decide +kernel, (Pt.smallB_iff _).2 h1, (Pt.smallB_iff _).2 h2]; rfl
theorem pt_batch {t v : Int} (h1 : -2147483648 ≤ t ∧ t ≤ 2147483647) (h2 : -2147483648 ≤ v ∧ v ≤ 2147483647) : Pt.batchB [pt t v] = true := by
  unfold Pt.batchB
  rw [List.all_cons, pt_may h1 h2]; rfl
theorem pt_wf {t v : Int} (h1 : -2147483648 ≤ t ∧ t ≤ 2147483647) (h2 : -2147483648 ≤ v ∧ v ≤ 2147483647) : ∀ p ∈ [pt t v], Pt.wf p := fun p hp => by
  rw [List.mem_singleton] at hp; subst hp; exact wf_of (pt_may h1 h2)
theorem may_write {k : Int} {bs : List Pt.Point} (h0 : 0 ≤ k) (h1 : k ≤ 2147483647) (hb : Pt.batchB bs = true) : mayB 0 0 1 k bs = true := by
  unfold mayB
  rw [hb]
  have : numB k = true := num_yes (by omega) (by omega)
  simp only [List.all_cons, List.all_nil, this]
  rfl
theorem row_may (r : Se.Row) : Se.mayB [r] = true := by
  unfold Se.mayB Se.upB
  simp
theorem row_idx {q r u : Int} : Se.idx [((1 : Int), q, r, u)] 1 = 0 := by unfold Se.idx; simp
theorem row_at {q r u : Int} : Se.at_ [((1 : Int), q, r, u)] 1 = (1, q, r, u) := by unfold Se.at_; rw [row_idx]; rfl
theorem row_idx_no {q r u s : Int} (h : s ≠ 1) : Se.idx [((1 : Int), q, r, u)] s = 1 := by
  unfold Se.idx
  rw [List.findIdx_cons]
  have : decide (((1 : Int), q, r, u).1 = s) = false := decide_eq_false (fun e => h e.symm)
  rw [this]
  rfl
theorem ap_new {q r u k t : Int} (ht : 1 ≤ t) (hk : q < k) : Se.applyR [((1 : Int), q, r, u)] 1 k t = ([(1, k, t, t)], t, true) := by
  unfold Se.applyR
  rw [if_neg (by rw [row_may]; simp; omega), if_neg (by omega), row_idx, row_at, if_neg (by simp; omega), if_neg (by simp; omega)]
  rfl
theorem ap_again {r u k t : Int} (ht : 1 ≤ t) : Se.applyR [((1 : Int), k, r, u)] 1 k t = ([(1, k, r, u)], r, false) := by
  unfold Se.applyR
  rw [if_neg (by rw [row_may]; simp; omega), if_neg (by omega), row_idx, row_at, if_neg (by simp), if_pos (by simp)]
theorem ap_stale {q r u k t : Int} (ht : 1 ≤ t) (hk : k < q) : Se.applyR [((1 : Int), q, r, u)] 1 k t = ([(1, q, r, u)], -1, false) := by
  unfold Se.applyR
  rw [if_neg (by rw [row_may]; simp; omega), if_neg (by omega), row_idx, row_at, if_pos (by simp; omega)]
theorem ap_gone {q r u s k t : Int} (ht : 1 ≤ t) (hs : s ≠ 1) (h0 : s ≠ 0) : Se.applyR [((1 : Int), q, r, u)] s k t = ([(1, q, r, u)], -1, false) := by
  unfold Se.applyR
  rw [if_neg (by rw [row_may]; simp; omega), if_neg h0, row_idx_no hs, if_pos (by simp)]
theorem ask_new {q r u k : Int} (hk : q < k) : (Se.askR [((1 : Int), q, r, u)] 1 k 4096).1 = 0 := by
  unfold Se.askR
  rw [if_neg (by omega), row_idx, row_at, if_neg (by simp), if_neg (by simp; omega), if_neg (by simp; omega)]
theorem ask_again {r u k : Int} : (Se.askR [((1 : Int), k, r, u)] 1 k 4096).1 = 0 := by
  unfold Se.askR
  rw [if_neg (by omega), row_idx, row_at, if_neg (by simp), if_neg (by simp), if_pos (by simp)]
theorem ask_stale {q r u k : Int} (hk : k < q) : (Se.askR [((1 : Int), q, r, u)] 1 k 4096).1 = 3 := by
  unfold Se.askR
  rw [if_neg (by omega), row_idx, row_at, if_neg (by simp), if_pos (by simp; omega)]
theorem ask_gone {q r u s k : Int} (hs : s ≠ 1) (h0 : 1 ≤ s ∧ s ≤ 4096) : (Se.askR [((1 : Int), q, r, u)] s k 4096).1 = 4 := by
  unfold Se.askR
  rw [if_neg (by omega), row_idx_no hs, if_pos (by simp), if_pos h0]
theorem take_write {m : M} {q r u k : Int} {bs : List Pt.Point} (hrows : m.rows = [(1, q, r, u)]) (hk : q < k) (h0 : 0 ≤ k) (h1 : k ≤ 2147483647) (hb : Pt.batchB bs = true) (ht : 1 ≤ m.at_) :
    takeM m 0 0 1 k bs = (⟨m.at_, [(1, k, m.at_, m.at_)], setAll m.opn bs, m.digs, m.seals⟩, m.at_, 0) := by
  unfold takeM
  rw [if_pos (may_write h0 h1 hb), hrows, ap_new ht hk, ask_new hk]
  simp only [true_and]
  rw [if_pos (by omega)]
  unfold codeOf
  rw [if_neg (by omega)]
theorem take_again {m : M} {r u k : Int} {bs : List Pt.Point} (hrows : m.rows = [(1, k, r, u)]) (h0 : 0 ≤ k) (h1 : k ≤ 2147483647) (hb : Pt.batchB bs = true) (ht : 1 ≤ m.at_) (hr : 0 ≤ r) :
    takeM m 0 0 1 k bs = (m, r, 0) := by
  unfold takeM
  rw [if_pos (may_write h0 h1 hb), hrows, ap_again ht, ask_again]
  have hn : ¬ (r < 0 ∧ (0 : Int) ≠ 3) := by omega
  unfold codeOf
  simp only
  rw [if_neg hn, ← hrows]
  simp
theorem take_stale {m : M} {q r u k : Int} {bs : List Pt.Point} (hrows : m.rows = [(1, q, r, u)]) (hk : k < q) (h0 : 0 ≤ k) (h1 : k ≤ 2147483647) (hb : Pt.batchB bs = true) (ht : 1 ≤ m.at_) :
    takeM m 0 0 1 k bs = (m, -1, 3) := by
  unfold takeM
  rw [if_pos (may_write h0 h1 hb), hrows, ap_stale ht hk, ask_stale hk]
  unfold codeOf
  rw [if_neg (by simp), ← hrows]
  simp
theorem take_gone {m : M} {q r u s k : Int} (hrows : m.rows = [(1, q, r, u)]) (hs : s ≠ 1) (hs1 : 1 ≤ s ∧ s ≤ 4096) (h0 : 0 ≤ k) (h1 : k ≤ 2147483647) (ht : 1 ≤ m.at_) :
    takeM m 0 0 s k [] = (m, -1, 4) := by
  have hm : mayB 0 0 s k [] = true := by
    unfold mayB
    have e1 : numB k = true := num_yes (by omega) (by omega)
    have e2 : numB s = true := num_yes (by omega) (by omega)
    simp only [List.all_cons, List.all_nil, e1, e2]
    simp [numB, Pt.batchB]
  unfold takeM
  rw [if_pos hm, hrows, ap_gone ht hs (by omega), ask_gone hs hs1]
  unfold codeOf
  rw [← hrows]
  simp
theorem apply_open {m : M} (v c s n : Int) (bs : List Pt.Point) (h : m.at_ < 4096) (h8 : ¬ (m.at_ + 1) % 8 = 0) : applyM m v c s n bs = takeM (up m) v c s n bs := apply_go (by omega) h8

/-! sorted buffers by their members -/
theorem cmp_self (p : Pt.Point) : Pt.cmpP p p = 0 := by
  have := cmp_neg p p
  omega
theorem mem_setP_iff {ps : List Pt.Point} (h : Sorted ps) (p q : Pt.Point) : q ∈ setP ps p ↔ q = p ∨ (q ∈ ps ∧ Pt.cmpP q p ≠ 0) := by
  rw [sorted_pair] at h
  unfold setP
  split
  · rename_i hh
    obtain ⟨hl, h0⟩ := has_lt hh
    rw [List.mem_iff_getElem]
    constructor
    · rintro ⟨i, hi, rfl⟩
      rw [List.length_set] at hi
      rw [List.getElem_set]
      by_cases e : lo ps p = i
      · rw [if_pos e]; exact .inl rfl
      · rw [if_neg e]
        right
        refine ⟨List.getElem_mem hi, ?_⟩
        rw [← cmp_right h0]
        rcases Nat.lt_or_ge i (lo ps p) with z | z
        · have := sorted_pair.2 h i (lo ps p) z hl; omega
        · have := sorted_pair.2 h (lo ps p) i (by omega) hi
          have := cmp_neg ps[lo ps p] ps[i]; omega
    · rintro (rfl | ⟨hq, hne⟩)
      · exact ⟨lo ps q, by rw [List.length_set]; exact hl, by rw [List.getElem_set_self]⟩
      · obtain ⟨i, hi, rfl⟩ := List.mem_iff_getElem.1 hq
        refine ⟨i, by rw [List.length_set]; exact hi, ?_⟩
        rw [List.getElem_set_ne]
        intro e
        subst e
        exact hne h0
  · rename_i hh
    have hno : ∀ hl : lo ps p < ps.length, Pt.cmpP ps[lo ps p] p ≠ 0 := fun hl e => hh (by rw [has_at rfl hl]; exact decide_eq_true e)
    have hall : ∀ x ∈ ps, Pt.cmpP x p ≠ 0 := fun x hx => by
      obtain ⟨i, hi, rfl⟩ := List.mem_iff_getElem.1 hx
      rcases Nat.lt_or_ge i (lo ps p) with z | z
      · have := lo_ahead (ps := ps) (p := p) i z; omega
      · by_cases e : i = lo ps p
        · subst e; exact hno hi
        · intro e0
          have h1 := sorted_pair.2 h (lo ps p) i (by omega) hi
          rw [cmp_right e0] at h1
          exact lo_behind (by omega) h1
    constructor
    · intro hq
      rcases List.mem_append.1 hq with hq | hq
      · have := List.mem_of_mem_take hq; exact .inr ⟨this, hall q this⟩
      · rcases List.mem_cons.1 hq with hq | hq
        · exact .inl hq
        · have := List.mem_of_mem_drop hq; exact .inr ⟨this, hall q this⟩
    · rintro (rfl | ⟨hq, _⟩)
      · exact List.mem_append_right _ (List.mem_cons_self ..)
      · rw [← List.take_append_drop (lo ps p) ps] at hq
        rcases List.mem_append.1 hq with hq | hq
        · exact List.mem_append_left _ hq
        · exact List.mem_append_right _ (List.mem_cons_of_mem _ hq)
theorem sorted_ext {a b : List Pt.Point} (ha : Sorted a) (hb : Sorted b) (h : ∀ x, x ∈ a ↔ x ∈ b) : a = b := by
  rw [sorted_pair] at ha hb
  induction a generalizing b with
  | nil =>
    cases b with
    | nil => rfl
    | cons y b => exact absurd ((h y).2 (List.mem_cons_self ..)) (by simp)
  | cons x a ih =>
    cases b with
    | nil => exact absurd ((h x).1 (List.mem_cons_self ..)) (by simp)
    | cons y b =>
      rw [List.pairwise_cons] at ha hb
      have hxy : x = y := by
        rcases List.mem_cons.1 ((h x).1 (List.mem_cons_self ..)) with e | e
        · exact e
        · rcases List.mem_cons.1 ((h y).2 (List.mem_cons_self ..)) with f | f
          · exact f.symm
          · have h1 := ha.1 y f
            have h2 := hb.1 x e
            have := cmp_neg x y
            omega
      subst hxy
      have hne : ∀ z, z ∈ a → z ≠ x := fun z hz e => by subst e; have := ha.1 z hz; rw [cmp_self] at this; omega
      have hne' : ∀ z, z ∈ b → z ≠ x := fun z hz e => by subst e; have := hb.1 z hz; rw [cmp_self] at this; omega
      congr 1
      refine ih ha.2 hb.2 fun z => ⟨fun hz => ?_, fun hz => ?_⟩
      · rcases List.mem_cons.1 ((h z).1 (List.mem_cons_of_mem _ hz)) with e | e
        · exact absurd e (hne z hz)
        · exact e
      · rcases List.mem_cons.1 ((h z).2 (List.mem_cons_of_mem _ hz)) with e | e
        · exact absurd e (hne' z hz)
        · exact e
theorem cmp_pt (t v t' v' : Int) : Pt.cmpP (pt t v) (pt t' v') = Lib.compareInt t t' := by
  unfold Pt.cmpP pt orV
  simp only
  rw [show Lib.compareBytes (⟨#[115]⟩ : ByteArray).data.toList (⟨#[115]⟩ : ByteArray).data.toList = 0 from by decide +kernel]
  simp
end Ig
end Go.Proofs.YtmnigoibbcigdaaGreat
