/- Joined texts: RmApply, SeGet, IgLoad, IgTwo. -/
import Derived.Test.YtmnigoibbcigdaaGreatK10
import Derived.Test.YtmnigoibbcigdaaGreatK11
import Derived.Test.YtmnigoibbcigdaaGreatK12
import Derived.Test.YtmnigoibbcigdaaGreatK7
import Derived.BigQuiet
import Derived.WalkMore
import Derived.Deep.RegionHeld3
import Derived.Deep.DeepCutAuto
/- The walk through the reference's Apply (chapter 11). -/
namespace Go.Proofs.YtmnigoibbcigdaaGreat
open Go.RowKit
set_option linter.unusedVariables false

/-- the entry's box and the batch, as the walk reads them at any later world -/
structure RIn (w : World) (base g : Nat) (vr vo vd vs : Value) (b : Nat) (v c s n : Int) (A : Option Addr) (d : Nat) (bs : List Pt.Point) (w1 : World) : Prop where
  box : Blk w1 b 36 #[.int .i64 v, .int .i64 c, .int .i64 s, .int .i64 n, .slice A bs.length d]
  far : ¬ Foot g vr vo vd vs b
  bat : Reads w1 w1.heap.size 3 A bs.length (bs.flatMap pointCells)
theorem RIn.below {w w1 w2 : World} {base g : Nat} {vr vo vd vs : Value} {b : Nat} {v c s n : Int} {A : Option Addr} {d : Nat} {bs : List Pt.Point} (h : RIn w base g vr vo vd vs b v c s n A d bs w1) (hb : Below w1.heap.size w1 w2) : RIn w base g vr vo vd vs b v c s n A d bs w2 :=
  ⟨h.box.below hb h.box.lt, h.far, (h.bat.below hb).more hb.size⟩
theorem RIn.cells {w w1 : World} {base g : Nat} {vr vo vd vs : Value} {b : Nat} {v c s n : Int} {A : Option Addr} {d : Nat} {bs : List Pt.Point} (h : RIn w base g vr vo vd vs b v c s n A d bs w1) : w1.cell? ⟨b, 0, none⟩ = some (.int .i64 v) ∧ w1.cell? ⟨b, 1, none⟩ = some (.int .i64 c) ∧ w1.cell? ⟨b, 2, none⟩ = some (.int .i64 s) ∧ w1.cell? ⟨b, 3, none⟩ = some (.int .i64 n) ∧ w1.cell? ⟨b, 4, none⟩ = some (.slice A bs.length d) :=
  ⟨h.box.cell 0, h.box.cell 1, h.box.cell 2, h.box.cell 3, h.box.cell 4⟩
theorem RIn.set_ {w w1 : World} {base g : Nat} {vr vo vd vs : Value} {b : Nat} {v c s n : Int} {A : Option Addr} {d : Nat} {bs : List Pt.Point} (h : RIn w base g vr vo vd vs b v c s n A d bs w1) (hA : 0 < bs.length → ∀ b' off, A = some ⟨b', off, none⟩ → ¬ Foot g vr vo vd vs b') (j : Nat) (u : Value) : RIn w base g vr vo vd vs b v c s n A d bs (w1.setCell ⟨g, j, none⟩ u) :=
  ⟨h.box.far (p := ⟨g, j, none⟩) (fun e => h.far (.inl e)) u, h.far, by
    have hs : (w1.setCell ⟨g, j, none⟩ u).heap.size = w1.heap.size := by simp [World.setCell]
    rw [hs]
    exact reads_far h.bat (fun h0 b' off e e' => hA h0 b' off e (.inl e'))⟩
section
variable {w w' : World} {ops : Array Oper} {o : Oper} {a : Act} {K : Act → World → Prop} {Q : Exit → Act → World → Prop} {E : Prop}
theorem step_rhash (w : World) (hgd : o.guard = none) (x : Operand) (t : TypeId) (ho : o.op = .call { callee := .value (.func 27), args := #[x], argTypes := #[t] }) (s : ByteArray) (hx : a.eval x = .string s) (hs : s.size ≤ maxLen) (X : Nat) (hX : Hid (Sm.hashL s.data.toList = X))
    (h : K (a.put o.dst (.int .u64 X)) w) :
    if Region.wanted o (yielded ops a.tmps) = true then Oper.wp Tryz.prog o a w K Q else E := by
  have hw : Region.wanted o (yielded ops a.tmps) = true := by simp [Region.wanted, hgd]
  rw [if_pos hw]
  unfold Oper.wp execOp
  simp only [ho, resolve, List.map_toArray, List.map_cons, List.map_nil, hx, BigFrame.eval_func]
  go_simp
  refine (rhash_any s w hs).mono ?_
  rintro e w' ⟨rfl, rfl⟩
  rw [hX.out]
  exact h
end
section
variable {w : World} {base g : Nat} {m : Ig.M} {vr vo vd vs : Value}
set_option maxRecDepth 100000 in
set_option maxHeartbeats 4000000 in
theorem rapply_mach (h : RMach w base g m vr vo vd vs) (hI : Ig.Inv m) (v c s n : Int) (A : Option Addr) (d : Nat) (bs : List Pt.Point) (hr : Reads w w.heap.size 3 A bs.length (bs.flatMap pointCells)) (hne : 0 < bs.length → ∀ b off, A = some ⟨b, off, none⟩ → ¬ Foot g vr vo vd vs b) (hwf : ∀ p ∈ bs, Pt.wf p) (hn : bs.length ≤ 140737488355328) (hbase : base ≤ w.heap.size) :
    Calls Tryz.prog 7 #[.pointer (some ⟨g, 0, none⟩), .agg #[.int .i64 v, .int .i64 c, .int .i64 s, .int .i64 n, .slice A bs.length d]] w (RMachPost w base g vr vo vd vs (Ig.applyM m v c s n bs)) := by
  have hat0 := hI.at0
  have hat1 := hI.at1
  have hgw := h.blk.lt
  have hgne : ¬ w.heap.size = g := by omega
  have hE := Blk.new w 36 #[.int .i64 v, .int .i64 c, .int .i64 s, .int .i64 n, .slice A bs.length d]
  have hb1 : Below w.heap.size w (w.alloc (.cells #[.int .i64 v, .int .i64 c, .int .i64 s, .int .i64 n, .slice A bs.length d] 36)) := (Below.refl _ _).alloc (Nat.le_refl _) _
  have hM1 := h.below hb1
  have m0 := h.cells.1
  have m0' := hM1.cells.1
  have f0' := hM1.blk.frozen 0
  by_cases hfull : 4096 ≤ m.at_
  · have HA := Lib.hid (@apply_full m v c s n bs hfull)
    have Hb1 := Lib.hid hb1
    have HM := Lib.hid h
    clear hr hne hwf hE h hI hb1 hM1
    generalize Ig.applyM m v c s n bs = res at *
    go_enter Tryz.func7, Tryz.ntmps7
    go_wp2_with fail
    go_ret2
    exact ⟨by rw [HA.out]; rfl, _, _, _, _, by rw [HA.out]; exact HM.out.below Hb1.out, Only.new _ Hb1.out, fun k hk => .inl hk⟩
  · have HA : Hid (Ig.applyM m v c s n bs = if (m.at_ + 1) % 8 = 0 then (Ig.sealM (Ig.takeM (Ig.up m) v c s n bs).1, (Ig.takeM (Ig.up m) v c s n bs).2) else Ig.takeM (Ig.up m) v c s n bs) := by
      show _ = _
      split
      · rename_i h8; exact apply_seal hfull h8
      · rename_i h8; exact apply_go hfull h8
    have Hmid := Lib.hid (Ig.mid_take hI hfull v c s n bs)
    have Hup := Lib.hid (Ig.mid_up hI hfull)
    have Hat := Lib.hid (Ig.take_at (Ig.up m) v c s n bs)
    have hMs := h.setAt (m.at_ + 1)
    have hss : (w.setCell ⟨g, 0, none⟩ (.int .i64 (m.at_ + 1))).heap.size = w.heap.size := by simp [World.setCell]
    have hbs : Below (w.setCell ⟨g, 0, none⟩ (.int .i64 (m.at_ + 1))).heap.size (w.setCell ⟨g, 0, none⟩ (.int .i64 (m.at_ + 1))) ((w.setCell ⟨g, 0, none⟩ (.int .i64 (m.at_ + 1))).alloc (.cells #[.int .i64 v, .int .i64 c, .int .i64 s, .int .i64 n, .slice A bs.length d] 36)) := (Below.refl _ _).alloc (Nat.le_refl _) _
    have HO1 : Only (Foot g vr vo vd vs) w ((w.setCell ⟨g, 0, none⟩ (.int .i64 (m.at_ + 1))).alloc (.cells #[.int .i64 v, .int .i64 c, .int .i64 s, .int .i64 n, .slice A bs.length d] 36)) := ((Only.refl _ w).setCell (p := ⟨g, 0, none⟩) (fun _ => .inl rfl) _).alloc _
    have HR1 : Hid (RAt w base g vr vo vd vs (Ig.up m) ((w.setCell ⟨g, 0, none⟩ (.int .i64 (m.at_ + 1))).alloc (.cells #[.int .i64 v, .int .i64 c, .int .i64 s, .int .i64 n, .slice A bs.length d] 36))) := ⟨vr, vo, vd, vs, hMs.below hbs, HO1, fun k hk => .inl hk⟩
    have hsz : ((w.setCell ⟨g, 0, none⟩ (.int .i64 (m.at_ + 1))).alloc (.cells #[.int .i64 v, .int .i64 c, .int .i64 s, .int .i64 n, .slice A bs.length d] 36)).heap.size = w.heap.size + 1 := by simp [World.setCell]
    have hEu := Blk.new (w.setCell ⟨g, 0, none⟩ (.int .i64 (m.at_ + 1))) 36 #[.int .i64 v, .int .i64 c, .int .i64 s, .int .i64 n, .slice A bs.length d]
    rw [hss] at hEu
    have HIn1 : Hid (RIn w base g vr vo vd vs w.heap.size v c s n A d bs ((w.setCell ⟨g, 0, none⟩ (.int .i64 (m.at_ + 1))).alloc (.cells #[.int .i64 v, .int .i64 c, .int .i64 s, .int .i64 n, .slice A bs.length d] 36))) :=
      ⟨hEu, fun q => by have := (h.lt q).2; omega, by rw [hsz]; exact ((reads_far hr (fun h0 b off e q => hne h0 b off e (.inl q))).below (hbs.mono (by omega))).more (by omega)⟩
    have HNe := Lib.hid hne
    have Hwf := Lib.hid hwf
    obtain ⟨e0, e1, e2, e3, e4⟩ := HIn1.out.cells
    clear hr hne hwf hE h hI hb1 hM1 hEu hMs hbs hss HO1 hsz
    generalize Ig.applyM m v c s n bs = res at *
    go_enter Tryz.func7, Tryz.ntmps7
    go_wp2_with fail
    generalize hw1 : (w.setCell ⟨g, 0, none⟩ (.int .i64 (m.at_ + 1))).alloc (.cells #[.int .i64 v, .int .i64 c, .int .i64 s, .int .i64 n, .slice A bs.length d] 36) = w1 at *
    clear hw1 m0 m0' f0'
    have hgx := HR1.out.lt
    refine (rentryMay_any v c s n A d bs w1 w1.heap.size HIn1.out.bat (Nat.le_refl _) hn Hwf.out).mono ?_
    rintro e w2 ⟨rfl, hb2⟩
    have HR2 := Lib.hid (HR1.out.below hb2)
    have HIn2 := Lib.hid (HIn1.out.below hb2)
    clear hb2 HR1 HIn1 e0 e1 e2 e3 e4 hgx
    generalize hup : Ig.up m = mu at *
    have Hu0 : Hid (mu.at_ = m.at_ + 1) := by show _ = _; rw [← hup]; rfl
    clear hup
    generalize hq : Ig.takeM mu v c s n bs = q at *
    have Hq := Lib.hid hq
    clear hq
    have hg2 := HR2.out.lt
    go_upto_if 30 with fail
    go_cut [6, 7] (fun r cd wx => r = .int .i64 q.2.1 ∧ cd = .int .i64 q.2.2 ∧ Hid (RAt w base g vr vo vd vs q.1 wx))
    case first =>
        have hu1 := Hup.out.at0
        cases hmay : Ig.mayB v c s n bs
        · have HT : Hid (q = (mu, -1, 9)) := by show _ = _; rw [← Hq.out]; exact take_no hmay
          clear Hq Hmid Hup HA Hat HNe Hwf hmay
          go_wp2_with fail
          go_meet
          exact ⟨by rw [HT.out], by rw [HT.out], by rw [HT.out]; exact HR2⟩
        · have hn8 := Ig.may_len hmay
          have HT : Hid (q = (⟨mu.at_, (Se.applyR mu.rows s n mu.at_).1, if (Se.applyR mu.rows s n mu.at_).2.2 = true ∧ s ≠ 0 then Ig.setAll mu.opn bs else mu.opn, mu.digs, mu.seals⟩, (Se.applyR mu.rows s n mu.at_).2.1, Ig.rcode (Se.askR mu.rows s n mu.at_).1 (Se.applyR mu.rows s n mu.at_).2.1)) := by
            show _ = _; rw [← Hq.out, ← Ig.code_same]; unfold Ig.takeM; rw [if_pos hmay]
          have Hpo : Hid (∀ p ∈ mu.opn, Pt.mayB p = true) := Hup.out.pts
          have Hpb : Hid (∀ p ∈ bs, Pt.mayB p = true) := Ig.may_pts hmay
          have Hso := Lib.hid Hup.out.sorted
          have hlo : mu.opn.length ≤ 64 := Ig.mid_len Hup.out
          have hlr : mu.rows.length ≤ 4 := Se.may_len Hup.out.rows
          clear Hq Hmid Hup HA Hat hmay
          obtain ⟨c0, ⟨Ar, cr, c1, hrr⟩, _, hfz⟩ := HR2.out.cells
          obtain ⟨e0, e1, e2, e3, e4⟩ := HIn2.out.cells
          have Hrr := Lib.hid hrr
          have C0 := Lib.hid c0
          have C1 := Lib.hid c1
          clear hrr hfz
          have hAp := rapply_any Ar cr mu.rows v c s n mu.at_ A bs.length d w2.drew w2.heap.size Hrr.out (Nat.le_refl _) (by omega)
          have hAk := fun W (hb : Below w2.heap.size w2 W) => Lib.hid (rask_any Ar cr mu.rows s n mu.at_ W w2.heap.size (Hrr.out.below hb) hb.size (by omega))
          unfold ApplyPost entryCells at hAp
          unfold AskPost at hAk
          generalize Se.askR mu.rows s n mu.at_ = ak at *
          generalize Se.applyR mu.rows s n mu.at_ = ap at *
          obtain ⟨code, ares⟩ := ak
          obtain ⟨R', rs, eff⟩ := ap
          simp only at hAp hAk HT
          have HAp := Lib.hid hAp
          have HAk := Lib.hid hAk
          clear hAp hAk
          go_upto_region 6 with fail
          go_cut [8, 9, 10] (fun a b c' wx => ∃ A4 c4, a = .slice A4 R'.length c4 ∧ b = .int .i64 rs ∧ c' = .bool eff ∧ Hid (wx.ownsRow w2.heap.size 96 4 (.slice A4 R'.length c4) R'.length (R'.flatMap rowCells)) ∧ Hid (Below w2.heap.size w2 wx))
          case first =>
            have HSS : Hid (∀ W, Below w2.heap.size w2 W → W.cell? ⟨g, 0, none⟩ = some (.int .i64 mu.at_) ∧ W.cell? ⟨g, 1, none⟩ = some (.slice Ar mu.rows.length cr) ∧ W.cell? ⟨w.heap.size, 0, none⟩ = some (.int .i64 v) ∧ W.cell? ⟨w.heap.size, 1, none⟩ = some (.int .i64 c) ∧ W.cell? ⟨w.heap.size, 2, none⟩ = some (.int .i64 s) ∧ W.cell? ⟨w.heap.size, 3, none⟩ = some (.int .i64 n) ∧ W.cell? ⟨w.heap.size, 4, none⟩ = some (.slice A bs.length d)) := fun W hb =>
              ⟨(hb.cell (p := ⟨g, 0, none⟩) hg2).trans c0, (hb.cell (p := ⟨g, 1, none⟩) hg2).trans c1, (HIn2.out.below hb).cells⟩
            clear HAk HT Hpo Hpb Hso HNe Hwf HIn2 HR2 Hrr c0 c1 e0 e1 e2 e3 e4
            go_region_held3 (fun W => W.cell? ⟨g, 0, none⟩ = some (.int .i64 mu.at_) ∧ W.cell? ⟨g, 1, none⟩ = some (.slice Ar mu.rows.length cr) ∧ W.cell? ⟨w.heap.size, 0, none⟩ = some (.int .i64 v) ∧ W.cell? ⟨w.heap.size, 1, none⟩ = some (.int .i64 c) ∧ W.cell? ⟨w.heap.size, 2, none⟩ = some (.int .i64 s) ∧ W.cell? ⟨w.heap.size, 3, none⟩ = some (.int .i64 n) ∧ W.cell? ⟨w.heap.size, 4, none⟩ = some (.slice A bs.length d))
              (first | exact HSS.out _ Hb4.out | exact HSS.out _ ((Below.refl _ _).drew))
              (first | (go_at_call 23; (with_reducible refine HAp.out.mono ?_); rintro e w4 ⟨v4, rfl, hown4, hb4⟩; obtain ⟨A4, c4, rfl, hnc4, _⟩ := own_slice hown4; have Hb4 : Hid (Below w2.heap.size w2 w4) := ((Below.refl _ w2).drew).trans hb4; have Hown4 : Hid (w4.ownsRow w2.heap.size 96 4 (.slice A4 R'.length c4) R'.length (R'.flatMap rowCells)) := hown4; clear hown4 hb4))
            go_wp2_with fail
            go_meet
            exact ⟨_, _, rfl, rfl, rfl, Hown4, Hb4⟩
          case rest =>
            obtain ⟨A4, c4, rfl, rfl, rfl, Hown4, Hb4⟩ := hcut
            generalize wc = w4 at *
            clear c0 c1 e0 e1 e2 e3 e4 HAp
            have HR4 := Lib.hid (HR2.out.below Hb4.out)
            have HIn4 := Lib.hid (HIn2.out.below Hb4.out)
            have hs4 := Hb4.out.size
            have hA4 := fun W (hb : Below w4.heap.size w4 W) => Lib.hid (HAk.out W (Hb4.out.trans (hb.mono hs4))).out
            have HA4 := Lib.hid hA4
            clear hA4 HAk
            go_upto_if 46 with fail
            go_cut [7] (fun cd wx => cd = .int .i64 (Ig.rcode code rs) ∧ Hid (Below w4.heap.size w4 wx))
            case first =>
              as_aux_lemma =>
                by_cases h1 : rs < 0
                · have Hrc : Hid (Ig.rcode code rs = if code = 3 then 3 else 4) := by show _ = _; unfold Ig.rcode; rw [if_pos h1]
                  have HA := fun x : Aft w4.heap.size w4 => Lib.hid (HA4.out x.world x.below).out
                  have hcx := fun (x : Aft w4.heap.size w4) (p : Addr) (hp : p.block < w2.heap.size) => (Hb4.out.trans (x.below.mono hs4)).cell hp
                  have m0 := fun x => (hcx x ⟨g, 0, none⟩ hg2).trans C0.out
                  have m1 := fun x => (hcx x ⟨g, 1, none⟩ hg2).trans C1.out
                  have x2 := fun x : Aft w4.heap.size w4 => (HIn4.out.below x.below).cells.2.2.1
                  have x3 := fun x : Aft w4.heap.size w4 => (HIn4.out.below x.below).cells.2.2.2.1
                  clear hcx HA4 HT Hpo Hpb Hso HNe Hwf HIn2 HR2 HR4 HIn4 C0 C1 Hrr
                  go_wp2_with fail
                  refine wp_region_aft w4.heap.size w4 (by kernel_rfl) (by kernel_rfl) (Below.refl _ _) ?_
                  repeat (go_big_quiet_step (first | (go_at_call 24; with_reducible exact aft_new (Nat.le_refl _) (Hid.out (HA _)))))
                  refine wpQuiet_nil ?_
                  rintro _ ⟨x, rfl⟩
                  have Hbx := Lib.hid x.below
                  clear m0 m1 x2 x3 HA
                  by_cases h3 : code = 3
                  · have hb3 : (code == 3) = true := by simp [h3]
                    have Hrc' : Hid (Ig.rcode code rs = code) := by show _ = _; rw [Hrc.out, if_pos h3, h3]
                    clear Hrc h3
                    go_wp2_with fail
                    go_meet
                    exact ⟨by rw [Hrc'.out], Hbx⟩
                  · have hb3 : (code == 3) = false := by simp [h3]
                    have Hrc' : Hid (Ig.rcode code rs = 4) := by show _ = _; rw [Hrc.out, if_neg h3]
                    clear Hrc h3
                    go_wp2_with fail
                    go_meet
                    exact ⟨by rw [Hrc'.out], Hbx⟩
                · have Hrc : Hid (Ig.rcode code rs = 0) := by show _ = _; unfold Ig.rcode; rw [if_neg h1]
                  clear HA4 HT Hpo Hpb Hso HNe Hwf HIn2 HR2 HR4 HIn4 C0 C1
                  go_wp2_with fail
                  go_meet
                  exact ⟨by rw [Hrc.out], Lib.hid (Below.refl _ _)⟩
            case rest =>
              obtain ⟨rfl, Hb5⟩ := hcut
              generalize wc = w5 at *
              have HR5 := Lib.hid (HR4.out.below Hb5.out)
              have HIn5 := Lib.hid (HIn4.out.below Hb5.out)
              have Hown5 := Lib.hid (own_only Hown4.out (Only.new (fun _ => False) Hb5.out) (fun _ _ h => h))
              have c1 := (Hb5.out.cell (p := ⟨g, 1, none⟩) (Nat.lt_of_lt_of_le hg2 hs4)).trans ((Hb4.out.cell (p := ⟨g, 1, none⟩) hg2).trans C1.out)
              have f1 := HR5.out.cells.2.2.2 1
              have hs2 := HR2.out.size
              have HR6 := Lib.hid (HR5.out.setRows hbase Hown5.out hs2)
              have HIn6 := Lib.hid (HIn5.out.set_ HNe.out 1 (.slice A4 R'.length c4))
              clear HR2 HR4 HIn2 HIn4 Hown4 Hb4 Hb5 HR5 HIn5 Hown5 C0 C1 HA4 Hrr hs4 hs2 hg2
              go_wp2_with fail
              generalize w5.setCell ⟨g, 1, none⟩ (.slice A4 R'.length c4) = w6 at *
              clear c1 f1 w5
              by_cases hdo : eff = true ∧ s ≠ 0
              · have HT2 : Hid (q = (⟨mu.at_, R', Ig.setAll mu.opn bs, mu.digs, mu.seals⟩, rs, Ig.rcode code rs)) := by show _ = _; rw [HT.out, if_pos hdo]
                obtain ⟨rfl, hs0⟩ := hdo
                have hz : (s != 0) = true := by simp [hs0]
                clear HT hs0
                go_loopw [13] (fun i wr => ∃ k : Nat, k ≤ bs.length ∧ i = .int .i64 (k : Int) ∧ Hid (RAt w base g vr vo vd vs ⟨mu.at_, R', Ig.setAll mu.opn (bs.take k), mu.digs, mu.seals⟩ wr) ∧ Hid (RIn w base g vr vo vd vs w.heap.size v c s n A d bs wr)) (fun i _ => bs.length - (intOf i).toNat)
                case atStart => exact ⟨0, Nat.zero_le _, rfl, HR6, HIn6⟩
                case round =>
                  obtain ⟨k, hk, rfl, hRk, hIk⟩ := hrel
                  by_cases hlt : k < bs.length
                  · have d1 : decide (k < bs.length) = true := decide_eq_true hlt
                    have d2 : decide ((k : Int) < (bs.length : Int)) = true := decide_eq_true (by omega)
                    have d3 : (k : Int) < (bs.length : Int) := by omega
                    obtain ⟨g0, _, ⟨Ao, co, g2, hro⟩, hfz⟩ := hRk.out.cells
                    obtain ⟨e0, e1, e2, e3, e4⟩ := hIk.out.cells
                    obtain ⟨b', off, hA', hb', hc'⟩ := hIk.out.bat.2 (by omega)
                    subst hA'
                    have hmem : bs[k] ∈ bs := List.getElem_mem hlt
                    have hset : Ig.setAll mu.opn (bs.take (k + 1)) = Ig.setP (Ig.setAll mu.opn (bs.take k)) bs[k] := by
                      unfold Ig.setAll
                      rw [List.take_succ_eq_append_getElem hlt, List.foldl_append]; rfl
                    have hsrt := Ig.setAll_sorted Hso.out (bs.take k)
                    have hres := Rf.res_set bs[k] hsrt
                    rw [← hset] at hres
                    have hln := Ig.setAll_len mu.opn (bs.take k)
                    have hlk := List.length_take_le k bs
                    have hmy : ∀ q ∈ Ig.setAll mu.opn (bs.take k), q.1.size ≤ 9223372036854775807 := fun q hq => by
                      have h : Pt.mayB q = true := by
                        rcases Ig.mem_setAll hq with z | z
                        · exact Hpo.out q z
                        · exact Hpb.out q (List.mem_of_mem_take z)
                      have := (may_parts h).1
                      omega
                    have hpy : bs[k].1.size ≤ 9223372036854775807 := by have := (may_parts (Hpb.out _ hmem)).1; omega
                    have x0 := hc' (k * 3 + 0) (.string bs[k].1) (by rw [flat_at pointCells 3 (fun _ => rfl) bs k 0 hlt (by omega)]; rfl)
                    have x1 := hc' (k * 3 + 1) (.int .i64 bs[k].2.1) (by rw [flat_at pointCells 3 (fun _ => rfl) bs k 1 hlt (by omega)]; rfl)
                    have x2 := hc' (k * 3 + 2) (.int .i64 bs[k].2.2) (by rw [flat_at pointCells 3 (fun _ => rfl) bs k 2 hlt (by omega)]; rfl)
                    rw [← Nat.add_assoc] at x0 x1 x2
                    rw [Nat.add_zero] at x0
                    have HIns := Lib.hid (rinsert_any Ao co (Ig.setAll mu.opn (bs.take k)) bs[k] wr.drew wr.heap.size (by exact hro) (Nat.le_refl _) (by omega) hmy hpy)
                    rw [hres] at HIns
                    have hgr := hRk.out.lt
                    have f2 := hfz 2
                    clear hc' hb' hmem hset hsrt hres hmy hpy hro hfz
                    simp only at g2
                    have hlc : (Ig.setAll mu.opn (bs.take k)).length ≤ 1000 := by omega
                    generalize Ig.setAll mu.opn (bs.take k) = cur at *
                    generalize hnx : Ig.setAll mu.opn (bs.take (k + 1)) = nxt at *
                    have Hnx := Lib.hid hnx
                    clear hnx
                    generalize bs[k] = pk at *
                    obtain ⟨pn, pt, pv⟩ := pk
                    simp only at x0 x1 x2 HIns
                    go_wp2_with fail
                    go_region_with (first | (go_at_call 25; refine HIns.out.mono ?_; rintro e w7 ⟨v7, rfl, hown7, hb7⟩; obtain ⟨A7, c7, rfl, _, _⟩ := own_slice hown7; have hB7 : Below wr.heap.size wr w7 := ((Below.refl _ wr).drew).trans hb7; have t2 := (hB7.cell (p := ⟨g, 2, none⟩) hgr).trans g2; have f7 := (hB7.frozen (p := ⟨g, 2, none⟩) hgr).trans f2))
                    all_goals
                      have HR7 := Lib.hid (hRk.out.below hB7)
                      have HIn7 := Lib.hid (hIk.out.below hB7)
                      have HR8 := Lib.hid (HR7.out.setOpen hbase hown7 hRk.out.size)
                      have HIn8 := Lib.hid (HIn7.out.set_ HNe.out 2 (.slice A7 nxt.length c7))
                      clear hown7 hb7 hB7 t2 f7 HR7 HIn7 hRk hIk HIns x0 x1 x2 g0 g2 e0 e1 e2 e3 e4 f2 HR6 HIn6
                      go_wp2_with fail
                      go_roundw
                      case rel => exact ⟨k + 1, by omega, by go_num, by rw [Hnx.out]; exact HR8, HIn8⟩
                      case measure => simp [intOf]; omega
                  · have d1 : decide (k < bs.length) = false := decide_eq_false hlt
                    have d2 : decide ((k : Int) < (bs.length : Int)) = false := decide_eq_false (by omega)
                    have d3 : ¬ (k : Int) < (bs.length : Int) := by omega
                    obtain ⟨e0, e1, e2, e3, e4⟩ := hIk.out.cells
                    have HRk : Hid (RAt w base g vr vo vd vs q.1 wr) := by
                      have := hRk.out
                      rw [List.take_of_length_le (by omega)] at this
                      rw [HT2.out]; exact this
                    clear hRk hIk HR6 HIn6 Hpo Hpb Hso
                    go_wp2_with fail
                    go_meet
                    exact ⟨by rw [HT2.out], by rw [HT2.out], HRk⟩
              · have HT2 : Hid (q = (⟨mu.at_, R', mu.opn, mu.digs, mu.seals⟩, rs, Ig.rcode code rs)) := by show _ = _; rw [HT.out, if_neg hdo]
                have HRk : Hid (RAt w base g vr vo vd vs q.1 w6) := by
                  show RAt _ _ _ _ _ _ _ _ _
                  rw [HT2.out]; exact HR6.out
                have hcs : eff = false ∨ (eff = true ∧ (s != 0) = false) := by
                  cases eff
                  · exact .inl rfl
                  · right; refine ⟨rfl, ?_⟩; by_cases hz : s = 0
                    · simp [hz]
                    · exact absurd ⟨rfl, hz⟩ hdo
                obtain ⟨e0, e1, e2, e3, e4⟩ := HIn6.out.cells
                clear hdo HT HR6 HIn6 Hpo Hpb Hso HNe Hwf
                go_loopw [13] (fun i wr => i = .int .i64 0 ∧ wr = w6) (fun _ _ => 0)
                case atStart => exact ⟨rfl, rfl⟩
                case round =>
                  obtain ⟨rfl, rfl⟩ := hrel
                  by_cases hl : 0 < bs.length
                  · have d1 : decide (0 < bs.length) = true := decide_eq_true hl
                    have d2 : decide ((0 : Int) < (bs.length : Int)) = true := decide_eq_true (by omega)
                    rcases hcs with rfl | ⟨rfl, hz⟩
                    all_goals
                      go_wp2_with fail
                      go_meet
                      exact ⟨by rw [HT2.out], by rw [HT2.out], HRk⟩
                  · have d1 : decide (0 < bs.length) = false := decide_eq_false hl
                    have d2 : decide ((0 : Int) < (bs.length : Int)) = false := decide_eq_false (by omega)
                    go_wp2_with fail
                    go_meet
                    exact ⟨by rw [HT2.out], by rw [HT2.out], HRk⟩
    case rest =>
      obtain ⟨rfl, rfl, HR3⟩ := hcut
      generalize wc = w3 at *
      clear HR2 HIn2 HNe Hwf Hup Hq hg2 w2 w1
      obtain ⟨⟨at2, R2, O2, D2, F2⟩, rs2, cd2⟩ := q
      have hat2 : at2 = m.at_ + 1 := Hat.out.trans Hu0.out
      subst hat2
      clear Hat Hu0
      have hmid := Hmid.out
      have hb1 := hmid.at0
      have hb2 := hmid.at1
      have hl2 := Ig.mid_len hmid
      have hdl := hmid.dl
      have hsl := hmid.sl
      have Hpts := Lib.hid hmid.pts
      clear hmid Hmid hat0 hat1
      simp only at hb1 hb2 hl2 hdl hsl Hpts HA
      obtain ⟨vr3, vo3, vd3, vs3, hM3, ho3, hf3⟩ := HR3.out
      generalize m.at_ + 1 = a1 at *
      have hdl' : D2.length ≤ 512 := by omega
      have hsl' : F2.length ≤ 512 := by omega
      have HM3 := Lib.hid hM3
      have HO3 := Lib.hid ho3
      have HF3 := Lib.hid hf3
      have hs3 := ho3.size
      clear hdl hsl HR3 hM3 ho3 hf3
      obtain ⟨c0, c1, c2, c3, c4⟩ := HM3.out.cells
      simp only at c0
      by_cases h8 : a1 % 8 = 0
      · have HA2 : Hid (res = (Ig.sealM ⟨a1, R2, O2, D2, F2⟩, rs2, cd2)) := by show _ = _; rw [HA.out, if_pos h8]
        have h8b : (a1 % 8 == 0) = true := by rw [beq_iff_eq]; exact h8
        clear h8 HA
        obtain ⟨Ao, co, rfl, hnco, hro⟩ := own_slice HM3.out.opn
        have HP := fun W (hb : Below w3.heap.size w3 W) => Lib.hid (rsgput_any (a1 / 8) Ao co O2 W w3.heap.size (hro.below hb) hb.size (by omega) (fun p hp => Ig.wf_of (Hpts.out p hp)) (fun p hp => by have := (may_parts (Hpts.out p hp)).1; omega))
        have hq0 : 0 ≤ a1 / 8 := by omega
        have hq1 : a1 / 8 ≤ 512 := by omega
        clear hro Hpts
        go_wp2_with fail
        refine (HP _ (Below.refl _ _)).out.mono ?_
        rintro e w4 ⟨rfl, hb4⟩
        have HM4 := Lib.hid (HM3.out.below hb4)
        have HO4 : Hid (Only (Foot g vr vo vd vs) w w4) := HO3.out.trans (Only.new (fun _ => False) hb4) (fun _ _ h => absurd h id)
        have hs4 : w.heap.size ≤ w4.heap.size := Nat.le_trans hs3 hb4.size
        clear hb4 HP HO3 HM3 c0 c1 c2 c3 c4 hs3
        have HA3 : Hid (res = (⟨a1, R2, [], D2 ++ [(Sm.hashL (Sg.putR (a1 / 8) O2).1.data.toList : Int)], F2 ++ [(a1 / 8, (Sg.putR (a1 / 8) O2).1)]⟩, rs2, cd2)) := HA2.out
        have hSz : (Sg.putR (a1 / 8) O2).1.size ≤ maxLen := putR_small _ _
        clear HA2
        generalize Sg.putR (a1 / 8) O2 = pr at *
        obtain ⟨S, er⟩ := pr
        simp only at HA3 hSz
        obtain ⟨p0, p1, p2, p3, p4⟩ := HM4.out.cells
        simp only at p0
        have fr3 := HM4.out.blk.frozen 3
        have HXlt := Lib.hid (Sm.hashL_lt S.data.toList)
        generalize hX : Sm.hashL S.data.toList = X at *
        have HX := Lib.hid hX
        clear hX
        obtain ⟨i1, hi1, hy0, hy1, hy2⟩ := info_parts info_cloneF
        have hvd : Hid (∀ k, vd3.ownBlock = some k → k < w4.heap.size ∧ k ≠ g) := fun k hk => ⟨(own_lt HM4.out.digs hk).2, HM4.out.apart HM4.out.digs (by decide) k hk⟩
        have hg4 : g < w4.heap.size := HM4.out.blk.lt
        have hba4 : base ≤ w4.heap.size := by omega
        have hD4 : Hid (w4.ownsRow base 56 1 vd3 D2.length (D2.flatMap digCells)) := HM4.out.digs
        have p3d : w4.drew.cell? ⟨g, 3, none⟩ = some vd3 := p3
        go_wp2_with fail
        go_region_law (first
          | (refine step_rhash (o := ⟨some 125, _, _, _, _, _⟩) _ rfl (.tmp 124) _ (by rfl) S (by rfl) hSz X HX ?_)
          | (refine step_pushD (o := ⟨some 127, _, _, _, _, _⟩) (base := base) (v := vd3) _ rfl (.tmp 123) (.tmp 126) (by rfl) D2 (by exact ((Hid.out hD4).alloc _).drew) (by rfl) w4.heap.size (by rfl) (X : Int) (by exact (drew_cell _ _).trans (cell_new_at _ _ (by first | rfl | simp) _ _)) (by omega) (by first | omega | (simp; omega)) ?_; intro gg cap w5 hown5 hgr hat5; have hm5 := ((HM4.out.blk.alloc _).drew).grown hgr (fun e => absurd rfl (hvd.out g e.symm).2); have fr5 := hm5.frozen 3; have t35 := hm5.cell 3; have Hm5 := Lib.hid hm5; clear hm5))
        all_goals
          have ho45 : Only (fun k => vd3.ownBlock = some k) w4 w5 := (((Only.refl _ w4).alloc _).drew).trans (Only.of_grown (S := fun k => vd3.ownBlock = some k) hgr (fun k hk _ => hk)) (fun _ _ h => h)
          have HM6 := Lib.hid (HM4.out.setDigs ho45 hown5)
          have HO6 : Hid (Only (Foot g vr vo vd vs) w (w5.setCell ⟨g, 3, none⟩ (.slice (some ⟨gg, 0, none⟩) (D2.length + 1) cap))) := (HO4.out.trans ho45 (fun j hj q => by
            rcases HF3.out j (.inr (.inr (.inr (.inl q)))) with z | z
            · exact z
            · omega)).setCell (p := ⟨g, 3, none⟩) (fun _ => .inl rfl) _
          have HF6 : Hid (∀ k, Foot g vr3 (.slice Ao O2.length co) (.slice (some ⟨gg, 0, none⟩) (D2.length + 1) cap) vs3 k → Foot g vr vo vd vs k ∨ w.heap.size ≤ k) := fun k hk => by
            rcases hk with q | q | q | q | q
            · exact HF3.out k (.inl q)
            · exact HF3.out k (.inr (.inl q))
            · exact HF3.out k (.inr (.inr (.inl q)))
            · rcases hat5 with z | z
              · exact HF3.out k (.inr (.inr (.inr (.inl (z.trans (by rw [← q]; rfl))))))
              · have : gg = k := by simpa [Value.ownBlock] using q
                right; rw [← this, z]; simp [World.drew]; omega
            · exact HF3.out k (.inr (.inr (.inr (.inr q))))
          have hs6 : w.heap.size ≤ (w5.setCell ⟨g, 3, none⟩ (.slice (some ⟨gg, 0, none⟩) (D2.length + 1) cap)).heap.size := HO6.out.size
          clear ho45 hown5 hgr hat5 fr5 t35 Hm5 HM4 HO4 p0 p1 p2 p3 p4 fr3 HX hvd hg4 hD4 p3d hs4 hba4
          generalize w5.setCell ⟨g, 3, none⟩ (.slice (some ⟨gg, 0, none⟩) (D2.length + 1) cap) = w6 at *
          obtain ⟨p0, p1, p2, p3, p4⟩ := HM6.out.cells
          have f4 := HM6.out.blk.frozen 4
          have hba6 : base ≤ w6.heap.size := by omega
          have hS6 : Hid (w6.ownsRow base 59 2 vs3 F2.length (F2.flatMap fileCells)) := HM6.out.seals
          go_wp2_with (at_builtin; refine wpList_push_only w6 rfl _ _ 29 rfl base 59 i1 _ 2 24 Tryz.underlying29 hi1 hy0 hy1 hy2 rfl (by decide) _ F2.length _ (by rfl) hS6.out [.int .i64 (a1 / 8), .string S] (by rfl) rfl (by simp [Value.oneCell']) (by unfold maxLen; omega) (by omega) hba6 ?_; intro v7 w7 hown7 ho7 hg7; obtain ⟨A7, c7, rfl, hnc7, _⟩ := own_slice hown7; have hm7 := HM6.out.blk.only ho7 (fun q => HM6.out.apart HM6.out.seals (by decide) g q rfl); have t4 := hm7.cell 4; have f47 := hm7.frozen 4; have t2 := hm7.cell 2; have f27 := hm7.frozen 2)
          have HM8 := Lib.hid (HM6.out.setSeals ho7 (F := F2 ++ [(a1 / 8, S)]) (by rw [files_snoc, List.length_append]; exact hown7))
          have HM9 := Lib.hid (HM8.out.setOpen (P := []) (Only.refl _ _) (own_nil _ _ _ _))
          have HO9 : Hid (Only (Foot g vr vo vd vs) w ((w7.setCell ⟨g, 4, none⟩ (.slice A7 (F2.length + 1) c7)).setCell ⟨g, 2, none⟩ (.slice none 0 0))) := ((HO6.out.trans ho7 (fun j hj q => by
            rcases HF3.out j (.inr (.inr (.inr (.inr q)))) with z | z
            · exact z
            · omega)).setCell (p := ⟨g, 4, none⟩) (fun _ => .inl rfl) _).setCell (p := ⟨g, 2, none⟩) (fun _ => .inl rfl) _
          have HF9 : Hid (∀ k, Foot g vr3 (.slice none 0 0) (.slice (some ⟨gg, 0, none⟩) (D2.length + 1) cap) (.slice A7 (F2.length + 1) c7) k → Foot g vr vo vd vs k ∨ w.heap.size ≤ k) := fun k hk => by
            rcases hk with q | q | q | q | q
            · exact HF6.out k (.inl q)
            · exact HF6.out k (.inr (.inl q))
            · simp [Value.ownBlock] at q
            · exact HF6.out k (.inr (.inr (.inr (.inl q))))
            · rcases hg7 k q with z | z
              · exact HF6.out k (.inr (.inr (.inr (.inr z))))
              · exact .inr (Nat.le_trans hs6 z)
          go_ret2
          exact ⟨by first | (rw [HA3.out]; done) | (rw [HA3.out]; rfl), _, _, _, _, by rw [HA3.out]; exact HM9.out, HO9.out, HF9.out⟩
      · have HA2 : Hid (res = (⟨a1, R2, O2, D2, F2⟩, rs2, cd2)) := by show _ = _; rw [HA.out, if_neg h8]
        have h8b : (a1 % 8 == 0) = false := by rw [beq_eq_false_iff_ne]; exact h8
        clear h8 HA
        go_wp2_with fail
        go_ret2
        exact ⟨by first | (rw [HA2.out]; done) | (rw [HA2.out]; rfl), _, _, _, _, by rw [HA2.out]; exact HM3.out, HO3.out, HF3.out⟩
end
end Go.Proofs.YtmnigoibbcigdaaGreat
/- The walk through session.Get (chapter 10). -/
namespace Go.Proofs.YtmnigoibbcigdaaGreat
open Go.RowKit
set_option linter.unusedVariables false

theorem rd1_at (s : ByteArray) (st : Pt.St) (hs : s.size ≤ 4611686018427387904) (h : -9223372036854775808 ≤ st.1 ∧ st.1 ≤ 9223372036854775807) : -9223372036854775808 ≤ (Se.rd1 s st).1 ∧ (Se.rd1 s st).1 ≤ 9223372036854775807 :=
  Pt.rdNum_at s _ _ st h.2 h.1 (by omega)
theorem rdK_len (s : ByteArray) (st : Pt.St) (k : Nat) : (Se.rdK s st k).1.length = k := by
  induction k with
  | zero => rfl
  | succ k ih => rw [Se.rdK, List.length_append, ih]; rfl
theorem rdK_snoc (s : ByteArray) (st : Pt.St) (k : Nat) : (Se.rdK s st (k + 1)).1 = (Se.rdK s st k).1 ++ [(Se.rdRow s (Se.rdK s st k).2).1] := by rw [Se.rdK]
theorem rdK_st (s : ByteArray) (st : Pt.St) (k : Nat) : (Se.rdK s st (k + 1)).2 = (Se.rdRow s (Se.rdK s st k).2).2 := by rw [Se.rdK]
def SGetPost (w : World) (q : List Se.Row × Int) (e : Ending) (w' : World) : Prop :=
  ∃ v, e = .returned (.tuple #[v, .int .i64 q.2]) ∧ w'.ownsRow w.heap.size 96 4 v q.1.length (q.1.flatMap rowCells) ∧ Below w.heap.size w w'
theorem sget_ok {s : ByteArray} {k : Int} {st0 : Pt.St} {rows : List Se.Row} (h0 : Pt.rdNum s 0 4 (0, false) = (k, st0)) (hk : Se.rdK s st0 k.toNat = (rows, ((s.size : Int), false))) (hm : Se.mayB rows = true) : Se.getR s = (rows, 0) := by
  unfold Se.getR; rw [h0]; simp only; rw [hk]; simp only; rw [if_pos (by simp [hm])]
theorem sget_no {s : ByteArray} {k : Int} {st0 : Pt.St} {rows : List Se.Row} {a : Int} {bad : Bool} (h0 : Pt.rdNum s 0 4 (0, false) = (k, st0)) (hk : Se.rdK s st0 k.toNat = (rows, (a, bad))) (h : (!bad && a == (s.size : Int)) = false ∨ Se.mayB rows = false) : Se.getR s = ([], 1001) := by
  unfold Se.getR; rw [h0]; simp only; rw [hk]
  show (if bad = false ∧ a = (s.size : Int) ∧ Se.mayB rows = true then _ else _) = _
  rw [if_neg]
  rintro ⟨h1, h2, h3⟩
  rcases h with h | h
  · rw [h1, h2] at h; simp at h
  · rw [h] at h3; cases h3
set_option maxRecDepth 100000 in
set_option maxHeartbeats 2000000 in
theorem seget_any (s : ByteArray) (w : World) (hs : s.size ≤ 140737488355328) :
    Calls Tryz.prog 56 #[.string s] w (SGetPost w (Se.getR s)) := by
  obtain ⟨i0, hi, hz0, hz1, hz2⟩ := info_parts info_srow
  obtain ⟨k, st0, h0⟩ : ∃ k st0, Pt.rdNum s 0 4 (0, false) = (k, st0) := ⟨_, _, rfl⟩
  have hkr := Pt.rdNum_range s 0 4 (0, false) (by omega) (by omega)
  have hst := Pt.rdNum_at s 0 4 (0, false) (by simp) (by simp) (by omega)
  rw [h0] at hkr hst
  simp only at hkr hst
  obtain ⟨n, rfl⟩ : ∃ n : Nat, k = (n : Int) := ⟨k.toNat, by omega⟩
  have HOk := Lib.hid (fun rows hk hm => @sget_ok s _ st0 rows h0 hk hm)
  have HNo := Lib.hid (fun rows a bad hk h => @sget_no s _ st0 rows a bad h0 hk h)
  have H0 := fun W g hR => Lib.hid (readerNum_any s 0 false 0 4 W g hR (by omega) (by omega))
  rw [h0] at H0
  have Hst := Lib.hid hst
  clear h0 hst
  rw [Int.toNat_natCast] at HOk HNo
  generalize Se.getR s = res at *
  go_enter Tryz.func56, Tryz.ntmps56
  go_wp2_with fail
  have hR := RdAt.alloc (RdAt.new w s 0) (.cells #[.pointer (some ⟨w.heap.size, 0, none⟩)] 99)
  have hp := cell_new (w.alloc (.cells #[.string s, .int .i64 0, .bool false] 101)) #[.pointer (some ⟨w.heap.size, 0, none⟩)] 99 0
  rw [World.size_alloc] at hp
  have hb2 : Below w.heap.size w ((w.alloc (.cells #[.string s, .int .i64 0, .bool false] 101)).alloc (.cells #[.pointer (some ⟨w.heap.size, 0, none⟩)] 99)) := ((Below.refl _ _).alloc (Nat.le_refl _) _).alloc (by simp) _
  have hs2 : ((w.alloc (.cells #[.string s, .int .i64 0, .bool false] 101)).alloc (.cells #[.pointer (some ⟨w.heap.size, 0, none⟩)] 99)).heap.size = w.heap.size + 2 := by simp
  generalize (w.alloc (.cells #[.string s, .int .i64 0, .bool false] 101)).alloc (.cells #[.pointer (some ⟨w.heap.size, 0, none⟩)] 99) = w2 at *
  have hgp : w.heap.size + 2 ≤ w2.heap.size := by omega
  have Hb2 := Lib.hid hb2
  have Hp := Lib.hid (show w2.cell? ⟨w.heap.size + 1, 0, none⟩ = some (.pointer (some ⟨w.heap.size, 0, none⟩)) from hp)
  refine (H0 w2 _ hR).out.mono ?_
  clear hb2 hs2 hp hR H0
  rintro e w3 ⟨rfl, hR3, ho3⟩
  have HR3 := Lib.hid hR3
  have Ho3 := Lib.hid ho3
  obtain ⟨g, hg⟩ : ∃ g, g = w.heap.size := ⟨_, rfl⟩
  rw [← hg] at Hp HR3 Ho3 hgp ⊢
  have Hg := Lib.hid hg
  clear hR3 ho3 hg
  go_wp2_with fail
  go_loopw [6, 13] (fun v i wr => ∃ j : Nat, j ≤ n ∧ i = .int .i64 (j : Int) ∧ Hid (RdAt wr g s (Se.rdK s st0 j).2) ∧ Hid (wr.ownsRow (g + 2) 96 4 v j ((Se.rdK s st0 j).1.flatMap rowCells)) ∧ Hid (-9223372036854775808 ≤ (Se.rdK s st0 j).2.1 ∧ (Se.rdK s st0 j).2.1 ≤ 9223372036854775807) ∧ Hid (wr.cell? ⟨g + 1, 0, none⟩ = some (.pointer (some ⟨g, 0, none⟩))) ∧ g + 2 ≤ wr.heap.size ∧ Hid (Below g w wr)) (fun _ i _ => n - (intOf i).toNat)
  case atStart => exact ⟨0, Nat.zero_le _, rfl, Lib.hid (by show RdAt _ _ _ _; rw [Se.rdK]; exact HR3.out), Lib.hid (own_nil _ _ _ _), Lib.hid (by show _ ∧ _; rw [Se.rdK]; exact Hst.out), Lib.hid ((Ho3.out.cell (p := ⟨g + 1, 0, none⟩) (show g + 1 < _ by omega) (show ¬ g + 1 = g by omega)).trans Hp.out), Nat.le_trans hgp Ho3.out.size, Lib.hid ((by rw [Hg.out]; exact Hb2.out : Below g w w2).trans (Ho3.out.below (fun k hk e => by omega) (by omega)))⟩
  case round =>
    obtain ⟨j, hj, rfl, hRd, hown, hbd, hcp, hszr, hbw⟩ := hrel
    by_cases hlt : j < n
    · have hrow : Se.rdRow s (Se.rdK s st0 j).2 = (((Se.rdN s (Se.rdK s st0 j).2).1, (Se.rdN s (Se.rd1 s (Se.rdK s st0 j).2)).1, (Se.rdN s (Se.rd1 s (Se.rd1 s (Se.rdK s st0 j).2))).1, (Se.rdN s (Se.rd1 s (Se.rd1 s (Se.rd1 s (Se.rdK s st0 j).2)))).1), Se.rd1 s (Se.rd1 s (Se.rd1 s (Se.rd1 s (Se.rdK s st0 j).2)))) := by unfold Se.rdRow; rfl
      have hsn := rdK_snoc s st0 j
      have hss := rdK_st s st0 j
      rw [hrow] at hsn hss
      simp only at hsn hss
      have Hsn := Lib.hid hsn
      have Hss := Lib.hid hss
      have hlen := rdK_len s st0 j
      have Hlen := Lib.hid hlen
      clear hrow hsn hss hlen
      generalize (Se.rdK s st0 j).1 = rows at *
      generalize (Se.rdK s st0 j).2 = st at *
      have b1 := Lib.hid (rd1_at s st (by omega) hbd.out)
      have b2 := Lib.hid (rd1_at s _ (by omega) b1.out)
      have b3 := Lib.hid (rd1_at s _ (by omega) b2.out)
      have b4 := Lib.hid (rd1_at s _ (by omega) b3.out)
      have G1 := Lib.hid (getnum1_any s st wr g (g + 1) hcp.out hRd.out (by omega) hbd.out)
      have G2 := fun W hp hR => Lib.hid (getnum1_any s (Se.rd1 s st) W g (g + 1) hp hR (by omega) b1.out)
      have G3 := fun W hp hR => Lib.hid (getnum1_any s (Se.rd1 s (Se.rd1 s st)) W g (g + 1) hp hR (by omega) b2.out)
      have G4 := fun W hp hR => Lib.hid (getnum1_any s (Se.rd1 s (Se.rd1 s (Se.rd1 s st))) W g (g + 1) hp hR (by omega) b3.out)
      generalize Se.rd1 s (Se.rd1 s (Se.rd1 s (Se.rd1 s st))) = st4 at *
      generalize (Se.rdN s (Se.rd1 s (Se.rd1 s (Se.rd1 s st)))).1 = x4 at *
      generalize Se.rd1 s (Se.rd1 s (Se.rd1 s st)) = st3 at *
      generalize (Se.rdN s (Se.rd1 s (Se.rd1 s st))).1 = x3 at *
      generalize Se.rd1 s (Se.rd1 s st) = st2 at *
      generalize (Se.rdN s (Se.rd1 s st)).1 = x2 at *
      generalize Se.rd1 s st = st1 at *
      generalize (Se.rdN s st).1 = x1 at *
      go_wp2_with fail
      refine G1.out.mono ?_
      rintro e wa ⟨rfl, hRa, hoa⟩
      have hsa := hoa.size
      have Hpa := Lib.hid ((hoa.cell (p := ⟨g + 1, 0, none⟩) (show g + 1 < _ by omega) (show ¬ g + 1 = g by omega)).trans hcp.out)
      have HRa := Lib.hid hRa
      have Hoa := Lib.hid hoa
      clear hRa hoa
      go_wp2_with fail
      refine (G2 wa Hpa.out HRa.out).out.mono ?_
      rintro e wb ⟨rfl, hRb, hob⟩
      have hsb := hob.size
      have Hpb := Lib.hid ((hob.cell (p := ⟨g + 1, 0, none⟩) (show g + 1 < _ by omega) (show ¬ g + 1 = g by omega)).trans Hpa.out)
      have HRb := Lib.hid hRb
      have Hob : Hid (Only (fun k => k = g) wr wb) := Hoa.out.trans hob (fun _ _ h => h)
      clear hRb hob
      go_wp2_with fail
      refine (G3 wb Hpb.out HRb.out).out.mono ?_
      rintro e wc ⟨rfl, hRc, hoc⟩
      have hsc := hoc.size
      have Hpc := Lib.hid ((hoc.cell (p := ⟨g + 1, 0, none⟩) (show g + 1 < _ by omega) (show ¬ g + 1 = g by omega)).trans Hpb.out)
      have HRc := Lib.hid hRc
      have Hoc : Hid (Only (fun k => k = g) wr wc) := Hob.out.trans hoc (fun _ _ h => h)
      clear hRc hoc
      go_wp2_with fail
      refine (G4 wc Hpc.out HRc.out).out.mono ?_
      rintro e wd ⟨rfl, hRd4, hod⟩
      have hsd := hod.size
      have Hpd := Lib.hid ((hod.cell (p := ⟨g + 1, 0, none⟩) (show g + 1 < _ by omega) (show ¬ g + 1 = g by omega)).trans Hpc.out)
      have HRd4 := Lib.hid hRd4
      have Hod : Hid (Only (fun k => k = g) wr wd) := Hoc.out.trans hod (fun _ _ h => h)
      have HownD := Lib.hid (own_only hown.out Hod.out (fun k hk e => by have := (own_lt hown.out hk).1; omega))
      clear hRd4 hod
      go_wp2_with (at_builtin; refine wpList_push _ rfl _ _ 26 rfl (g + 2) 96 i0 _ 4 32 Tryz.underlying26 hi hz0 hz1 hz2 rfl (by decide) _ j _ (by rfl) HownD.out [.int .i64 x1, .int .i64 x2, .int .i64 x3, .int .i64 x4] (by rfl) rfl (by simp [Value.oneCell']) (by unfold maxLen; omega) (by omega) wd (Below.refl _ _) (by omega) ?_; intro v8 w8 hown8 hb8)
      have Hown8 : Hid (w8.ownsRow (g + 2) 96 4 v8 (j + 1) ((Se.rdK s st0 (j + 1)).1.flatMap rowCells)) := by
        show World.ownsRow _ _ _ _ _ _ _
        rw [Hsn.out, List.flatMap_append]; exact hown8
      have HR8 : Hid (RdAt w8 g s (Se.rdK s st0 (j + 1)).2) := by show RdAt _ _ _ _; rw [Hss.out]; exact HRd4.out.below hb8 (by omega)
      have Hb48 : Hid (-9223372036854775808 ≤ (Se.rdK s st0 (j + 1)).2.1 ∧ (Se.rdK s st0 (j + 1)).2.1 ≤ 9223372036854775807) := by show _ ∧ _; rw [Hss.out]; exact b4.out
      have Hp8 := Lib.hid ((hb8.cell (p := ⟨g + 1, 0, none⟩) (show g + 1 < g + 2 by omega)).trans Hpd.out)
      have hs8 := hb8.size
      have Hbw8 : Hid (Below g w w8) := hbw.out.trans ((Hod.out.below (B := g) (fun k hk e => by omega) (by omega)).trans (hb8.mono (by omega)))
      clear hown8 hb8
      go_wp2_with fail
      go_roundw
      case rel => exact ⟨j + 1, by omega, by go_num, HR8, Hown8, Hb48, Hp8, by omega, Hbw8⟩
      case measure => simp [intOf]; omega
    · obtain rfl : j = n := by omega
      have hcp' := hcp.out
      have Hbw' : Hid (Below w.heap.size w wr) := by show Below _ _ _; rw [← Hg.out]; exact hbw.out
      have hwg : w.heap.size ≤ g + 2 := by rw [Hg.out]; omega
      have hlen := rdK_len s st0 j
      have HOk' := Lib.hid (fun rows hk hm => HOk.out rows hk hm)
      have HNo' := Lib.hid (fun rows a bad hk h => HNo.out rows a bad hk h)
      clear HOk HNo
      generalize Se.rdK s st0 j = q at *
      obtain ⟨rows, a, bad⟩ := q
      simp only at hRd hown hbd hlen
      obtain ⟨Aq, cq, rfl, hnq, hrd⟩ := own_slice hown.out
      have Hrd : Hid (Reads wr wr.heap.size 4 Aq rows.length (rows.flatMap rowCells)) := by show Reads _ _ _ _ _ _; rw [hlen]; exact hrd
      have HOv := Lib.hid (over_any s a bad wr g hRd.out)
      have hE := Lib.hid (fun h => HOk'.out rows h)
      have hN := Lib.hid (fun h => HNo'.out rows a bad rfl h)
      have Hlen := Lib.hid hlen
      clear HOk' HNo' hrd hlen
      cases hov : (!bad && a == (s.size : Int))
      · have Hres := Lib.hid (hN.out (.inl hov))
        rw [hov] at HOv
        clear hov hE hN
        go_wp2_with fail
        refine HOv.out.mono ?_
        rintro e w9 ⟨rfl, n9, rfl⟩
        go_wp2_with fail
        go_ret2
        exact ⟨_, by rw [Hres.out]; rfl, by rw [Hres.out]; exact own_nil _ _ _ _, below_drewN Hbw'.out _⟩
      · rw [hov] at HOv
        have hbad : bad = false ∧ a = (s.size : Int) := by simpa using hov
        have HM := fun n9 => Lib.hid (semay_any Aq cq rows (wr.drewN n9) wr.heap.size (Hrd.out.drewN n9))
        rw [Hlen.out] at HM
        cases hmay : Se.mayB rows
        · have Hres := Lib.hid (hN.out (.inr hmay))
          rw [hmay] at HM
          clear hov hE hN hbad hmay
          go_wp2_with fail
          refine HOv.out.mono ?_
          rintro e w9 ⟨rfl, n9, rfl⟩
          go_wp2_with fail
          refine (HM n9).out.mono ?_
          rintro e w10 ⟨rfl, n10, rfl⟩
          go_wp2_with fail
          go_ret2
          exact ⟨_, by rw [Hres.out]; rfl, by rw [Hres.out]; exact own_nil _ _ _ _, below_drewN Hbw'.out _⟩
        · have Hres := Lib.hid (hE.out (by rw [hbad.1, hbad.2]) hmay)
          rw [hmay] at HM
          clear hov hE hN hbad hmay
          go_wp2_with fail
          refine HOv.out.mono ?_
          rintro e w9 ⟨rfl, n9, rfl⟩
          go_wp2_with fail
          refine (HM n9).out.mono ?_
          rintro e w10 ⟨rfl, n10, rfl⟩
          go_wp2_with fail
          go_ret2
          exact ⟨_, by rw [Hres.out]; rfl, by rw [Hres.out, Hlen.out]; exact own_drewN (own_down hown.out hwg) (n9 + n10), below_drewN Hbw'.out _⟩
end Go.Proofs.YtmnigoibbcigdaaGreat
/- The walk through Load of a machine (chapter 11). -/
namespace Go.Proofs.YtmnigoibbcigdaaGreat
open Go.RowKit
set_option linter.unusedVariables false

def LoadPost (w : World) (q : Option Ig.M) (e : Ending) (w' : World) : Prop :=
  match q with
  | none => e = .returned (.tuple #[.pointer none, .int .i64 1101]) ∧ Below w.heap.size w w'
  | some m => ∃ g vr vd, e = .returned (.tuple #[.pointer (some ⟨g, 0, none⟩), .int .i64 0]) ∧ Mach w' w.heap.size g m vr (.slice none 0 0) vd (.slice none 0 0) ∧ Below w.heap.size w w'
theorem foot_rd {w : World} {base g r : Nat} {m : Ig.M} {vr vo vd vs : Value} {s : ByteArray} {st : Pt.St} (h : Mach w base g m vr vo vd vs) (hR : RdAt w r s st) : ∀ k, Foot g vr vo vd vs k → ¬ k = r := fun k hk e => by
  subst e
  rcases hk with q | q | q | q | q
  · exact Blk.ne_ h.blk hR (by decide) q.symm
  · exact own_blk_ne h.rows hR (by decide) q
  · exact own_blk_ne h.opn hR (by decide) q
  · exact own_blk_ne h.digs hR (by decide) q
  · exact own_blk_ne h.seals hR (by decide) q
def LdCut (bad : Prop) (w5 : World) (g gm : Nat) (s : ByteArray) (st : Pt.St) (cs : Array Value) (c : Value) (wx : World) : Prop :=
  (c = .bool true ∧ bad ∨ c = .bool false ∧ ¬ bad) ∧ RdAt wx g s st ∧ Blk wx gm 53 cs ∧ Only (fun k => k = g) w5 wx
set_option maxRecDepth 100000 in
set_option maxHeartbeats 8000000 in
theorem load_any (s : ByteArray) (w : World) (hs : s.size ≤ 140737488355328) :
    Calls Tryz.prog 15 #[.string s] w (LoadPost w (Ig.loadR s)) := by
  have HNo := Lib.hid (fun (t : ByteArray) (at_ k e : Int) (st1 st2 st3 : Pt.St) (rows : List Se.Row) => @Ig.load_no s t at_ k e st1 st2 st3 rows)
  have HOv := Lib.hid (fun (t : ByteArray) (at_ k e : Int) (st1 st2 st3 : Pt.St) (rows : List Se.Row) => @Ig.load_over s t at_ k e st1 st2 st3 rows)
  have HYe := Lib.hid (fun (t : ByteArray) (at_ k e : Int) (st1 st2 st3 : Pt.St) (rows : List Se.Row) => @Ig.load_yes s t at_ k e st1 st2 st3 rows)
  have hR0 := RdAt.new w s 0
  have HR0 := Lib.hid hR0
  have Hb0 : Hid (Below w.heap.size w (w.alloc (.cells #[.string s, .int .i64 0, .bool false] 101))) := (Below.refl _ _).alloc (Nat.le_refl _) _
  have hs0 : w.heap.size + 1 ≤ (w.alloc (.cells #[.string s, .int .i64 0, .bool false] 101)).heap.size := by simp
  have hin0 : Ig.In s (0, false) := ⟨0, Nat.zero_le _, rfl⟩
  have H1 := fun W (hR : RdAt W w.heap.size s (0, false)) => Lib.hid (readerNum_any s 0 false 0 4096 W w.heap.size hR (by omega) (by omega))
  have hin1 := Ig.in_num 0 4096 hin0
  have hrg1 := Pt.rdNum_range s 0 4096 (0, false) (by omega) (by omega)
  generalize Ig.loadR s = res at *
  generalize hq1 : Pt.rdNum s 0 4096 (0, false) = q1 at *
  obtain ⟨at_, st1⟩ := q1
  obtain ⟨a1, b1⟩ := st1
  obtain ⟨j1, hj1, ha1⟩ := hin1
  simp only at ha1 hrg1
  subst ha1
  have H2 := fun W (hR : RdAt W w.heap.size s ((j1 : Int), b1)) => Lib.hid (readerText_any s (j1 : Int) b1 65536 W w.heap.size hR (by omega) (by omega) (by omega))
  have hin2 := Ig.in_text 65536 (show Ig.In s ((j1 : Int), b1) from ⟨j1, hj1, rfl⟩)
  have hts : (Pt.rdText s 65536 ((j1 : Int), b1)).1.size ≤ s.size := by
    unfold Pt.rdText
    split
    · show 0 ≤ s.size; omega
    · exact (Pt.getT_at s (j1 : Int) 65536).2.2
  generalize hq2 : Pt.rdText s 65536 ((j1 : Int), b1) = q2 at *
  obtain ⟨t, st2⟩ := q2
  obtain ⟨a2, b2⟩ := st2
  obtain ⟨j2, hj2, ha2⟩ := hin2
  simp only at ha2 hts
  subst ha2
  have H3 := fun W => Lib.hid (seget_any t W (by omega))
  generalize hq3 : Se.getR t = q3 at *
  obtain ⟨rows, ge⟩ := q3
  have H4 := fun W (hR : RdAt W w.heap.size s ((j2 : Int), b2)) => Lib.hid (readerNum_any s (j2 : Int) b2 0 512 W w.heap.size hR (by omega) (by omega))
  have hin4 := Ig.in_num 0 512 (show Ig.In s ((j2 : Int), b2) from ⟨j2, hj2, rfl⟩)
  generalize hq4 : Pt.rdNum s 0 512 ((j2 : Int), b2) = q4 at *
  obtain ⟨k, st3⟩ := q4
  have Hbb : Hid (st3.2 = false → b2 = false) := by
    show _ → _
    intro hb
    cases b2
    · rfl
    · rw [Pt.rdNum_bad] at hq4
      rw [← (Prod.mk.inj hq4).2] at hb
      cases hb
  have HNo' := Lib.hid (fun h => HNo.out t at_ k ge _ _ st3 rows rfl hq2 hq3 hq4 h)
  have HOv' := Lib.hid (fun h => HOv.out t at_ k ge _ _ st3 rows rfl hq2 hq3 hq4 h)
  have HYe' := Lib.hid (fun h h5 => HYe.out t at_ k ge _ _ st3 rows rfl hq2 hq3 hq4 h h5)
  have Hin4 := Lib.hid hin4
  obtain ⟨hat0, hat1⟩ := hrg1
  clear HNo HOv HYe hq1 hq2 hq3 hq4 hin0 hR0 hin4
  go_enter Tryz.func15, Tryz.ntmps15
  go_wp2_with fail
  generalize w.alloc (.cells #[.string s, .int .i64 0, .bool false] 101) = w1 at *
  refine (H1 _ HR0.out).out.mono ?_
  rintro e w2 ⟨rfl, hR2, ho2⟩
  have hs2 := ho2.size
  have HR2 := Lib.hid hR2
  have Hb2 : Hid (Below w.heap.size w w2) := Hb0.out.trans (ho2.below (fun k hk e => by omega) (by omega))
  clear hR2 ho2 HR0 Hb0 H1
  go_wp2_with fail
  have hM := Blk.new w2 53 #[.int .i64 at_, .slice none 0 0, .slice none 0 0, .slice none 0 0, .slice none 0 0]
  have HM := Lib.hid hM
  have HR3 := Lib.hid (HR2.out.alloc (.cells #[.int .i64 at_, .slice none 0 0, .slice none 0 0, .slice none 0 0, .slice none 0 0] 53))
  have Hb3 : Hid (Below w.heap.size w (w2.alloc (.cells #[.int .i64 at_, .slice none 0 0, .slice none 0 0, .slice none 0 0, .slice none 0 0] 53))) := Hb2.out.alloc (by omega) _
  have hs3 : w2.heap.size + 1 ≤ (w2.alloc (.cells #[.int .i64 at_, .slice none 0 0, .slice none 0 0, .slice none 0 0, .slice none 0 0] 53)).heap.size := by simp
  clear hM HR2 Hb2
  generalize w2.alloc (.cells #[.int .i64 at_, .slice none 0 0, .slice none 0 0, .slice none 0 0, .slice none 0 0] 53) = w3 at *
  have hgm : w.heap.size < w2.heap.size := by omega
  generalize w2.heap.size = gm at *
  have hgw : ¬ gm = w.heap.size := by omega
  refine (H2 _ HR3.out).out.mono ?_
  rintro e w4 ⟨rfl, hR4, ho4⟩
  have hs4 := ho4.size
  have HR4 := Lib.hid hR4
  have HM4 := Lib.hid (HM.out.only ho4 hgw)
  have Hb4 : Hid (Below w.heap.size w w4) := Hb3.out.trans (ho4.below (fun k hk e => by omega) (by omega))
  clear hR4 ho4 HR3 HM Hb3 H2
  go_wp2_with fail
  refine (H3 _).out.mono ?_
  rintro e w5 ⟨vr, rfl, hown5, hb5⟩
  have hs5 := hb5.size
  have HR5 := Lib.hid (HR4.out.below hb5 HR4.out.lt)
  have HM5 := Lib.hid (Blk.below HM4.out hb5 HM4.out.lt)
  have Hb5 : Hid (Below w.heap.size w w5) := Hb4.out.trans (hb5.mono (by omega))
  have Hown5 := Lib.hid (own_down hown5 (show w.heap.size ≤ w4.heap.size by omega))
  obtain ⟨Ar, cr, rfl, hncr, _⟩ := own_slice hown5
  have hrow5 : Hid (∀ k, Value.ownBlock (.slice Ar rows.length cr) = some k → k ≠ w.heap.size ∧ k ≠ gm) := fun k hk => by
    have h1 := (own_lt hown5 hk).1
    have h2 := Blk.lt HM4.out
    omega
  clear hb5 HR4 HM4 Hb4 hown5 H3
  have hn5 : w.heap.size + 2 ≤ w5.heap.size := by omega
  have H4d := Lib.hid (H4 w5.drew HR5.out).out
  have m0 := HM5.out.cell 0
  have m0d : w5.drew.cell? ⟨gm, 0, none⟩ = some (.int .i64 at_) := m0
  have r2 := HR5.out.cell2
  obtain ⟨a3, b3⟩ := st3
  have w8 : IntKind.i64.wrap (at_.tdiv 8) = at_ / 8 := by rw [Int.tdiv_eq_ediv_of_nonneg hat0]; exact IntWalk.i64_in _ (by omega)
  have w8' : IntKind.i64.wrap (at_.tmod 8) = at_ % 8 := by rw [Int.tmod_eq_emod_of_nonneg hat0]; exact IntWalk.i64_in _ (by omega)
  have w8'' : at_.tmod 8 = at_ % 8 := by rw [Int.tmod_eq_emod_of_nonneg hat0]
  go_upto_region 4 with fail
  go_cut [49] (fun cx wx => LdCut (k ≠ at_ / 8 ∨ at_ % 8 ≠ 0 ∨ b3 = true ∨ ge ≠ 0) w5 w.heap.size gm s (a3, b3) #[.int .i64 at_, .slice none 0 0, .slice none 0 0, .slice none 0 0, .slice none 0 0] cx wx)
  case first =>
    have hcs : ((k != at_ / 8) = true) ∨ ((k != at_ / 8) = false ∧ (at_ % 8 != 0) = true) ∨ ((k != at_ / 8) = false ∧ (at_ % 8 != 0) = false ∧ b3 = true) ∨ ((k != at_ / 8) = false ∧ (at_ % 8 != 0) = false ∧ b3 = false ∧ (ge != 0) = true) ∨ ((k != at_ / 8) = false ∧ (at_ % 8 != 0) = false ∧ b3 = false ∧ (ge != 0) = false) := by
      cases k != at_ / 8 <;> cases at_ % 8 != 0 <;> cases b3 <;> cases ge != 0 <;> simp
    have HCut : Hid (∀ cx W, (cx = .bool true ∧ (k ≠ at_ / 8 ∨ at_ % 8 ≠ 0 ∨ b3 = true ∨ ge ≠ 0) ∨ cx = .bool false ∧ ¬ (k ≠ at_ / 8 ∨ at_ % 8 ≠ 0 ∨ b3 = true ∨ ge ≠ 0)) → RdAt W w.heap.size s (a3, b3) → Only (fun k => k = w.heap.size) w5.drew W → LdCut (k ≠ at_ / 8 ∨ at_ % 8 ≠ 0 ∨ b3 = true ∨ ge ≠ 0) w5 w.heap.size gm s (a3, b3) #[.int .i64 at_, .slice none 0 0, .slice none 0 0, .slice none 0 0, .slice none 0 0] cx W) := fun cx W h1 h2 h3 => ⟨h1, h2, HM5.out.only (((Only.refl _ w5).drew).trans h3 (fun _ _ h => h)) hgw, ((Only.refl _ w5).drew).trans h3 (fun _ _ h => h)⟩
    have HBad : Hid ((((k != at_ / 8) = true) ∨ (at_ % 8 != 0) = true ∨ b3 = true ∨ (ge != 0) = true) → (k ≠ at_ / 8 ∨ at_ % 8 ≠ 0 ∨ b3 = true ∨ ge ≠ 0)) := by
      show _ → _
      intro h
      rcases h with h | h | h | h
      · exact .inl (by simpa using h)
      · exact .inr (.inl (by simpa using h))
      · exact .inr (.inr (.inl h))
      · exact .inr (.inr (.inr (by simpa using h)))
    have HGood : Hid ((k != at_ / 8) = false → (at_ % 8 != 0) = false → b3 = false → (ge != 0) = false → ¬ (k ≠ at_ / 8 ∨ at_ % 8 ≠ 0 ∨ b3 = true ∨ ge ≠ 0)) := by
      show _ → _
      intro h1 h2 h3 h4 h
      have g1 : k = at_ / 8 := by simpa using h1
      have g2 : at_ % 8 = 0 := by simpa using h2
      have g4 : ge = 0 := by simpa using h4
      rcases h with h | h | h | h
      · exact h g1
      · exact h g2
      · rw [h3] at h; cases h
      · exact h g4
    clear HNo' HOv' HYe' Hin4 Hown5
    rcases hcs with h1 | ⟨h1, h2⟩ | ⟨h1, h2, h3⟩ | ⟨h1, h2, h3, h4⟩ | ⟨h1, h2, h3, h4⟩
    · have HB := Lib.hid (HBad.out (.inl h1))
      clear HBad HGood
      first
        | go_region_with (first | (go_at_call 55; refine H4d.out.mono ?_; rintro e w6 ⟨rfl, hR6, ho6⟩; have n0 : w6.cell? ⟨gm, 0, none⟩ = some (.int .i64 at_) := (HM5.out.drew.only ho6 hgw).cell 0; have q2 : w6.cell? ⟨w.heap.size, 2, none⟩ = some (.bool b3) := hR6.cell2))
        | fail
      all_goals (go_wp2_with fail; go_meet; exact HCut.out _ _ (.inl ⟨rfl, HB.out⟩) hR6 ho6)
    · have HB := Lib.hid (HBad.out (.inr (.inl h2)))
      clear HBad HGood
      first
        | go_region_with (first | (go_at_call 55; refine H4d.out.mono ?_; rintro e w6 ⟨rfl, hR6, ho6⟩; have n0 : w6.cell? ⟨gm, 0, none⟩ = some (.int .i64 at_) := (HM5.out.drew.only ho6 hgw).cell 0; have q2 : w6.cell? ⟨w.heap.size, 2, none⟩ = some (.bool b3) := hR6.cell2))
        | fail
      all_goals (go_wp2_with fail; go_meet; exact HCut.out _ _ (.inl ⟨rfl, HB.out⟩) hR6 ho6)
    · have HB := Lib.hid (HBad.out (.inr (.inr (.inl h3))))
      clear HBad HGood
      subst h3
      first
        | go_region_with (first | (go_at_call 55; refine H4d.out.mono ?_; rintro e w6 ⟨rfl, hR6, ho6⟩; have n0 : w6.cell? ⟨gm, 0, none⟩ = some (.int .i64 at_) := (HM5.out.drew.only ho6 hgw).cell 0; have q2 : w6.cell? ⟨w.heap.size, 2, none⟩ = some (.bool true) := hR6.cell2))
        | fail
      all_goals (go_wp2_with fail; go_meet; exact HCut.out _ _ (.inl ⟨rfl, HB.out⟩) hR6 ho6)
    · have HB := Lib.hid (HBad.out (.inr (.inr (.inr h4))))
      clear HBad HGood
      subst h3
      have hb2 := Hbb.out rfl
      subst hb2
      have r2d : w5.drew.cell? ⟨w.heap.size, 2, none⟩ = some (.bool false) := r2
      go_region_held3 (fun w' => w'.cell? ⟨gm, 0, none⟩ = some (.int .i64 at_) ∧ w'.cell? ⟨w.heap.size, 2, none⟩ = some (.bool false)) (first | exact ⟨m0d, r2d⟩ | exact ⟨n0, q2⟩ | (go_keep; done)) (first | (go_at_call 55; refine H4d.out.mono ?_; rintro e w6 ⟨rfl, hR6, ho6⟩; have n0 : w6.cell? ⟨gm, 0, none⟩ = some (.int .i64 at_) := (HM5.out.drew.only ho6 hgw).cell 0; have q2 : w6.cell? ⟨w.heap.size, 2, none⟩ = some (.bool false) := hR6.cell2))
      all_goals (go_wp2_with fail; go_meet; exact HCut.out _ _ (.inl ⟨rfl, HB.out⟩) hR6 ho6)
    · have HG := Lib.hid (HGood.out h1 h2 h3 h4)
      clear HBad HGood
      subst h3
      have hb2 := Hbb.out rfl
      subst hb2
      have r2d : w5.drew.cell? ⟨w.heap.size, 2, none⟩ = some (.bool false) := r2
      go_region_held3 (fun w' => w'.cell? ⟨gm, 0, none⟩ = some (.int .i64 at_) ∧ w'.cell? ⟨w.heap.size, 2, none⟩ = some (.bool false)) (first | exact ⟨m0d, r2d⟩ | exact ⟨n0, q2⟩ | (go_keep; done)) (first | (go_at_call 55; refine H4d.out.mono ?_; rintro e w6 ⟨rfl, hR6, ho6⟩; have n0 : w6.cell? ⟨gm, 0, none⟩ = some (.int .i64 at_) := (HM5.out.drew.only ho6 hgw).cell 0; have q2 : w6.cell? ⟨w.heap.size, 2, none⟩ = some (.bool false) := hR6.cell2))
      all_goals (go_wp2_with fail; go_meet; exact HCut.out _ _ (.inr ⟨rfl, HG.out⟩) hR6 ho6)
  case rest =>
    clear w8 w8' w8'' H4d m0 m0d r2 Hbb H4
    obtain ⟨hbad, hR6, hM6, ho6⟩ := hcut
    generalize wc = w6 at *
    have hs6 := ho6.size
    have HR6 := Lib.hid hR6
    have HM6 := Lib.hid hM6
    have HO6 := Lib.hid ho6
    have Hb6 : Hid (Below w.heap.size w w6) := Hb5.out.trans (ho6.below (fun k hk e => by omega) (by omega))
    have Hown6 := Lib.hid (own_only Hown5.out ho6 (fun k hk e => (hrow5.out k hk).1 e))
    clear hR6 hM6 ho6 HR5 HM5 Hb5 Hown5 HO6
    rcases hbad with ⟨rfl, hbad⟩ | ⟨rfl, hbad⟩
    · have Hres := Lib.hid (HNo'.out hbad)
      clear hbad HNo' HOv' HYe' Hin4
      go_wp2_with fail
      go_ret2
      rw [Hres.out]
      exact ⟨rfl, Hb6.out⟩
    · have HY := Lib.hid (HYe'.out hbad)
      have HV := Lib.hid HOv'.out
      obtain ⟨n, hn8⟩ : ∃ n : Nat, at_ / 8 = (n : Int) := ⟨(at_ / 8).toNat, by omega⟩
      have hn : n ≤ 512 := by omega
      have hb3 : b3 = false := by
        cases b3
        · rfl
        · exact absurd (.inr (.inr (.inl rfl))) hbad
      subst hb3
      rw [hn8, Int.toNat_natCast] at HY HV
      clear hbad HNo' HOv' HYe'
      have HM7 : Hid (Mach (w6.setCell ⟨gm, 1, none⟩ (.slice Ar rows.length cr)) w.heap.size gm ⟨at_, rows, [], [], []⟩ (.slice Ar rows.length cr) (.slice none 0 0) (.slice none 0 0) (.slice none 0 0)) :=
        ⟨HM6.out.set_ 1 _, by omega, own_only Hown6.out (only_cell w6 gm 1 _) (fun k hk => (hrow5.out k hk).2), own_nil _ _ _ _, own_nil _ _ _ _, own_nil _ _ _ _⟩
      have HR7 : Hid (RdAt (w6.setCell ⟨gm, 1, none⟩ (.slice Ar rows.length cr)) w.heap.size s (a3, false)) := HR6.out.far (p := ⟨gm, 1, none⟩) (fun e => hgw e.symm) _
      have Hb7 : Hid (Below w.heap.size w (w6.setCell ⟨gm, 1, none⟩ (.slice Ar rows.length cr))) := Hb6.out.setCell (p := ⟨gm, 1, none⟩) (by show w.heap.size ≤ gm; omega) _
      have f1 := HM6.out.frozen 1
      have m1 := HM6.out.cell 1
      have c0 : (w6.setCell ⟨gm, 1, none⟩ (.slice Ar rows.length cr)).cell? ⟨gm, 0, none⟩ = some (.int .i64 at_) := HM7.out.cells.1
      clear HM6 HR6 Hb6 Hown6
      go_wp2_with fail
      clear f1 m1 c0
      generalize w6.setCell ⟨gm, 1, none⟩ (.slice Ar rows.length cr) = w7 at *
      have Hin := Lib.hid (fun q => Ig.in_digs Hin4.out q)
      have HDn := Lib.hid (fun q => Ig.digs_len s (a3, false) q)
      have HSn1 : Hid (∀ q, (Ig.rdDigs s (a3, false) (q + 1)).1 = (Ig.rdDigs s (a3, false) q).1 ++ [(Ig.num8 (Ig.rdBytes s (Ig.rdDigs s (a3, false) q).2).1.data.toList : Int)]) := fun q => by rw [Ig.rdDigs]
      have HSn2 : Hid (∀ q, (Ig.rdDigs s (a3, false) (q + 1)).2 = (Ig.rdBytes s (Ig.rdDigs s (a3, false) q).2).2) := fun q => by rw [Ig.rdDigs]
      have Hn8 := Lib.hid hn8
      obtain ⟨i0, hi, hz0, hz1, hz2⟩ := info_parts info_cloneD
      clear hn8 Hin4
      go_loopw [8, 10, 59] (fun _ _ i wr => ∃ (q : Nat) (vd : Value), q ≤ n ∧ i = .int .i64 (q : Int) ∧ Hid (RdAt wr w.heap.size s (Ig.rdDigs s (a3, false) q).2) ∧ Hid (Mach wr w.heap.size gm ⟨at_, rows, [], (Ig.rdDigs s (a3, false) q).1, []⟩ (.slice Ar rows.length cr) (.slice none 0 0) vd (.slice none 0 0)) ∧ Hid (Below w.heap.size w wr)) (fun _ _ i _ => n - (intOf i).toNat)
      case atStart => exact ⟨0, _, Nat.zero_le _, rfl, HR7, HM7, Hb7⟩
      case round =>
        obtain ⟨q, vd, hq, rfl, hR, hM, hbw⟩ := hrel
        have hsw := hbw.out.size
        have hgr := hM.out.blk.lt
        by_cases hlt : q < n
        · have hlt2 : (q : Int) < at_ / 8 := by have := Hn8.out; omega
          have Hs1 := Lib.hid (HSn1.out q)
          have Hs2 := Lib.hid (HSn2.out q)
          have hiq := Hin.out q
          have hdl := HDn.out q
          clear Hin HDn HSn1 HSn2 HY HV
          generalize Ig.rdDigs s (a3, false) q = dq at *
          obtain ⟨dl, aq, bq⟩ := dq
          obtain ⟨jq, hjq, haq⟩ := hiq
          simp only at haq hdl Hs1 Hs2 hR hM
          subst haq
          have hdl' : dl.length ≤ 512 := by omega
          clear hdl
          have HBy := Lib.hid (readerBytes_any s jq bq wr w.heap.size hR.out (by omega) hjq)
          have hbsz := Ig.bytes_size s ((jq : Int), bq)
          generalize Ig.rdBytes s ((jq : Int), bq) = by8 at *
          obtain ⟨B, stB⟩ := by8
          simp only at Hs1 Hs2 hbsz
          go_wp2_with fail
          refine HBy.out.mono ?_
          rintro e w8 ⟨rfl, hR8, ho8⟩
          have hs8 := ho8.size
          have HM8 := Lib.hid (hM.out.only ho8 (foot_rd hM.out hR.out))
          have Hb8 : Hid (Below w.heap.size w w8) := hbw.out.trans (ho8.below (fun k hk e => by omega) (by omega))
          have HR8 := Lib.hid hR8
          have hcv := to_bytes (P := Tryz.prog) 9 82 5 Tryz.underlying9 Tryz.underlying82 Tryz.underlying5 B w8
          have hbc := fun k (hk : k < B.size) => (drew_cell _ _).trans (bytes_cell w8 5 B (grownCap w8 B.size 0 5) k hk)
          have HBc := Lib.hid hbc
          have Hb9 : Hid (Below w8.heap.size w8 ((w8.alloc (bytesObj 5 B (grownCap w8 B.size 0 5))).drew)) := ((Below.refl _ w8).alloc (Nat.le_refl _) _).drew
          clear hR8 ho8 HBy hbc
          go_wp2_with fail
          clear hcv
          generalize grownCap w8 B.size 0 5 = gc at *
          generalize (w8.alloc (bytesObj 5 B gc)).drew = w9 at *
          have HM9 := Lib.hid (HM8.out.below Hb9.out)
          have HR9 := Lib.hid (HR8.out.below Hb9.out HR8.out.lt)
          have Hb9' : Hid (Below w.heap.size w w9) := Hb8.out.trans (Hb9.out.mono (by have := Hb8.out.size; omega))
          clear HM8 HR8 Hb8 Hb9 hM hR hbw
          generalize w8.heap.size = bb at *
          go_loop [8, 10, 65] (fun x _ i => ∃ p : Nat, p ≤ B.size ∧ i = .int .i64 (p : Int) ∧ x = .int .u64 (Ig.num8 (B.data.toList.take p) : Int)) (fun _ _ i => B.size - (intOf i).toNat)
          case atStart => exact ⟨0, Nat.zero_le _, rfl, rfl⟩
          case round =>
            obtain ⟨p, hp, rfl, rfl⟩ := hrel
            by_cases hpl : p < B.size
            · have hcp := HBc.out p hpl
              have hts := Lib.hid (take_snoc B p hpl)
              have hnl : 256 * Ig.num8 (B.data.toList.take p) + (B[p]).toNat < 18446744073709551616 := by
                rw [← Ig.num8_snoc, ← take_snoc B p hpl]
                exact Ig.num8_lt8 (by rw [List.length_take]; omega)
              have Hst := Lib.hid (Ig.num8_step (Ig.num8 (B.data.toList.take p)) B[p] hnl)
              have Hns : Hid ((Ig.num8 (B.data.toList.take (p + 1)) : Int) = ((256 * Ig.num8 (B.data.toList.take p) + (B[p]).toNat : Nat) : Int)) := by show _ = _; rw [hts.out, Ig.num8_snoc]
              clear hnl hts
              generalize Ig.num8 (B.data.toList.take p) = x at *
              go_wp2_with fail
              go_round
              case rel => exact ⟨p + 1, by omega, by go_num, by rw [Hst.out, Hns.out]⟩
              case measure => simp [intOf]; omega
            · have hpe : B.data.toList.take p = B.data.toList := List.take_of_length_le (by simp; omega)
              rw [hpe]
              clear HBc hpe
              generalize Ig.num8 B.data.toList = x at *
              have hs9 := Hb9'.out.size
              have HDs : Hid (w9.ownsRow w.heap.size 56 1 vd dl.length (dl.flatMap digCells)) := HM9.out.digs
              have c3 : w9.cell? ⟨gm, 3, none⟩ = some vd := HM9.out.cells.2.2.2.1
              go_wp2_with (at_builtin; refine wpList_push_only w9 rfl _ _ 28 rfl w.heap.size 56 i0 _ 1 8 Tryz.underlying28 hi hz0 hz1 hz2 rfl (by decide) _ dl.length _ (by rfl) HDs.out [.int .u64 x] (by rfl) rfl (by simp [Value.oneCell']) (by unfold maxLen; omega) (by omega) hs9 ?_; intro v11 w11 hown11 ho11 hg11; obtain ⟨A11, c11, rfl, hnc11, _⟩ := own_slice hown11; have hm11 := HM9.out.blk.only ho11 (fun q => HM9.out.apart HM9.out.digs (by decide) gm q rfl); have t3 := hm11.cell 3; have f3 := hm11.frozen 3)
              have HM12 := Lib.hid (HM9.out.setDigs ho11 (D := dl ++ [(x : Int)]) (by rw [digs_snoc, List.length_append]; exact hown11))
              have HR12 : Hid (RdAt (w11.setCell ⟨gm, 3, none⟩ (.slice A11 (dl.length + 1) c11)) w.heap.size s stB) := (HR9.out.only ho11 (fun e => foot_rd HM9.out HR9.out _ (.inr (.inr (.inr (.inl e)))) rfl)).far (p := ⟨gm, 3, none⟩) (fun e => hgw e.symm) _
              have Hb12 : Hid (Below w.heap.size w (w11.setCell ⟨gm, 3, none⟩ (.slice A11 (dl.length + 1) c11))) := (Hb9'.out.trans (ho11.below (fun k hk e => by have := (own_lt HDs.out e).1; omega) hs9)).setCell (p := ⟨gm, 3, none⟩) (by show w.heap.size ≤ gm; omega) _
              clear hown11 ho11 hg11 hm11 t3 f3 c3 HM9 HR9 HDs
              go_roundw
              case rel => exact ⟨q + 1, _, by omega, by go_num, by rw [Hs2.out]; exact HR12, by rw [Hs1.out]; exact HM12, Hb12⟩
              case measure => simp [intOf]; omega
        · have hlt2 : ¬ (q : Int) < at_ / 8 := by have := Hn8.out; omega
          obtain rfl : q = n := by omega
          clear Hin HDn HSn1 HSn2
          generalize Ig.rdDigs s (a3, false) q = dq at *
          obtain ⟨dl, aq, bq⟩ := dq
          simp only at hR hM HY HV
          have HOv := Lib.hid (over_any s aq bq wr w.heap.size hR.out)
          cases hov : (!bq && aq == (s.size : Int))
          · have Hres := Lib.hid (HV.out (fun e => by
              rw [(Prod.mk.inj e).1, (Prod.mk.inj e).2] at hov
              simp at hov))
            rw [hov] at HOv
            clear hov HY HV
            go_wp2_with fail
            refine HOv.out.mono ?_
            rintro e w13 ⟨rfl, n13, rfl⟩
            go_wp2_with fail
            go_ret2
            rw [Hres.out]
            exact ⟨rfl, below_drewN hbw.out _⟩
          · have hov' : bq = false ∧ aq = (s.size : Int) := by simpa using hov
            have Hres := Lib.hid (HY.out (by rw [hov'.1, hov'.2]))
            rw [hov] at HOv
            clear hov HY HV hov'
            go_wp2_with fail
            refine HOv.out.mono ?_
            rintro e w13 ⟨rfl, n13, rfl⟩
            go_wp2_with fail
            go_ret2
            rw [Hres.out]
            exact ⟨_, _, _, rfl, hM.out.below (below_drewN (Below.refl _ _) n13), below_drewN hbw.out _⟩
end Go.Proofs.YtmnigoibbcigdaaGreat
/- Two machines in memory, apart; what an entry does to two machines that differ in their seals alone (chapter 11). -/
namespace Go.Proofs.YtmnigoibbcigdaaGreat
open Go.RowKit
set_option linter.unusedVariables false

/-- two machines in memory, no block of the one is the other's -/
def Two (w : World) (base ga : Nat) (ma : Ig.M) (gb : Nat) (mb : Ig.M) : Prop :=
  ∃ ra oa da sa rb ob db sb, Mach w base ga ma ra oa da sa ∧ Mach w base gb mb rb ob db sb ∧ ∀ k, Foot ga ra oa da sa k → ¬ Foot gb rb ob db sb k
theorem Mach.down {w : World} {base base' g : Nat} {m : Ig.M} {vr vo vd vs : Value} (h : Mach w base g m vr vo vd vs) (hb : base' ≤ base) : Mach w base' g m vr vo vd vs :=
  ⟨h.blk, Nat.le_trans hb h.low, own_down h.rows hb, own_down h.opn hb, own_down h.digs hb, own_down h.seals hb⟩
section
variable {w w' : World} {base ga gb : Nat} {ma mb : Ig.M}
theorem Two.symm (h : Two w base ga ma gb mb) : Two w base gb mb ga ma := by
  obtain ⟨ra, oa, da, sa, rb, ob, db, sb, ha, hb, hd⟩ := h
  exact ⟨rb, ob, db, sb, ra, oa, da, sa, hb, ha, fun k h1 h2 => hd k h2 h1⟩
theorem Two.below (h : Two w base ga ma gb mb) (hb : Below w.heap.size w w') : Two w' base ga ma gb mb := by
  obtain ⟨ra, oa, da, sa, rb, ob, db, sb, h1, h2, hd⟩ := h
  exact ⟨ra, oa, da, sa, rb, ob, db, sb, h1.below hb, h2.below hb, hd⟩
theorem Two.fst (h : Two w base ga ma gb mb) : MachX w base ga ma (fun _ => False) := by
  obtain ⟨ra, oa, da, sa, rb, ob, db, sb, h1, h2, hd⟩ := h
  exact ⟨ra, oa, da, sa, h1, fun _ _ q => q⟩
theorem Two.snd (h : Two w base ga ma gb mb) : MachX w base gb mb (fun _ => False) := h.symm.fst
/-- an entry is applied to the first -/
def TwoPost (w : World) (base ga gb : Nat) (mb : Ig.M) (q : Ig.M × Int × Int) (e : Ending) (w' : World) : Prop :=
  e = .returned (.tuple #[.int .i64 q.2.1, .int .i64 q.2.2]) ∧ Two w' base ga q.1 gb mb ∧ Below base w w'
theorem applyT (h : Two w base ga ma gb mb) (hI : Ig.Inv ma) (v c s n : Int) (A : Option Addr) (d : Nat) (bs : List Pt.Point) (hr : Reads w w.heap.size 3 A bs.length (bs.flatMap pointCells)) (hwf : ∀ p ∈ bs, Pt.wf p) (hn : bs.length ≤ 140737488355328) (hA : 0 < bs.length → ∀ b off, A = some ⟨b, off, none⟩ → b < base) (hbase : base ≤ w.heap.size) :
    Calls Tryz.prog 6 #[.pointer (some ⟨ga, 0, none⟩), .agg #[.int .i64 v, .int .i64 c, .int .i64 s, .int .i64 n, .slice A bs.length d]] w (TwoPost w base ga gb mb (Ig.applyM ma v c s n bs)) := by
  obtain ⟨ra, oa, da, sa, rb, ob, db, sb, h1, h2, hd⟩ := h
  refine (apply_mach h1 hI v c s n A d bs hr (fun h0 b off e q => by have := (h1.lt q).1; have := hA h0 b off e; omega) hwf hn hbase).mono fun e w' h => ?_
  obtain ⟨vr', vo', vd', vs', he, hm', ho, hf⟩ := h
  refine ⟨he, ⟨vr', vo', vd', vs', rb, ob, db, sb, hm', h2.only ho (fun k hk q => hd k q hk), fun k hk q => ?_⟩, ho.below (fun k hk q => by have := (h1.lt q).1; omega) hbase⟩
  rcases hf k hk with z | z
  · exact hd k z q
  · have := (h2.lt q).2; omega
/-- the second is loaded anew -/
theorem Two.loaded (h : Two w base ga ma gb mb) {g : Nat} {m : Ig.M} {vr vd : Value} (hm : Mach w' w.heap.size g m vr (.slice none 0 0) vd (.slice none 0 0)) (hb : Below w.heap.size w w') (hbase : base ≤ w.heap.size) : Two w' base ga ma g m := by
  obtain ⟨ra, oa, da, sa, rb, ob, db, sb, h1, h2, hd⟩ := h
  refine ⟨ra, oa, da, sa, vr, _, vd, _, h1.below hb, hm.down hbase, fun k hk q => ?_⟩
  have := (h1.lt hk).2
  have := (hm.lt q).1
  omega
end
theorem twoNew {w w1 w2 : World} (h1 : MachX w1 w.heap.size w.heap.size Ig.m0 (fun _ => False)) (hb : Below w.heap.size w w1) (h2 : MachX w2 w1.heap.size w1.heap.size Ig.m0 (fun _ => False)) (hb2 : Below w1.heap.size w1 w2) : Two w2 w.heap.size w.heap.size Ig.m0 w1.heap.size Ig.m0 := by
  obtain ⟨ra, oa, da, sa, ha, _⟩ := h1
  obtain ⟨rb, ob, db, sb, hb', _⟩ := h2
  refine ⟨ra, oa, da, sa, rb, ob, db, sb, ha.below hb2, hb'.down hb.size, fun k hk q => ?_⟩
  have := (ha.lt hk).2
  have := (hb'.lt q).1
  omega
namespace Ig
def withS (m : M) (s : List (Int × ByteArray)) : M := ⟨m.at_, m.rows, m.opn, m.digs, s⟩
theorem take_withS (m : M) (s0 : List (Int × ByteArray)) (v c s n : Int) (bs : List Pt.Point) : takeM (withS m s0) v c s n bs = (withS (takeM m v c s n bs).1 s0, (takeM m v c s n bs).2) ∧ (takeM m v c s n bs).1.seals = m.seals ∧ (takeM m v c s n bs).1.digs = m.digs := by
  unfold takeM withS
  split <;> exact ⟨rfl, rfl, rfl⟩
/-- the same entry, applied to a machine without seals and to one with some -/
theorem apply_withS (m : M) (s0 : List (Int × ByteArray)) (v c s n : Int) (bs : List Pt.Point) (h0 : m.seals = []) : applyM (withS m s0) v c s n bs = (withS (applyM m v c s n bs).1 (s0 ++ (applyM m v c s n bs).1.seals), (applyM m v c s n bs).2) := by
  unfold applyM
  have hat : (withS m s0).at_ = m.at_ := rfl
  rw [hat]
  split
  · rw [h0]; simp
  · have hu : up (withS m s0) = withS (up m) s0 := rfl
    obtain ⟨h1, h2, h3⟩ := take_withS (up m) s0 v c s n bs
    rw [hu, h1]
    simp only
    have h2' : (takeM (up m) v c s n bs).1.seals = [] := by rw [h2]; exact h0
    split
    · refine Prod.ext ?_ rfl
      show sealM _ = withS (sealM _) _
      unfold sealM withS segB
      simp only [h2', List.nil_append]
    · refine Prod.ext ?_ rfl
      show withS _ _ = withS _ _
      simp only [h2', List.append_nil]
theorem apply_noseal {m : M} (v c s n : Int) (bs : List Pt.Point) (h0 : m.seals = []) (h : m.at_ < 4096) (h8 : ¬ (m.at_ + 1) % 8 = 0) : (applyM m v c s n bs).1.seals = [] ∧ (applyM m v c s n bs).1.digs = m.digs := by
  obtain ⟨_, h2, h3⟩ := take_withS (up m) [] v c s n bs
  rw [apply_open v c s n bs h h8]
  exact ⟨h2.trans h0, h3⟩
theorem apply_sealed {m : M} (v c s n : Int) (bs : List Pt.Point) (h0 : m.seals = []) (h : m.at_ < 4096) (h8 : (m.at_ + 1) % 8 = 0) : ∃ r S, (applyM m v c s n bs).1.seals = [(r, S)] ∧ (applyM m v c s n bs).1.digs = m.digs ++ [(Sm.hashL S.data.toList : Int)] ∧ (applyM m v c s n bs).1.opn = [] ∧ S.size ≤ maxLen := by
  obtain ⟨_, h2, h3⟩ := take_withS (up m) [] v c s n bs
  rw [apply_seal (by omega) h8]
  refine ⟨(takeM (up m) v c s n bs).1.at_ / 8, segB (takeM (up m) v c s n bs).1, ?_, ?_, rfl, putR_small _ _⟩
  · show (takeM (up m) v c s n bs).1.seals ++ _ = _
    rw [h2]
    show m.seals ++ _ = _
    rw [h0]; rfl
  · show (takeM (up m) v c s n bs).1.digs ++ _ = _
    rw [h3]; rfl
end Ig
end Go.Proofs.YtmnigoibbcigdaaGreat
