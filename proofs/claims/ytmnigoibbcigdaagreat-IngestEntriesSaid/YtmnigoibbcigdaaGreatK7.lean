/- Joined texts: SeAsk, IgTake, SgMay, ClPlain, ClBack, Build, WireText, Reader, Err. -/
import Derived.Test.YtmnigoibbcigdaaGreatK1
import Derived.Test.YtmnigoibbcigdaaGreatK2
import Derived.Test.YtmnigoibbcigdaaGreatK3
import Derived.Test.YtmnigoibbcigdaaGreatK4
import Derived.Test.YtmnigoibbcigdaaGreatK5
import Derived.Test.YtmnigoibbcigdaaGreatK6
import Derived.Test.YtmnigoibbcigdaaGreatProg
import Derived.Test.YtmnigoibbcigdaaGreatShelf
import Derived.BigQuiet
import Derived.Lib.FrozenHead2
import Derived.Lib.OthersKept
import Derived.Laws.Externs
/- The walks through session.Ask and session.Get (chapter 10). -/
namespace Go.Proofs.YtmnigoibbcigdaaGreat
open Go.RowKit
set_option linter.unusedVariables false

section
variable {ps : List Se.Row} {s num last : Int}
theorem ask_zero (h : s = 0) : Se.askR ps s num last = (0, -1) := by unfold Se.askR; rw [if_pos h]
theorem ask_exp (h : s ≠ 0) (hx : ¬ Se.idx ps s < ps.length) (h1 : 1 ≤ s ∧ s ≤ last) : Se.askR ps s num last = (4, -1) := by unfold Se.askR; rw [if_neg h, if_pos hx, if_pos h1]
theorem ask_none (h : s ≠ 0) (hx : ¬ Se.idx ps s < ps.length) (h1 : ¬ (1 ≤ s ∧ s ≤ last)) : Se.askR ps s num last = (5, -1) := by unfold Se.askR; rw [if_neg h, if_pos hx, if_neg h1]
theorem ask_old (h : s ≠ 0) (hx : ¬ ¬ Se.idx ps s < ps.length) (h1 : num < (Se.at_ ps s).2.1) : Se.askR ps s num last = (3, -1) := by unfold Se.askR; rw [if_neg h, if_neg hx, if_pos h1]
theorem ask_same (h : s ≠ 0) (hx : ¬ ¬ Se.idx ps s < ps.length) (h1 : ¬ num < (Se.at_ ps s).2.1) (h2 : num = (Se.at_ ps s).2.1) : Se.askR ps s num last = (0, (Se.at_ ps s).2.2.1) := by unfold Se.askR; rw [if_neg h, if_neg hx, if_neg h1, if_pos h2]
theorem ask_new (h : s ≠ 0) (hx : ¬ ¬ Se.idx ps s < ps.length) (h1 : ¬ num < (Se.at_ ps s).2.1) (h2 : num ≠ (Se.at_ ps s).2.1) : Se.askR ps s num last = (0, -1) := by unfold Se.askR; rw [if_neg h, if_neg hx, if_neg h1, if_neg h2]
end
def AskPost (w : World) (q : Int × Int) (e : Ending) (w' : World) : Prop := e = .returned (.tuple #[.int .i64 q.1, .int .i64 q.2]) ∧ Below w.heap.size w w'
set_option maxRecDepth 100000 in
set_option maxHeartbeats 1000000 in
theorem ask_any (A : Option Addr) (c : Nat) (ps : List Se.Row) (s num last : Int) (w : World) (B : Nat) (hr : Reads w B 4 A ps.length (ps.flatMap rowCells)) (hB : B ≤ w.heap.size) (hn : ps.length ≤ 140737488355328) :
    Calls Tryz.prog 65 #[.slice A ps.length c, .int .i64 s, .int .i64 num, .int .i64 last] w (AskPost w (Se.askR ps s num last)) := by
  have HF := Lib.hid (find_any A c ps s w B hr hB hn)
  have H0 := Lib.hid (@ask_zero ps s num last)
  have H1 := Lib.hid (@ask_exp ps s num last)
  have H2 := Lib.hid (@ask_none ps s num last)
  have H3 := Lib.hid (@ask_old ps s num last)
  have H4 := Lib.hid (@ask_same ps s num last)
  have H5 := Lib.hid (@ask_new ps s num last)
  have HR := Lib.hid hr
  clear hr
  generalize Se.askR ps s num last = res at *
  by_cases h0 : s = 0
  · have Hres := Lib.hid (H0.out h0)
    have hz : (s == 0) = true := by simp [h0]
    clear H0 H1 H2 H3 H4 H5
    go_enter Tryz.func65, Tryz.ntmps65
    go_wp2_with fail
    go_ret2
    exact ⟨by rw [Hres.out]; rfl, Below.refl _ _⟩
  · have hz : (s == 0) = false := by simp [h0]
    by_cases hx : Se.idx ps s < ps.length
    · rw [findV_lt hx] at HF
      have hnx : ¬ ¬ Se.idx ps s < ps.length := fun h => h hx
      have H3' := Lib.hid (H3.out h0 hnx)
      have H4' := Lib.hid (H4.out h0 hnx)
      have H5' := Lib.hid (H5.out h0 hnx)
      rw [Se.at_lt hx] at H3' H4' H5'
      clear H0 H1 H2 H3 H4 H5 hnx
      generalize Se.idx ps s = ix at *
      obtain ⟨b, off, rfl, hbl, hc⟩ := HR.out.2 (by omega)
      have hcx := fun (W : World) (hb : Below w.heap.size w W) => row_cells (wr := W) hx hc (fun p hp => hb.cell (p := p) (by omega)) hbl
      have Hcx := Lib.hid hcx
      clear hcx hc
      generalize ps[ix].2.1 = N at *
      generalize ps[ix].2.2.1 = R at *
      have hd0 : decide ((ix : Int) < 0) = false := decide_eq_false (by omega)
      have hi1 : (ix : Int) < (ps.length : Int) := by omega
      by_cases h1 : num < N
      · have Hres := Lib.hid (H3'.out h1)
        clear H3' H4' H5'
        go_enter Tryz.func65, Tryz.ntmps65
        go_wp2_with fail
        refine HF.out.mono ?_
        rintro e w1 ⟨rfl, hb1⟩
        obtain ⟨hc0, hc1, hc2, hc3⟩ := Hcx.out w1 hb1
        have Hb1 := Lib.hid hb1
        clear hb1
        go_wp2_with fail
        go_ret2
        exact ⟨by rw [Hres.out]; rfl, Hb1.out⟩
      · by_cases h2 : num = N
        · have Hres := Lib.hid (H4'.out h1 h2)
          have hd2 : (num == N) = true := by simp [h2]
          clear H3' H4' H5' h2
          go_enter Tryz.func65, Tryz.ntmps65
          go_wp2_with fail
          refine HF.out.mono ?_
          rintro e w1 ⟨rfl, hb1⟩
          obtain ⟨hc0, hc1, hc2, hc3⟩ := Hcx.out w1 hb1
          have Hb1 := Lib.hid hb1
          clear hb1
          go_wp2_with fail
          go_quiet (fail)
          go_wp2_with fail
          go_ret2
          exact ⟨by rw [Hres.out]; rfl, below_drewN Hb1.out _⟩
        · have Hres := Lib.hid (H5'.out h1 h2)
          have hd2 : (num == N) = false := by simp [h2]
          clear H3' H4' H5' h2
          go_enter Tryz.func65, Tryz.ntmps65
          go_wp2_with fail
          refine HF.out.mono ?_
          rintro e w1 ⟨rfl, hb1⟩
          obtain ⟨hc0, hc1, hc2, hc3⟩ := Hcx.out w1 hb1
          have Hb1 := Lib.hid hb1
          clear hb1
          go_wp2_with fail
          go_ret2
          exact ⟨by rw [Hres.out]; rfl, Hb1.out⟩
    · rw [findV_no hx] at HF
      have hd0 : decide ((-1 : Int) < 0) = true := by decide
      by_cases h1 : 1 ≤ s
      · by_cases h2 : s ≤ last
        · have Hres := Lib.hid (H1.out h0 hx ⟨h1, h2⟩)
          have hd1 : decide (1 ≤ s) = true := decide_eq_true h1
          have hd2 : decide (s ≤ last) = true := decide_eq_true h2
          clear H0 H1 H2 H3 H4 H5 hx
          go_enter Tryz.func65, Tryz.ntmps65
          go_wp2_with fail
          refine HF.out.mono ?_
          rintro e w1 ⟨rfl, hb1⟩
          have Hb1 := Lib.hid hb1
          clear hb1
          go_wp2_with fail
          go_ret2
          exact ⟨by rw [Hres.out]; rfl, Hb1.out⟩
        · have Hres := Lib.hid (H2.out h0 hx (fun h => h2 h.2))
          have hd1 : decide (1 ≤ s) = true := decide_eq_true h1
          have hd2 : decide (s ≤ last) = false := decide_eq_false h2
          clear H0 H1 H2 H3 H4 H5 hx
          go_enter Tryz.func65, Tryz.ntmps65
          go_wp2_with fail
          refine HF.out.mono ?_
          rintro e w1 ⟨rfl, hb1⟩
          have Hb1 := Lib.hid hb1
          clear hb1
          go_wp2_with fail
          go_ret2
          exact ⟨by rw [Hres.out]; rfl, Hb1.out⟩
      · have Hres := Lib.hid (H2.out h0 hx (fun h => h1 h.1))
        have hd1 : decide (1 ≤ s) = false := decide_eq_false h1
        clear H0 H1 H2 H3 H4 H5 hx
        go_enter Tryz.func65, Tryz.ntmps65
        go_wp2_with fail
        refine HF.out.mono ?_
        rintro e w1 ⟨rfl, hb1⟩
        have Hb1 := Lib.hid hb1
        clear hb1
        go_wp2_with fail
        go_ret2
        exact ⟨by rw [Hres.out]; rfl, Hb1.out⟩

set_option maxRecDepth 100000 in
theorem over_any (s : ByteArray) (a : Int) (bad : Bool) (w : World) (g : Nat) (hR : RdAt w g s (a, bad)) :
    Calls Tryz.prog 59 #[.pointer (some ⟨g, 0, none⟩)] w fun e w' => e = .returned (.bool (!bad && a == (s.size : Int))) ∧ Drawn w w' := by
  have hc0 := hR.cell0
  have hc1 := hR.cell1
  have hc2 := hR.cell2
  simp only at hc1 hc2
  clear hR
  cases bad
  · go_enter Tryz.func59, Tryz.ntmps59
    go_wp2_with fail
    go_quiet (fail)
    go_wp2_with fail
    go_ret
    exact ⟨ret_bool (by simp), nq, rfl⟩
  · go_enter Tryz.func59, Tryz.ntmps59
    go_wp2_with fail
    go_quiet (fail)
    go_wp2_with fail
    go_ret
    exact ⟨ret_bool (by simp), nq, rfl⟩
/-- num: the reader's next number; it captures the reader's variable, whose box is p -/
theorem getnum1_any (s : ByteArray) (st : Pt.St) (w : World) (g p : Nat) (hp : w.cell? ⟨p, 0, none⟩ = some (.pointer (some ⟨g, 0, none⟩))) (hR : RdAt w g s st) (hs : s.size ≤ 9223372036854775000) (ha : -9223372036854775808 ≤ st.1 ∧ st.1 ≤ 9223372036854775807) :
    Calls Tryz.prog 86 #[.pointer (some ⟨p, 0, none⟩)] w (RdPost g s w (.int .i64 (Se.rdN s st).1) (Se.rd1 s st)) := by
  obtain ⟨a, bad⟩ := st
  have H := Lib.hid (readerNum_any s a bad (-9007199254740992) 9007199254740992 w g hR hs ha)
  have hd : Se.rd1 s (a, bad) = (Se.rdN s (a, bad)).2 := rfl
  rw [hd]
  clear hR ha hd
  unfold Se.rdN
  generalize Pt.rdNum s (-9007199254740992) 9007199254740992 (a, bad) = q at *
  go_enter Tryz.func86, Tryz.ntmps86
  go_wp2_with fail
  refine H.out.mono ?_
  rintro e w1 ⟨rfl, h1, h2⟩
  have H1 := Lib.hid h1
  have H2 := Lib.hid h2
  clear h1 h2
  go_wp2_with fail
  go_ret
  exact ⟨rfl, H1.out, H2.out⟩
end Go.Proofs.YtmnigoibbcigdaaGreat
/- An entry has its effect on the machine: plain, and the walk through take (chapter 11). -/
namespace Go.Proofs.YtmnigoibbcigdaaGreat
open Go.RowKit
set_option linter.unusedVariables false

def Ig.codeOf (code res : Int) : Int := if res < 0 ∧ code ≠ 3 then 4 else code
def Ig.takeM (m : Ig.M) (v c s n : Int) (bs : List Pt.Point) : Ig.M × Int × Int :=
  if Ig.mayB v c s n bs = true then
    (⟨m.at_, (Se.applyR m.rows s n m.at_).1, if (Se.applyR m.rows s n m.at_).2.2 = true ∧ s ≠ 0 then Ig.setAll m.opn bs else m.opn, m.digs, m.seals⟩,
      (Se.applyR m.rows s n m.at_).2.1, Ig.codeOf (Se.askR m.rows s n 4096).1 (Se.applyR m.rows s n m.at_).2.1)
  else (m, -1, 9)
def TakePost (w : World) (base g : Nat) (vr vo vd vs : Value) (q : Ig.M × Int × Int) (e : Ending) (w' : World) : Prop :=
  ∃ vr' vo', e = .returned (.tuple #[.int .i64 q.2.1, .int .i64 q.2.2]) ∧ Mach w' base g q.1 vr' vo' vd vs ∧ Only (Foot g vr vo vd vs) w w' ∧ (∀ k, Foot g vr' vo' vd vs k → Foot g vr vo vd vs k ∨ w.heap.size ≤ k)
theorem reads_far {w : World} {B size n g j : Nat} {A : Option Addr} {xs : List Value} {u : Value} (h : Reads w B size A n xs) (hne : 0 < n → ∀ b off, A = some ⟨b, off, none⟩ → b ≠ g) : Reads (w.setCell ⟨g, j, none⟩ u) B size A n xs :=
  ⟨h.1, fun hn => by
    obtain ⟨b, off, e, hb, hc⟩ := h.2 hn
    refine ⟨b, off, e, hb, fun i u hu => ?_⟩
    rw [World.cell?_setCell_other _ _ _ _ (fun q => hne hn b off e (by injection q with q _ _; exact q.symm))]
    exact hc i u hu⟩
theorem take_no {m : Ig.M} {v c s n : Int} {bs : List Pt.Point} (h : Ig.mayB v c s n bs = false) : Ig.takeM m v c s n bs = (m, -1, 9) := by unfold Ig.takeM; rw [if_neg (by rw [h]; simp)]
section
variable {w : World} {base g : Nat} {m : Ig.M} {vr vo vd vs : Value}
set_option maxRecDepth 100000 in
set_option maxHeartbeats 2000000 in
theorem take_any (h : Mach w base g m vr vo vd vs) (v c s n : Int) (A : Option Addr) (d : Nat) (bs : List Pt.Point) (hr : Reads w w.heap.size 3 A bs.length (bs.flatMap pointCells)) (hne : 0 < bs.length → ∀ b off, A = some ⟨b, off, none⟩ → ¬ Foot g vr vo vd vs b) (hwf : ∀ p ∈ bs, Pt.wf p) (hn : bs.length ≤ 140737488355328) (hso : Ig.Sorted m.opn) (hol : m.opn.length ≤ 900000) (hrl : m.rows.length ≤ 1000000) (hbase : base ≤ w.heap.size) :
    Calls Tryz.prog 19 #[.pointer (some ⟨g, 0, none⟩), .agg #[.int .i64 v, .int .i64 c, .int .i64 s, .int .i64 n, .slice A bs.length d]] w (TakePost w base g vr vo vd vs (Ig.takeM m v c s n bs)) := by
  have HM := Lib.hid h
  have HR := Lib.hid hr
  have HNe := Lib.hid hne
  have HMay := fun W (hb : Below w.heap.size w W) => Lib.hid (mayEntry_any v c s n A d bs W w.heap.size (hr.below hb) hb.size (by omega) hwf)
  obtain ⟨Ar, cr, rfl, hncr, hrr⟩ := own_slice h.rows
  obtain ⟨Ao, co, rfl, hnco, _⟩ := own_slice h.opn
  have HAsk := fun W (hb : Below w.heap.size w W) => Lib.hid (ask_any Ar cr m.rows s n 4096 W w.heap.size (hrr.below hb) hb.size (by omega))
  have HApp := fun W (hb : Below w.heap.size w W) => Lib.hid (apply_any Ar cr m.rows v c s n m.at_ A bs.length d W w.heap.size (hrr.below hb) hb.size (by omega))
  have hE := Blk.new w 36 #[.int .i64 v, .int .i64 c, .int .i64 s, .int .i64 n, .slice A bs.length d]
  have hb1 : Below w.heap.size w (w.alloc (.cells #[.int .i64 v, .int .i64 c, .int .i64 s, .int .i64 n, .slice A bs.length d] 36)) := (Below.refl _ _).alloc (Nat.le_refl _) _
  have HE := Lib.hid hE
  have Hb1 := Lib.hid hb1
  have hs1 := hb1.size
  clear hE hb1 h hr hne hwf hrr
  have e0 := HE.out.cell 0
  have e1 := HE.out.cell 1
  have e2 := HE.out.cell 2
  have e3 := HE.out.cell 3
  have e4 := HE.out.cell 4
  simp only [List.getElem?_toArray, List.getElem?_cons_zero, List.getElem?_cons_succ] at e0 e1 e2 e3 e4
  cases hmay : Ig.mayB v c s n bs
  · have HT := Lib.hid (take_no (m := m) hmay)
    rw [hmay] at HMay
    generalize Ig.takeM m v c s n bs = res at *
    clear HAsk HApp hmay
    go_enter Tryz.func19, Tryz.ntmps19
    go_wp2_with fail
    generalize w.alloc (.cells #[.int .i64 v, .int .i64 c, .int .i64 s, .int .i64 n, .slice A bs.length d] 36) = w1 at *
    refine (HMay w1 Hb1.out).out.mono ?_
    rintro e w2 ⟨rfl, hb2⟩
    have Hb2 : Hid (Below w.heap.size w w2) := Hb1.out.trans (hb2.mono hs1)
    clear hb2
    go_wp2_with fail
    go_ret2
    exact ⟨_, _, by rw [HT.out]; rfl, by rw [HT.out]; exact HM.out.below Hb2.out, Only.new _ Hb2.out, fun k hk => .inl hk⟩
  · have hn8 := Ig.may_len hmay
    rw [hmay] at HMay
    go_enter Tryz.func19, Tryz.ntmps19
    go_wp2_with fail
    generalize w.alloc (.cells #[.int .i64 v, .int .i64 c, .int .i64 s, .int .i64 n, .slice A bs.length d] 36) = w1 at *
    refine (HMay w1 Hb1.out).out.mono ?_
    rintro e w2 ⟨rfl, hb2⟩
    have Hb2 : Hid (Below w.heap.size w w2) := Hb1.out.trans (hb2.mono hs1)
    have HE2 := Lib.hid (Blk.below HE.out hb2 HE.out.lt)
    clear hb2 e0 e1 e2 e3 e4 HMay
    have hs2 := Hb2.out.size
    have HA := fun x : Aft w2.heap.size w2 => Lib.hid (HAsk x.world (Hb2.out.trans (x.below.mono hs2))).out
    unfold AskPost at HA
    have hmx := fun x : Aft w2.heap.size w2 => ((HM.out.below Hb2.out).below x.below).cells
    have m0 := fun x => (hmx x).1
    have m1 := fun x => (hmx x).2.1
    have hex := fun x : Aft w2.heap.size w2 => Blk.below HE2.out x.below HE2.out.lt
    have x2 := fun x => (hex x).cell 2
    have x3 := fun x => (hex x).cell 3
    simp only [List.getElem?_toArray, List.getElem?_cons_zero, List.getElem?_cons_succ] at x2 x3
    have HT : Hid (Ig.takeM m v c s n bs = (⟨m.at_, (Se.applyR m.rows s n m.at_).1, if (Se.applyR m.rows s n m.at_).2.2 = true ∧ s ≠ 0 then Ig.setAll m.opn bs else m.opn, m.digs, m.seals⟩, (Se.applyR m.rows s n m.at_).2.1, Ig.codeOf (Se.askR m.rows s n 4096).1 (Se.applyR m.rows s n m.at_).2.1)) := by
      show _ = _; unfold Ig.takeM; rw [if_pos hmay]
    generalize Ig.takeM m v c s n bs = res at *
    generalize Se.askR m.rows s n 4096 = ak at *
    generalize Se.applyR m.rows s n m.at_ = ap at *
    obtain ⟨code, ares⟩ := ak
    obtain ⟨R', rs, eff⟩ := ap
    simp only at HA HApp HT
    clear hmx HAsk hmay
    go_wp2_with fail
    refine wp_region_aft w2.heap.size w2 (by kernel_rfl) (by kernel_rfl) (Below.refl _ _) ?_
    repeat (go_big_quiet_step (first | (go_at_call 65; with_reducible exact aft_new (Nat.le_refl _) (Hid.out (HA _)))))
    refine wpQuiet_nil ?_
    rintro _ ⟨x, rfl⟩
    have Hb3 : Hid (Below w.heap.size w x.world) := Hb2.out.trans (x.below.mono hs2)
    have HE3 := Lib.hid (hex x)
    clear m0 m1 x2 x3 hex HA HE2 HE Hb1 hs1
    generalize x.world = w3 at *
    have hs3 := Hb3.out.size
    have HM3 := Lib.hid (HM.out.below Hb3.out)
    obtain ⟨n0, n1, n2, n3, n4⟩ := HM3.out.cells
    have e0 := HE3.out.cell 0
    have e1 := HE3.out.cell 1
    have e2 := HE3.out.cell 2
    have e3 := HE3.out.cell 3
    have e4 := HE3.out.cell 4
    simp only [List.getElem?_toArray, List.getElem?_cons_zero, List.getElem?_cons_succ] at e0 e1 e2 e3 e4
    have HApp3 := fun W (hb : Below w3.heap.size w3 W) => Lib.hid (HApp W (Hb3.out.trans (hb.mono hs3))).out
    unfold ApplyPost entryCells at HApp3
    simp only at HApp3
    have hAp := HApp3 w3.drew ((Below.refl _ _).drew)
    clear HApp3 HApp
    go_wp2_with fail
    have hgw := HM.out.blk.lt
    have hgne : ¬ w.heap.size = g := by omega
    have Hcode : Hid (∀ x, Ig.codeOf code rs = x ↔ (if rs < 0 ∧ code ≠ 3 then 4 else code) = x) := fun x => Iff.rfl
    go_region_with (first | (go_at_call 66; refine hAp.out.mono ?_; rintro e w4 ⟨v4, rfl, hown4, hb4⟩; obtain ⟨A4, c4, rfl, hnc4, _⟩ := own_slice hown4))
    all_goals
      have Hb34 : Hid (Below w3.heap.size w3 w4) := ((Below.refl _ w3).drew).trans hb4
      have HM4 := Lib.hid (HM3.out.below Hb34.out)
      have HE4 := Lib.hid (Blk.below HE3.out Hb34.out HE3.out.lt)
      have Hown4 := Lib.hid (own_down hown4 (show base ≤ w3.heap.size by omega))
      have Hg4 : Hid (∀ k, Value.ownBlock (.slice A4 R'.length c4) = some k → w.heap.size ≤ k) := fun k hk => Nat.le_trans hs3 (own_lt hown4 hk).1
      have Hb4 : Hid (Below w.heap.size w w4) := Hb3.out.trans (Hb34.out.mono hs3)
      have hs4 := Hb4.out.size
      clear hown4 hb4 n0 n1 n2 n3 n4 e0 e1 e2 e3 e4
      have HM5 := Lib.hid (HM4.out.setRows Hown4.out)
      have HE5 := Lib.hid (HE4.out.far (p := ⟨g, 1, none⟩) hgne (.slice A4 R'.length c4))
      have HO5 : Hid (Only (Foot g (.slice Ar m.rows.length cr) (.slice Ao m.opn.length co) vd vs) w (w4.setCell ⟨g, 1, none⟩ (.slice A4 R'.length c4))) := (Only.new _ Hb4.out).setCell (p := ⟨g, 1, none⟩) (fun _ => .inl rfl) _
      obtain ⟨p0, p1, p2, p3, p4⟩ := HM4.out.cells
      have f1 := HM4.out.blk.frozen 1
      have e2 := HE5.out.cell 2
      simp only [List.getElem?_toArray, List.getElem?_cons_zero, List.getElem?_cons_succ] at e2
      by_cases hdo : eff = true ∧ s ≠ 0
      · have Hres : Hid (res = (⟨m.at_, R', Ig.setAll m.opn bs, m.digs, m.seals⟩, rs, Ig.codeOf code rs)) := by show _ = _; rw [HT.out, if_pos hdo]
        obtain ⟨rfl, hs0⟩ := hdo
        have hz : (s != 0) = true := by simp [hs0]
        have e4 := HE5.out.cell 4
        simp only [List.getElem?_toArray, List.getElem?_cons_zero, List.getElem?_cons_succ] at e4
        obtain ⟨r0, r1, r2, r3, r4⟩ := HM5.out.cells
        have hsz5 : (w4.setCell ⟨g, 1, none⟩ (.slice A4 R'.length c4)).heap.size = w4.heap.size := by simp [World.setCell]
        have hrd5 : Reads (w4.setCell ⟨g, 1, none⟩ (.slice A4 R'.length c4)) w4.heap.size 3 A bs.length (bs.flatMap pointCells) := reads_far ((HR.out.below Hb4.out).more hs4) (fun h0 b off e q => HNe.out h0 b off e (.inl q))
        have hSet := Lib.hid (set_any (.slice Ao m.opn.length co) m.opn A d bs (w4.setCell ⟨g, 1, none⟩ (.slice A4 R'.length c4)).drew base HM5.out.opn.drew (by rw [show (w4.setCell ⟨g, 1, none⟩ (.slice A4 R'.length c4)).drew.heap.size = w4.heap.size from hsz5]; omega) hso (by rw [show (w4.setCell ⟨g, 1, none⟩ (.slice A4 R'.length c4)).drew.heap.size = w4.heap.size from hsz5]; exact hrd5) (fun h0 b off e q => HNe.out h0 b off e (.inr (.inr (.inl q)))) (by omega))
        have hcd : (¬ rs < 0 ∧ Ig.codeOf code rs = code) ∨ (rs < 0 ∧ (code != 3) = true ∧ Ig.codeOf code rs = 4) ∨ (rs < 0 ∧ (code != 3) = false ∧ Ig.codeOf code rs = code) := by
          unfold Ig.codeOf
          by_cases h1 : rs < 0
          · by_cases h2 : code = 3
            · exact .inr (.inr ⟨h1, by simp [h2], by rw [if_neg (by simp [h2])]⟩)
            · exact .inr (.inl ⟨h1, by simp [h2], by rw [if_pos ⟨h1, h2⟩]⟩)
          · exact .inl ⟨h1, by rw [if_neg (fun q => h1 q.1)]⟩
        clear hs0 hrd5 hsz5 HT HE4 HM4 HM3 HE3 hAp
        generalize hw5 : w4.setCell ⟨g, 1, none⟩ (.slice A4 R'.length c4) = w5 at *
        have hs5 : w.heap.size ≤ w5.heap.size := HO5.out.size
        go_wp2_with fail
        clear hw5 p0 p1 p2 p3 p4 f1
        go_region_with (first | (go_at_call 67; refine hSet.out.mono ?_; rintro e w6 ⟨v6, rfl, hown6, ho6, hg6⟩; obtain ⟨A6, c6, rfl, hnc6, _⟩ := own_slice hown6; have ho56 := ((Only.refl (fun k => Value.ownBlock (.slice Ao m.opn.length co) = some k) w5).drew).trans ho6 (fun _ _ h => h); have hm6 := HM5.out.blk.only ho56 (fun q => HM5.out.apart HM5.out.opn (by decide) g q rfl); have t2 := hm6.cell 2; have f2 := hm6.frozen 2))
        all_goals
          have HM7 := Lib.hid (HM5.out.setOpen ho56 hown6)
          have HO7 : Hid (Only (Foot g (.slice Ar m.rows.length cr) (.slice Ao m.opn.length co) vd vs) w (w6.setCell ⟨g, 2, none⟩ (.slice A6 (Ig.setAll m.opn bs).length c6))) := (HO5.out.trans ho56 (fun j _ q => .inr (.inr (.inl q)))).setCell (p := ⟨g, 2, none⟩) (fun _ => .inl rfl) _
          have HFin : Hid (∀ x : Int, Ig.codeOf code rs = x → TakePost w base g (.slice Ar m.rows.length cr) (.slice Ao m.opn.length co) vd vs res (.returned (.tuple #[.int .i64 rs, .int .i64 x])) (w6.setCell ⟨g, 2, none⟩ (.slice A6 (Ig.setAll m.opn bs).length c6))) := by
            intro x hx
            subst hx
            refine ⟨_, _, by rw [Hres.out], by rw [Hres.out]; exact HM7.out, HO7.out, fun k hk => ?_⟩
            rcases hk with q | q | q | q | q
            · exact .inl (.inl q)
            · exact .inr (Hg4.out k q)
            · rcases hg6 k q with z | z
              · exact .inl (.inr (.inr (.inl z)))
              · exact .inr (Nat.le_trans hs5 z)
            · exact .inl (.inr (.inr (.inr (.inl q))))
            · exact .inl (.inr (.inr (.inr (.inr q))))
          clear HM7 HO7 hown6 ho6 hg6 ho56 hm6 HM5 HO5 HE5
          rcases hcd with ⟨h1, h2⟩ | ⟨h1, h3, h2⟩ | ⟨h1, h3, h2⟩
          all_goals
            have HF := Lib.hid (HFin.out _ h2)
            clear HFin h2
            go_wp2_with fail
            go_ret2
            exact HF.out
      · have Hres : Hid (res = (⟨m.at_, R', m.opn, m.digs, m.seals⟩, rs, Ig.codeOf code rs)) := by show _ = _; rw [HT.out, if_neg hdo]
        have hcs : eff = false ∨ (eff = true ∧ (s != 0) = false) := by
          cases eff
          · exact .inl rfl
          · right; refine ⟨rfl, ?_⟩; by_cases hz : s = 0
            · simp [hz]
            · exact absurd ⟨rfl, hz⟩ hdo
        have hcd : (¬ rs < 0 ∧ Ig.codeOf code rs = code) ∨ (rs < 0 ∧ (code != 3) = true ∧ Ig.codeOf code rs = 4) ∨ (rs < 0 ∧ (code != 3) = false ∧ Ig.codeOf code rs = code) := by
          unfold Ig.codeOf
          by_cases h1 : rs < 0
          · by_cases h2 : code = 3
            · exact .inr (.inr ⟨h1, by simp [h2], by rw [if_neg (by simp [h2])]⟩)
            · exact .inr (.inl ⟨h1, by simp [h2], by rw [if_pos ⟨h1, h2⟩]⟩)
          · exact .inl ⟨h1, by rw [if_neg (fun q => h1 q.1)]⟩
        have HFin : Hid (∀ (W : World) (x : Int), Ig.codeOf code rs = x → W = w4.setCell ⟨g, 1, none⟩ (.slice A4 R'.length c4) → TakePost w base g (.slice Ar m.rows.length cr) (.slice Ao m.opn.length co) vd vs res (.returned (.tuple #[.int .i64 rs, .int .i64 x])) W) := by
          intro W x hx hW
          subst hW; subst hx
          refine ⟨_, _, by rw [Hres.out], by rw [Hres.out]; exact HM5.out, HO5.out, fun k hk => ?_⟩
          rcases hk with q | q | q | q | q
          · exact .inl (.inl q)
          · exact .inr (Hg4.out k q)
          · exact .inl (.inr (.inr (.inl q)))
          · exact .inl (.inr (.inr (.inr (.inl q))))
          · exact .inl (.inr (.inr (.inr (.inr q))))
        clear hdo Hres HT HO5 HM5 HE5 HE4 HM4 HM3 HM
        rcases hcs with rfl | ⟨rfl, hz⟩ <;> rcases hcd with ⟨h1, h2⟩ | ⟨h1, h3, h2⟩ | ⟨h1, h3, h2⟩
        all_goals
          have HF := Lib.hid (HFin.out _ _ h2 rfl)
          clear HFin h2
          go_wp2_with fail
          go_ret2
          exact HF.out
end
end Go.Proofs.YtmnigoibbcigdaaGreat
/- Which points may be a segment's: plain, and the walks through segment.may and the reference's rises. -/
namespace Go.Proofs.YtmnigoibbcigdaaGreat
open Go.RowKit
set_option linter.unusedVariables false

def Sg.z0 : Pt.Point := (⟨#[]⟩, 0, 0)
def Sg.okAt (ps : List Pt.Point) (i : Nat) : Bool := Pt.mayB (ps.getD i Sg.z0) && (decide (i = 0) || Pt.lessB (ps.getD (i - 1) Sg.z0) (ps.getD i Sg.z0))
def Sg.riseB (ps : List Pt.Point) : Bool := decide (ps.length ≤ 64) && (List.range ps.length).all (Sg.okAt ps)
theorem okAt_eq {ps : List Pt.Point} {k : Nat} (hk : k < ps.length) : Sg.okAt ps k = (Pt.mayB ps[k] && (decide (k = 0) || Pt.lessB (ps.getD (k - 1) Sg.z0) ps[k])) := by
  unfold Sg.okAt
  have e : ps.getD k Sg.z0 = ps[k] := by rw [List.getD_eq_getElem?_getD, List.getElem?_eq_getElem hk]; rfl
  rw [e]
theorem getD_lt {ps : List Pt.Point} {k : Nat} (hk : k < ps.length) : ps.getD k Sg.z0 = ps[k] := by
  rw [List.getD_eq_getElem?_getD, List.getElem?_eq_getElem hk]; rfl
theorem range_step {ps : List Pt.Point} {k : Nat} (ha : (List.range k).all (Sg.okAt ps) = true) (h : Sg.okAt ps k = true) : (List.range (k + 1)).all (Sg.okAt ps) = true := by
  rw [List.range_succ, List.all_append, ha]; simp [h]
theorem range_stop {ps : List Pt.Point} {k : Nat} (hk : k < ps.length) (h : Sg.okAt ps k = false) : Sg.riseB ps = false := by
  unfold Sg.riseB
  have : (List.range ps.length).all (Sg.okAt ps) = false := by
    rw [List.all_eq_false]
    exact ⟨k, by simp [hk], by rw [h]; simp⟩
  rw [this]; simp

set_option maxRecDepth 100000 in
set_option maxHeartbeats 1600000 in
theorem sgmay_any (A : Option Addr) (c : Nat) (ps : List Pt.Point) (w : World) (B : Nat) (hr : Reads w B 3 A ps.length (ps.flatMap pointCells)) (hB : B ≤ w.heap.size) (hn : ps.length ≤ 140737488355328) (hwf : ∀ p ∈ ps, Pt.wf p) :
    Calls Tryz.prog 68 #[.slice A ps.length c] w fun e w' => e = .returned (.bool (Sg.riseB ps)) ∧ Below w.heap.size w w' := by
  have HW := Lib.hid hwf
  have HR := Lib.hid hr
  have HSt := Lib.hid (fun k hk h => @range_stop ps k hk h)
  have HDef : Hid (Sg.riseB ps = (decide (ps.length ≤ 64) && (List.range ps.length).all (Sg.okAt ps))) := rfl
  clear hwf hr
  generalize Sg.riseB ps = res at *
  by_cases h64 : ps.length ≤ 64
  · go_enter Tryz.func68, Tryz.ntmps68
    go_wp2_with fail
    go_loopw [3, 4, 10] (fun _ _ i wr => ∃ k : Nat, k ≤ ps.length ∧ i = .int .i64 (k : Int) ∧ Hid ((List.range k).all (Sg.okAt ps) = true) ∧ Hid (Below w.heap.size w wr)) (fun _ _ i _ => ps.length - (intOf i).toNat)
    case atStart => exact ⟨0, Nat.zero_le _, rfl, Lib.hid (by simp), Lib.hid (Below.refl _ _)⟩
    case round =>
      obtain ⟨k, hk, rfl, ha, hbw⟩ := hrel
      by_cases hlt : k < ps.length
      · obtain ⟨b, off, rfl, hbl, hc⟩ := HR.out.2 (by omega)
        obtain ⟨hc0, hc1, hc2⟩ := pt_cells (wr := wr) hlt hc (fun p hp => hbw.out.cell (p := p) (by omega)) hbl
        have hM := fun W => Lib.hid (may_any ps[k] W (HW.out _ (List.getElem_mem _)))
        have hok := okAt_eq hlt
        have HGo := Lib.hid (fun h => range_step ha.out h)
        have HS := Lib.hid (fun h => HSt.out k hlt h)
        have hsw := hbw.out.size
        cases hm : Pt.mayB ps[k]
        · have HRf : Hid (res = false) := HS.out (by rw [hok, hm]; rfl)
          rw [hm] at hM
          clear hok hm HGo HS ha hc HSt HDef
          generalize hp1 : ps[k].1 = nm at *
          generalize hp2 : ps[k].2.1 = t at *
          generalize hp3 : ps[k].2.2 = v at *
          clear hp1 hp2 hp3
          go_wp2_with fail
          have hP := Blk.new wr 66 #[.string nm, .int .i64 t, .int .i64 v]
          have hb2 : Below w.heap.size w (wr.alloc (.cells #[.string nm, .int .i64 t, .int .i64 v] 66)) := hbw.out.alloc hsw _
          have HP := Lib.hid hP
          have Hb2 := Lib.hid hb2
          clear hP hb2 hc0 hc1 hc2
          generalize wr.alloc (.cells #[.string nm, .int .i64 t, .int .i64 v] 66) = w2 at *
          generalize wr.heap.size = h at *
          have hx := fun x : Aft w2.heap.size w2 => pt3_of (Blk.below HP.out x.below HP.out.lt)
          have hx0 := fun x => (hx x).1
          have hx1 := fun x => (hx x).2.1
          have hx2 := fun x => (hx x).2.2
          clear hx
          refine wp_region_aft w2.heap.size w2 (by kernel_rfl) (by kernel_rfl) (Below.refl _ _) ?_
          repeat (go_big_quiet_step (first | (go_at_call 94; with_reducible exact aft_new (Nat.le_refl _) (Hid.out (hM _)))))
          refine wpQuiet_nil ?_
          rintro _ ⟨x, rfl⟩
          have Hx := Lib.hid x.below
          clear hx0 hx1 hx2
          generalize x.world = w3 at *
          go_wp2_with fail
          go_ret
          exact ⟨ret_bool HRf.out.symm, Hb2.out.trans (Hx.out.mono Hb2.out.size)⟩
        · rw [hm] at hM hok
          rw [Bool.true_and] at hok
          by_cases hk0 : k = 0
          · have HOk := Lib.hid (HGo.out (by rw [hok, decide_eq_true hk0]; rfl))
            have hk1 : k ≤ 0 := by omega
            clear hk0 hok hm HGo HS ha hc HSt HDef
            have d0 : decide ((0 : Int) < (k : Int)) = false := decide_eq_false (by omega)
            have d1 : decide (0 < k) = false := decide_eq_false (by omega)
            generalize hp1 : ps[k].1 = nm at *
            generalize hp2 : ps[k].2.1 = t at *
            generalize hp3 : ps[k].2.2 = v at *
            clear hp1 hp2 hp3
            go_wp2_with fail
            have hP := Blk.new wr 66 #[.string nm, .int .i64 t, .int .i64 v]
            have hb2 : Below w.heap.size w (wr.alloc (.cells #[.string nm, .int .i64 t, .int .i64 v] 66)) := hbw.out.alloc hsw _
            have HP := Lib.hid hP
            have Hb2 := Lib.hid hb2
            clear hP hb2 hc0 hc1 hc2
            generalize wr.alloc (.cells #[.string nm, .int .i64 t, .int .i64 v] 66) = w2 at *
            generalize wr.heap.size = h at *
            have hx := fun x : Aft w2.heap.size w2 => pt3_of (Blk.below HP.out x.below HP.out.lt)
            have hx0 := fun x => (hx x).1
            have hx1 := fun x => (hx x).2.1
            have hx2 := fun x => (hx x).2.2
            clear hx
            refine wp_region_aft w2.heap.size w2 (by kernel_rfl) (by kernel_rfl) (Below.refl _ _) ?_
            repeat (go_big_quiet_step (first | (go_at_call 94; with_reducible exact aft_new (Nat.le_refl _) (Hid.out (hM _)))))
            refine wpQuiet_nil ?_
            rintro _ ⟨x, rfl⟩
            have Hx : Hid (Below w.heap.size w x.world) := Hb2.out.trans (x.below.mono Hb2.out.size)
            clear hx0 hx1 hx2
            generalize x.world = w3 at *
            go_wp2_with fail
            go_roundw
            case rel => exact ⟨k + 1, by omega, by go_num, HOk, Hx⟩
            case measure => simp [intOf]; omega
          · obtain ⟨j, rfl⟩ : ∃ j, k = j + 1 := ⟨k - 1, by omega⟩
            have hjl : j < ps.length := by omega
            rw [decide_eq_false hk0, Bool.false_or, show j + 1 - 1 = j from by omega, getD_lt hjl] at hok
            have hpv := fun x : Aft wr.heap.size wr => pt_cells (wr := x.world) hjl hc (fun p hp => (x.below.cell (p := p) (by omega)).trans (hbw.out.cell (p := p) (by omega))) hbl
            have hL := fun W => Lib.hid (less_any ps[j] ps[j + 1] W)
            have hOk := Lib.hid (fun h => HGo.out (by rw [hok]; exact h))
            have hNo := Lib.hid (fun h => HS.out (by rw [hok]; exact h))
            clear hok hm HGo HS ha hc HSt HDef hk0
            generalize Pt.lessB ps[j] ps[j + 1] = bl at *
            generalize hp1 : ps[j + 1].1 = nm at *
            generalize hp2 : ps[j + 1].2.1 = t at *
            generalize hp3 : ps[j + 1].2.2 = v at *
            generalize hp4 : ps[j].1 = nm' at *
            generalize hp5 : ps[j].2.1 = t' at *
            generalize hp6 : ps[j].2.2 = v' at *
            clear hp1 hp2 hp3 hp4 hp5 hp6
            go_wp2_with fail
            have hP := Blk.new wr 66 #[.string nm, .int .i64 t, .int .i64 v]
            have hb2 : Below w.heap.size w (wr.alloc (.cells #[.string nm, .int .i64 t, .int .i64 v] 66)) := hbw.out.alloc hsw _
            have hbr : Below wr.heap.size wr (wr.alloc (.cells #[.string nm, .int .i64 t, .int .i64 v] 66)) := (Below.refl _ _).alloc (Nat.le_refl _) _
            have HP := Lib.hid hP
            have Hb2 := Lib.hid hb2
            have Hbr := Lib.hid hbr
            have Hpv := Lib.hid hpv
            clear hP hb2 hbr hc0 hc1 hc2 hpv
            have hrs := Hbr.out.size
            generalize wr.alloc (.cells #[.string nm, .int .i64 t, .int .i64 v] 66) = w2 at *
            have hx := fun x : Aft w2.heap.size w2 => pt3_of (Blk.below HP.out x.below HP.out.lt)
            have hy := fun x : Aft w2.heap.size w2 => Hpv.out ⟨x.world, Hbr.out.trans (x.below.mono hrs)⟩
            have hx0 := fun x => (hx x).1
            have hx1 := fun x => (hx x).2.1
            have hx2 := fun x => (hx x).2.2
            have hy0 := fun x => (hy x).1
            have hy1 := fun x => (hy x).2.1
            have hy2 := fun x => (hy x).2.2
            simp only at hy0 hy1 hy2
            clear hx hy Hpv
            generalize wr.heap.size = h at *
            have hi0 : (0 : Int) ≤ (j : Int) := by omega
            have hi1 : (j : Int) < (ps.length : Int) := by omega
            have d1 : decide ((0 : Int) < (j : Int) + 1) = true := decide_eq_true (by omega)
            have d2 : decide (0 < j + 1) = true := decide_eq_true (by omega)
            have hw1 : IntKind.i64.wrap ((j : Int) + 1 - 1) = (j : Int) := by rw [show (j : Int) + 1 - 1 = (j : Int) from by omega]; exact IntWalk.i64_in _ (by omega)
            have hw2 : IntKind.i64.wrap (j : Int) = (j : Int) := IntWalk.i64_in _ (by omega)
            refine wp_region_aft w2.heap.size w2 (by kernel_rfl) (by kernel_rfl) (Below.refl _ _) ?_
            repeat (go_big_quiet_step (first | (go_at_call 94; with_reducible exact aft_new (Nat.le_refl _) (Hid.out (hM _))) | (go_at_call 95; with_reducible exact aft_new (Nat.le_refl _) (Hid.out (hL _)))))
            refine wpQuiet_nil ?_
            rintro _ ⟨x, rfl⟩
            have Hx : Hid (Below w.heap.size w x.world) := Hb2.out.trans (x.below.mono Hb2.out.size)
            clear hx0 hx1 hx2 hy0 hy1 hy2 hw1 hw2
            generalize x.world = w3 at *
            cases bl
            · have HRf : Hid (res = false) := hNo.out rfl
              go_wp2_with fail
              go_ret
              exact ⟨ret_bool HRf.out.symm, Hx.out⟩
            · have HOk := Lib.hid (hOk.out rfl)
              go_wp2_with fail
              go_roundw
              case rel => exact ⟨j + 1 + 1, by omega, by go_num, HOk, Hx⟩
              case measure => simp [intOf]; omega
      · have HRf : Hid (res = true) := by
          show _ = _
          have e : k = ps.length := by omega
          have := ha.out
          rw [e] at this
          rw [HDef.out, this]; simp [h64]
        clear ha HSt HDef
        go_wp2_with fail
        go_ret
        exact ⟨ret_bool HRf.out.symm, hbw.out⟩
  · have HRf : Hid (res = false) := by show _ = _; rw [HDef.out]; simp [h64]
    go_enter Tryz.func68, Tryz.ntmps68
    go_wp2_with fail
    go_ret
    exact ⟨ret_bool HRf.out.symm, Below.refl _ _⟩
end Go.Proofs.YtmnigoibbcigdaaGreat
/- Columns in plain words: numbers and texts as bytes, and back (chapter 12). No program in sight. -/
namespace Go.Proofs.YtmnigoibbcigdaaGreat.Cl
open Go.Proofs.YtmnigoibbcigdaaGreat
set_option linter.unusedVariables false

def intsD : Int → List Int → List UInt8
  | _, [] => []
  | last, x :: xs => Wr.putL (x - last) ++ intsD x xs
def intsB (xs : List Int) : ByteArray := if xs.all Pt.smallB then ⟨(intsD 0 xs).toArray⟩ else ⟨#[]⟩
def goInts (l : List UInt8) : Nat → Int → Int → Option (List Int × Int)
  | 0, _, a => some ([], a)
  | n + 1, last, a =>
    if (Wr.getN l a).2.2 = 0 ∧ Pt.smallB (last + (Wr.getN l a).1) = true then
      (goInts l n (last + (Wr.getN l a).1) (Wr.getN l a).2.1).map fun r => ((last + (Wr.getN l a).1) :: r.1, r.2)
    else none
def getInts (s : ByteArray) (a many : Int) : List Int × Int × Int :=
  if many < 0 ∨ 65536 < many ∨ a < 0 ∨ (s.size : Int) < a then ([], 0, 1200) else
    match goInts s.data.toList many.toNat 0 a with
    | none => ([], 0, 1200)
    | some r => (r.1, r.2, 0)

theorem zig_le (x : Int) (m : Nat) (h1 : -(m : Int) ≤ x) (h2 : x ≤ (m : Int)) : Wr.zig x ≤ 2 * m := by
  unfold Wr.zig; split <;> omega
theorem putL_five (x : Int) (h1 : -8589934592 ≤ x) (h2 : x ≤ 8589934592) : (Wr.putL x).length ≤ 5 := by
  unfold Wr.putL
  split
  · have := zig_le x 8589934592 (by omega) (by omega)
    exact Wr.vb_len 9 (Wr.zig x) 4 (by simp; omega)
  · simp
theorem putL_seven (k : Nat) (h : k ≤ 140737488355328) : (Wr.putL (k : Int)).length ≤ 7 := by
  unfold Wr.putL
  split
  · have := zig_le (k : Int) k (by omega) (by omega)
    exact Wr.vb_len 9 (Wr.zig k) 6 (by simp; omega)
  · simp
theorem putL_one (x : Int) (h1 : -64 ≤ x) (h2 : x ≤ 63) : (Wr.putL x).length = 1 := by
  have hn : Wr.isNum x = true := (Wr.isNum_iff x).2 (by omega)
  unfold Wr.putL
  rw [if_pos hn]
  have : Wr.zig x < 128 := by unfold Wr.zig; split <;> omega
  rw [Wr.vb_small _ _ this]; rfl
theorem intsD_len (last : Int) (xs : List Int) (hl : Pt.smallB last = true) (h : xs.all Pt.smallB = true) : (intsD last xs).length ≤ 5 * xs.length := by
  induction xs generalizing last with
  | nil => simp [intsD]
  | cons x xs ih =>
    rw [List.all_cons, Bool.and_eq_true] at h
    have h1 := ih x h.1 h.2
    have hs := (Pt.smallB_iff _).1 h.1
    have hl' := (Pt.smallB_iff _).1 hl
    have h2 : (Wr.putL (x - last)).length ≤ 5 := putL_five (x - last) (by omega) (by omega)
    rw [intsD, List.length_append, List.length_cons]; omega
/-- one step more -/
theorem goInts_more (l : List UInt8) (n : Nat) (last a d to : Int) (h : Wr.getN l a = (d, to, 0)) (hs : Pt.smallB (last + d) = true) : goInts l (n + 1) last a = (goInts l n (last + d) to).map fun r => ((last + d) :: r.1, r.2) := by
  rw [goInts, h, if_pos ⟨rfl, hs⟩]
theorem goInts_stop (l : List UInt8) (n : Nat) (last a : Int) (h : (Wr.getN l a).2.2 ≠ 0 ∨ Pt.smallB (last + (Wr.getN l a).1) = false) : goInts l (n + 1) last a = none := by
  rw [goInts, if_neg]
  rintro ⟨h1, h2⟩
  rcases h with h | h
  · exact h h1
  · rw [h] at h2; cases h2
theorem goInts_put (l : List UInt8) (xs : List Int) (pre post : List UInt8) (last : Int) (hl : l = pre ++ (intsD last xs ++ post)) (hs : Pt.smallB last = true) (h : xs.all Pt.smallB = true) :
    goInts l xs.length last (pre.length : Int) = some (xs, (pre.length : Int) + ((intsD last xs).length : Int)) := by
  induction xs generalizing pre last with
  | nil => simp [goInts, intsD]
  | cons x xs ih =>
    rw [List.all_cons, Bool.and_eq_true] at h
    have hx := (Pt.smallB_iff _).1 h.1
    have hl' := (Pt.smallB_iff _).1 hs
    rw [intsD, List.append_assoc] at hl
    have hg : Wr.getN l (pre.length : Int) = (x - last, (pre.length : Int) + ((Wr.putL (x - last)).length : Int), 0) := by
      rw [hl]; exact Wr.getN_put _ _ _ ((Wr.isNum_iff _).2 (by omega))
    have e : last + (x - last) = x := by omega
    have h2 := ih (pre ++ Wr.putL (x - last)) x (by rw [hl]; simp) h.1 h.2
    rw [List.length_append, Int.natCast_add] at h2
    rw [List.length_cons, goInts_more l _ last _ _ _ hg (by rw [e]; exact h.1), e, h2, intsD, List.length_append]
    simp only [Option.map_some, Int.natCast_add, Int.add_assoc]

/-! texts -/
def idx (ws : List ByteArray) (x : ByteArray) : Nat := ws.findIdx fun w => decide (w = x)
def txGo : List ByteArray → List ByteArray → List ByteArray × List Nat
  | ws, [] => (ws, [])
  | ws, x :: xs =>
    if idx ws x < ws.length then ((txGo ws xs).1, idx ws x :: (txGo ws xs).2)
    else ((txGo (ws ++ [x]) xs).1, ws.length :: (txGo (ws ++ [x]) xs).2)
def wordsL (ws : List ByteArray) : List UInt8 := ws.flatMap fun w => (Wr.textB w).data.toList
def placesL (ks : List Nat) : List UInt8 := ks.flatMap fun (k : Nat) => Wr.putL (k : Int)
def textsL (xs : List ByteArray) : List UInt8 := Wr.putL ((txGo [] xs).1.length : Int) ++ wordsL (txGo [] xs).1 ++ placesL (txGo [] xs).2
def shortB (xs : List ByteArray) : Bool := xs.all fun x => decide (x.size ≤ 12)
def textsB (xs : List ByteArray) : ByteArray := if shortB xs then ⟨(textsL xs).toArray⟩ else ⟨#[]⟩
theorem idx_le (ws : List ByteArray) (x : ByteArray) : idx ws x ≤ ws.length := List.findIdx_le_length
theorem idx_lt {ws : List ByteArray} {x : ByteArray} (h : idx ws x < ws.length) : ws[idx ws x] = x := by
  have := List.findIdx_getElem (w := h)
  exact of_decide_eq_true this
theorem idx_first {ws : List ByteArray} {x : ByteArray} {k : Nat} (hk : k < ws.length) (h : ws[k] = x) (hb : ∀ j (hj : j < k), ws[j]'(by omega) ≠ x) : idx ws x = k := by
  unfold idx
  rw [List.findIdx_eq hk]
  exact ⟨by simpa using h, fun j hj => by simpa using hb j hj⟩
theorem idx_none {ws : List ByteArray} {x : ByteArray} (h : ∀ j (hj : j < ws.length), ws[j] ≠ x) : idx ws x = ws.length := by
  unfold idx
  rw [List.findIdx_eq_length]
  intro w hw
  obtain ⟨j, hj, rfl⟩ := List.getElem_of_mem hw
  simpa using h j hj

def rdWords (s : ByteArray) : Nat → List ByteArray → Int → Option (List ByteArray × Int)
  | 0, ws, a => some (ws, a)
  | n + 1, ws, a => if (Wr.getT s a 12).2.2 = 0 ∧ ¬ idx ws (Wr.getT s a 12).1 < ws.length then rdWords s n (ws ++ [(Wr.getT s a 12).1]) (Wr.getT s a 12).2.1 else none
def rdPlaces (l : List UInt8) (ws : List ByteArray) : Nat → Nat → Int → Option (List ByteArray × Nat × Int)
  | 0, used, a => some ([], used, a)
  | n + 1, used, a =>
    if (Wr.getN l a).2.2 = 0 ∧ 0 ≤ (Wr.getN l a).1 ∧ (Wr.getN l a).1 < (ws.length : Int) ∧ (Wr.getN l a).1 ≤ (used : Int) then
      (rdPlaces l ws n (if (Wr.getN l a).1 = (used : Int) then used + 1 else used) (Wr.getN l a).2.1).map fun r => (ws.getD (Wr.getN l a).1.toNat ⟨#[]⟩ :: r.1, r.2)
    else none
def getTexts (s : ByteArray) (a many : Int) : List ByteArray × Int × Int :=
  if many < 0 ∨ 65536 < many ∨ a < 0 ∨ (s.size : Int) < a then ([], 0, 1200) else
    if (Wr.getN s.data.toList a).2.2 ≠ 0 ∨ (Wr.getN s.data.toList a).1 < 0 ∨ many < (Wr.getN s.data.toList a).1 then ([], 0, 1200) else
      match rdWords s (Wr.getN s.data.toList a).1.toNat [] (Wr.getN s.data.toList a).2.1 with
      | none => ([], 0, 1200)
      | some (ws, b) =>
        match rdPlaces s.data.toList ws many.toNat 0 b with
        | none => ([], 0, 1200)
        | some (l, u, c) => if u = ws.length then (l, c, 0) else ([], 0, 1200)
end Go.Proofs.YtmnigoibbcigdaaGreat.Cl
/- Columns there and back: plain (chapter 12). No program in sight. -/
namespace Go.Proofs.YtmnigoibbcigdaaGreat.Cl
open Go.Proofs.YtmnigoibbcigdaaGreat
set_option linter.unusedVariables false

theorem idx_mem {ws : List ByteArray} {x : ByteArray} : idx ws x < ws.length ↔ x ∈ ws := by
  unfold idx
  rw [List.findIdx_lt_length]
  simp
theorem tx_prefix (ws xs : List ByteArray) : ∃ r, (txGo ws xs).1 = ws ++ r := by
  induction xs generalizing ws with
  | nil => exact ⟨[], by simp [txGo]⟩
  | cons x xs ih =>
    rw [txGo]
    split
    · obtain ⟨r, hr⟩ := ih ws; exact ⟨r, hr⟩
    · obtain ⟨r, hr⟩ := ih (ws ++ [x]); exact ⟨[x] ++ r, by simp [hr]⟩
theorem tx_nodup (ws xs : List ByteArray) (h : ws.Nodup) : (txGo ws xs).1.Nodup := by
  induction xs generalizing ws with
  | nil => exact h
  | cons x xs ih =>
    rw [txGo]
    split
    · exact ih ws h
    · rename_i hn
      rw [idx_mem] at hn
      exact ih _ (by rw [List.nodup_append]; exact ⟨h, by simp, fun a ha b hb => by simp at hb; subst hb; exact fun e => hn (e ▸ ha)⟩)
theorem tx_short (ws xs : List ByteArray) (h : ∀ w ∈ ws, w.size ≤ 12) (hx : ∀ x ∈ xs, x.size ≤ 12) : ∀ w ∈ (txGo ws xs).1, w.size ≤ 12 := by
  induction xs generalizing ws with
  | nil => exact h
  | cons x xs ih =>
    rw [txGo]
    split
    · exact ih ws h fun y hy => hx y (by simp [hy])
    · exact ih _ (fun w hw => by
        rcases List.mem_append.1 hw with hw | hw
        · exact h w hw
        · simp at hw; subst hw; exact hx _ (by simp)) fun y hy => hx y (by simp [hy])
theorem tx_len (ws xs : List ByteArray) : (txGo ws xs).1.length ≤ ws.length + xs.length ∧ (txGo ws xs).2.length = xs.length := by
  induction xs generalizing ws with
  | nil => simp [txGo]
  | cons x xs ih =>
    rw [txGo]
    split
    · have := ih ws; simp; omega
    · have := ih (ws ++ [x]); simp at this ⊢; omega
theorem tx_places (ws xs : List ByteArray) : ∀ k ∈ (txGo ws xs).2, k < (txGo ws xs).1.length := by
  induction xs generalizing ws with
  | nil => simp [txGo]
  | cons x xs ih =>
    rw [txGo]
    split
    · rename_i h
      intro k hk
      rcases List.mem_cons.1 hk with rfl | hk
      · obtain ⟨r, hr⟩ := tx_prefix ws xs
        simp only [hr, List.length_append]; omega
      · exact ih ws k hk
    · intro k hk
      rcases List.mem_cons.1 hk with rfl | hk
      · obtain ⟨r, hr⟩ := tx_prefix (ws ++ [x]) xs
        simp only [hr, List.length_append, List.length_cons, List.length_nil]; omega
      · exact ih _ k hk
theorem rdWords_put (s : ByteArray) (ws ws0 : List ByteArray) (pre post : List UInt8) (hl : s.data.toList = pre ++ (wordsL ws ++ post)) (hs : ∀ w ∈ ws, w.size ≤ 12) (hn : (ws0 ++ ws).Nodup) :
    rdWords s ws.length ws0 (pre.length : Int) = some (ws0 ++ ws, (pre.length : Int) + ((wordsL ws).length : Int)) := by
  induction ws generalizing ws0 pre with
  | nil => simp [rdWords, wordsL]
  | cons w ws ih =>
    have hw : wordsL (w :: ws) = (Wr.textB w).data.toList ++ wordsL ws := by simp [wordsL]
    rw [hw, List.append_assoc] at hl
    have hg := Pt.getT_at_text s pre (wordsL ws ++ post) w 12 hl (by have := hs w (by simp); omega) (by have := hs w (by simp); omega)
    have hni : ¬ idx ws0 w < ws0.length := by
      rw [idx_mem]
      intro hm
      rw [List.nodup_append] at hn
      exact hn.2.2 w hm w (by simp) rfl
    have h2 := ih (ws0 ++ [w]) (pre ++ (Wr.textB w).data.toList) (by rw [hl]; simp) (fun x hx => hs x (by simp [hx])) (by simpa using hn)
    rw [List.length_append, Int.natCast_add] at h2
    rw [List.length_cons, rdWords, hg, if_pos ⟨rfl, hni⟩, h2, hw]
    simp only [List.append_assoc, List.cons_append, List.nil_append, List.length_append, Int.natCast_add, Int.add_assoc]
theorem rdPlaces_put (l : List UInt8) (xs ws : List ByteArray) (pre post : List UInt8) (hl : l = pre ++ (placesL (txGo ws xs).2 ++ post)) (hb : (txGo ws xs).1.length ≤ 9007199254740992) :
    rdPlaces l (txGo ws xs).1 xs.length ws.length (pre.length : Int) = some (xs, (txGo ws xs).1.length, (pre.length : Int) + ((placesL (txGo ws xs).2).length : Int)) := by
  induction xs generalizing ws pre with
  | nil => simp [rdPlaces, txGo, placesL]
  | cons x xs ih =>
    rw [txGo] at hl hb ⊢
    by_cases h : idx ws x < ws.length
    · rw [if_pos h] at hl hb ⊢
      simp only at hl hb ⊢
      obtain ⟨r, hr⟩ := tx_prefix ws xs
      have hp : placesL (idx ws x :: (txGo ws xs).2) = Wr.putL (idx ws x : Int) ++ placesL (txGo ws xs).2 := by simp [placesL]
      rw [hp, List.append_assoc] at hl
      have hW : ws.length ≤ (txGo ws xs).1.length := by rw [hr, List.length_append]; omega
      have hg : Wr.getN l (pre.length : Int) = ((idx ws x : Int), (pre.length : Int) + ((Wr.putL (idx ws x : Int)).length : Int), 0) := by
        rw [hl]; exact Wr.getN_put _ _ _ ((Wr.isNum_iff _).2 (by omega))
      have h2 := ih ws (pre ++ Wr.putL (idx ws x : Int)) (by rw [hl]; simp) hb
      rw [List.length_append, Int.natCast_add] at h2
      rw [List.length_cons, rdPlaces, hg, if_pos ⟨rfl, by simp, by simp; omega, by simp; omega⟩]
      simp only [Int.toNat_natCast]
      rw [if_neg (by omega), h2, hp]
      have hx : (txGo ws xs).1.getD (idx ws x) ⟨#[]⟩ = x := by
        rw [hr, List.getD_eq_getElem?_getD, List.getElem?_append_left h, List.getElem?_eq_getElem h, idx_lt h]; rfl
      rw [hx]
      simp only [Option.map_some, List.length_append, Int.natCast_add, Int.add_assoc]
    · rw [if_neg h] at hl hb ⊢
      simp only at hl hb ⊢
      obtain ⟨r, hr⟩ := tx_prefix (ws ++ [x]) xs
      have hp : placesL (ws.length :: (txGo (ws ++ [x]) xs).2) = Wr.putL (ws.length : Int) ++ placesL (txGo (ws ++ [x]) xs).2 := by simp [placesL]
      rw [hp, List.append_assoc] at hl
      have hW : ws.length < (txGo (ws ++ [x]) xs).1.length := by rw [hr]; simp
      have hg : Wr.getN l (pre.length : Int) = ((ws.length : Int), (pre.length : Int) + ((Wr.putL (ws.length : Int)).length : Int), 0) := by
        rw [hl]; exact Wr.getN_put _ _ _ ((Wr.isNum_iff _).2 (by omega))
      have h2 := ih (ws ++ [x]) (pre ++ Wr.putL (ws.length : Int)) (by rw [hl]; simp) hb
      rw [show (ws ++ [x]).length = ws.length + 1 from by simp, List.length_append, Int.natCast_add] at h2
      rw [List.length_cons, rdPlaces, hg, if_pos ⟨rfl, by simp, by simp; omega, by simp⟩]
      simp only [Int.toNat_natCast, if_true]
      rw [h2, hp]
      have hx : (txGo (ws ++ [x]) xs).1.getD ws.length ⟨#[]⟩ = x := by
        rw [hr, List.getD_eq_getElem?_getD, List.append_assoc, List.getElem?_append_right (Nat.le_refl _)]; simp
      rw [hx]
      simp only [Option.map_some, List.length_append, Int.natCast_add, Int.add_assoc]
theorem short_all {xs : List ByteArray} (h : shortB xs = true) : ∀ x ∈ xs, x.size ≤ 12 := by
  unfold shortB at h; simpa using h
theorem getTexts_put (s : ByteArray) (xs : List ByteArray) (pre post : List UInt8) (hl : s.data.toList = pre ++ (textsL xs ++ post)) (hs : shortB xs = true) (hn : xs.length ≤ 65536) :
    getTexts s (pre.length : Int) (xs.length : Int) = (xs, (pre.length : Int) + ((textsL xs).length : Int), 0) := by
  have hlen := tx_len [] xs
  simp only [List.length_nil, Nat.zero_add] at hlen
  have hsz : s.size = pre.length + ((textsL xs).length + post.length) := by rw [← Wr.len_list, hl]; simp
  have ht : textsL xs = Wr.putL ((txGo [] xs).1.length : Int) ++ (wordsL (txGo [] xs).1 ++ placesL (txGo [] xs).2) := by unfold textsL; simp
  have hg : Wr.getN s.data.toList (pre.length : Int) = (((txGo [] xs).1.length : Int), (pre.length : Int) + ((Wr.putL ((txGo [] xs).1.length : Int)).length : Int), 0) := by
    rw [hl, ht, List.append_assoc]; exact Wr.getN_put _ _ _ ((Wr.isNum_iff _).2 (by omega))
  have h1 := rdWords_put s (txGo [] xs).1 [] (pre ++ Wr.putL ((txGo [] xs).1.length : Int)) (placesL (txGo [] xs).2 ++ post) (by rw [hl, ht]; simp) (tx_short [] xs (by simp) (short_all hs)) (by simpa using tx_nodup [] xs (by simp))
  have h2 := rdPlaces_put s.data.toList xs [] (pre ++ Wr.putL ((txGo [] xs).1.length : Int) ++ wordsL (txGo [] xs).1) post (by rw [hl, ht]; simp) (by omega)
  rw [List.length_append, Int.natCast_add] at h1
  rw [List.length_append, List.length_append, Int.natCast_add, Int.natCast_add] at h2
  unfold getTexts
  rw [if_neg (by omega), hg]
  simp only [Int.toNat_natCast]
  rw [if_neg (by simp; omega), h1]
  simp only [List.nil_append]
  rw [show ([] : List ByteArray).length = 0 from rfl] at h2
  rw [h2]
  simp only [if_true, ht, List.length_append, Int.natCast_add, Int.add_assoc]
theorem getInts_put (s : ByteArray) (xs : List Int) (pre post : List UInt8) (hl : s.data.toList = pre ++ (intsD 0 xs ++ post)) (h : xs.all Pt.smallB = true) (hn : xs.length ≤ 65536) :
    getInts s (pre.length : Int) (xs.length : Int) = (xs, (pre.length : Int) + ((intsD 0 xs).length : Int), 0) := by
  have hsz : s.size = pre.length + ((intsD 0 xs).length + post.length) := by rw [← Wr.len_list, hl]; simp
  unfold getInts
  rw [if_neg (by omega), Int.toNat_natCast, goInts_put _ xs pre post 0 hl (by decide) h]
end Go.Proofs.YtmnigoibbcigdaaGreat.Cl
/- strings.Builder: copyCheck, WriteString and String at this program (worked out after the kit's forms '_k', which the shelf's command does not lay here). -/
namespace Go.Proofs.YtmnigoibbcigdaaGreat
open Go.RowKit
set_option linter.unusedVariables false

abbrev Bld := Lib.IsBuilderF 84 5
theorem info_builder : (Tryz.prog.info? 84).map (·.size) = some 2 := by kernel_rfl
theorem lies_builder : liesAt Tryz.prog Tryz.prog.depth 84 (2 / Tryz.prog.cellsOf 84) 0 84 1 = true := by kernel_rfl
theorem info_byte : (Tryz.prog.info? 5).map (fun i => (i.zero, i.size, i.bytes)) = some (some (.int .u8 0), 1, 1) := by kernel_rfl

set_option maxRecDepth 100000 in
theorem copyCheck_used (b : Nat) (w : World) (h0 : w.cell? ⟨b, 0, none⟩ = some (.pointer (some ⟨b, 0, none⟩))) :
    Calls Tryz.prog 83 #[.pointer (some ⟨b, 0, none⟩)] w fun e w' => e = .returned (.tuple #[]) ∧ w' = w := by
  obtain ⟨j, hj, _⟩ := Option.map_eq_some_iff.1 info_builder
  go_enter Tryz.func83, Tryz.ntmps83
  go_wp2
  rw [Lib.run_neq_ptr_same w _ Tryz.underlying81 hj]
  go_wp2
  go_end0
  exact ⟨rfl, rfl⟩

set_option maxRecDepth 100000 in
theorem copyCheck_fresh (b : Nat) (w : World) (h0 : w.cell? ⟨b, 0, none⟩ = some (.pointer none)) (hsh : w.shape? b = some (84, 2)) (hfz : w.frozen? ⟨b, 0, none⟩ = false) :
    Calls Tryz.prog 83 #[.pointer (some ⟨b, 0, none⟩)] w fun e w' => e = .returned (.tuple #[]) ∧ w' = w.setCell ⟨b, 0, none⟩ (.pointer (some ⟨b, 0, none⟩)) := by
  obtain ⟨j, hj, hjs⟩ := Option.map_eq_some_iff.1 info_builder
  go_enter Tryz.func83, Tryz.ntmps83
  go_wp2
  rw [Lib.run_to_unsafe w ⟨b, 0, none⟩ Tryz.underlying81 Tryz.underlying136 hj (by rw [hjs]; decide) hsh (Nat.zero_lt_succ 1)]
  simp only [Result.andThen]
  rw [Oper.upon_value]
  go_wp2
  rw [run_callFunc_extern Tryz.func101 (by kernel_rfl) (by kernel_rfl) (by kernel_rfl) (e := Extern.AbiNoEscape.same) (by kernel_rfl)]
  rw [Lib.run_noEscape]
  simp only [Result.andThen]
  rw [Oper.upon_value]
  go_wp2
  rw [Lib.run_from_unsafe w ⟨b, 0, none⟩ Tryz.underlying136 Tryz.underlying81 hj hsh lies_builder]
  simp only [Result.andThen]
  rw [Oper.upon_value]
  go_wp2
  go_end0
  exact ⟨rfl, rfl⟩

theorem copyCheck_any (B b : Nat) (bs : List Value) (w : World) (h : Bld B b bs w) :
    Calls Tryz.prog 83 #[.pointer (some ⟨b, 0, none⟩)] w fun e w' => e = .returned (.tuple #[]) ∧ (Lib.BuilderAtF 84 5 B b (.pointer (some ⟨b, 0, none⟩)) bs w' ∧ Below B w w' ∧ Lib.OthersKept 5 (some b) w w') := by
  rcases h with h | h
  · refine (copyCheck_fresh b w h.cell0 h.shape h.frozen0).mono ?_
    rintro e w' ⟨rfl, rfl⟩
    exact ⟨rfl, h.used _, (Below.refl B w).setCell (p := ⟨b, 0, none⟩) h.1 _, (Lib.OthersKept.refl _ _ w).setCell ⟨b, 0, none⟩ rfl _⟩
  · refine (copyCheck_used b w h.cell0).mono ?_
    rintro e w' ⟨rfl, rfl⟩
    exact ⟨rfl, h, Below.refl B _, Lib.OthersKept.refl _ _ _⟩

set_option maxHeartbeats 1000000 in
set_option maxRecDepth 100000 in
theorem writeString_any (B b : Nat) (bs : List Value) (s : ByteArray) (w : World) (h : Bld B b bs w) (hlen : bs.length + s.size ≤ 140737488355328) (hBw : B ≤ w.heap.size) :
    Calls Tryz.prog 42 #[.pointer (some ⟨b, 0, none⟩), .string s] w fun e w' => e = .returned (.tuple #[.int .i64 s.size, .nilIface]) ∧ Bld B b (bs ++ Lib.strCells s) w' ∧ Below B w w' ∧ Lib.OthersKept 5 (some b) w w' := by
  obtain ⟨i0, hi, hz0, hz1, hz2⟩ := info_parts info_byte
  go_enter Tryz.func42, Tryz.ntmps42
  go_wp2_with fail
  refine (copyCheck_any B b bs _ h).mono ?_
  rintro e w1 ⟨rfl, h1, hb1, hk1⟩
  obtain ⟨hB, v, hbk, hown, hne⟩ := h1
  have c0 : w1.cell? ⟨b, 0, none⟩ = some (.pointer (some ⟨b, 0, none⟩)) := by rw [Lib.cell_of_heap hbk]; rfl
  have c1 : w1.cell? ⟨b, 1, none⟩ = some v := by rw [Lib.cell_of_heap hbk]; rfl
  go_wp2_with (at_builtin; refine Lib.wpList_append_own_stringF _ rfl _ _ 82 9 rfl B 5 i0 Tryz.underlying82 Tryz.underlying9 hi hz0 hz1 hz2 _ _ _ rfl hown s rfl ?c3 ?c4 ?c5 ?_)
  case c3 => unfold maxLen; omega
  case c4 => omega
  case c5 => have := hb1.size; omega
  intro v' w2 hown' hgrow _
  have hlt : b < w1.heap.size := by
    rcases Nat.lt_or_ge b w1.heap.size with h' | h'
    · exact h'
    · simp [Array.getElem?_eq_none h'] at hbk
  have hb2 : w2.heap[b]? = some (.cells #[.pointer (some ⟨b, 0, none⟩), v] 84 (0, 0)) := by
    rw [hgrow.block b hlt (fun e => hne e.symm)]
    exact hbk
  have d0 : w2.cell? ⟨b, 0, none⟩ = some (.pointer (some ⟨b, 0, none⟩)) := by rw [Lib.cell_of_heap hb2]; rfl
  have d1 : w2.cell? ⟨b, 1, none⟩ = some v := by rw [Lib.cell_of_heap hb2]; rfl
  have f1 : w2.frozen? ⟨b, 1, none⟩ = false := Lib.frozen_of_heap hb2 1
  obtain ⟨ao, n', cap, rfl⟩ : ∃ ao n' cap, v' = .slice ao n' cap := by
    rcases hown'.2 with ⟨hv, _⟩ | ⟨g, cap, cur, fz, hv, _⟩
    · exact ⟨_, _, _, hv⟩
    · exact ⟨_, _, _, hv⟩
  go_wp2
  go_ret2
  refine ⟨rfl, ?_, ?_, (hk1.grown hgrow (Lib.ownsRowF_kind hown)).setCell ⟨b, 1, none⟩ rfl _⟩
  · exact .inr (Lib.BuilderAtF.put (T := 84) (e := 5) hB hb2 (bs' := bs ++ Lib.strCells s) (by simpa [Lib.strCells] using hown') (by decide))
  · exact (hb1.grown hgrow (by have := hb1.size; omega) (fun k hk => (hown.lt k hk).1)).setCell (p := ⟨b, 1, none⟩) hB _

theorem byteCells_app (l : List UInt8) (s : ByteArray) : Lib.byteCells l ++ Lib.strCells s = Lib.byteCells (l ++ s.data.toList) := by
  simp [Lib.byteCells, Lib.strCells]
theorem byteCells_len (l : List UInt8) : (Lib.byteCells l).length = l.length := by simp [Lib.byteCells]
/-- WriteString on a builder that holds the bytes l -/
theorem write_any (B b : Nat) (l : List UInt8) (s : ByteArray) (w : World) (h : Bld B b (Lib.byteCells l) w) (hlen : l.length + s.size ≤ 140737488355328) (hBw : B ≤ w.heap.size) :
    Calls Tryz.prog 42 #[.pointer (some ⟨b, 0, none⟩), .string s] w fun e w' => e = .returned (.tuple #[.int .i64 s.size, .nilIface]) ∧ Bld B b (Lib.byteCells (l ++ s.data.toList)) w' ∧ Below B w w' ∧ Lib.OthersKept 5 (some b) w w' := by
  have := writeString_any B b (Lib.byteCells l) s w h (by rw [byteCells_len]; exact hlen) hBw
  rwa [byteCells_app] at this
theorem bstring_any (B b : Nat) (l : List UInt8) (w : World) (h : Bld B b (Lib.byteCells l) w) (hBw : B ≤ w.heap.size) :
    Calls Tryz.prog 46 #[.pointer (some ⟨b, 0, none⟩)] w fun e w' => e = .returned (.string ⟨l.toArray⟩) ∧ Bld B b (Lib.byteCells l) w' ∧ Below B w w' ∧ Lib.OthersKept 5 (some b) w w' :=
  Tryz.Builder_String_any_k B b l w h hBw
theorem bld_new (w : World) : Bld w.heap.size w.heap.size (Lib.byteCells []) (w.alloc (.cells #[.pointer none, .slice none 0 0] 84)) := Lib.IsBuilderF.of (Lib.fresh_isBuilder _ _ w)
theorem bld_mono {B B' b : Nat} {bs : List Value} {w : World} (h : Bld B b bs w) (hB : B' ≤ B) : Bld B' b bs w := by
  have up : ∀ p, Lib.BuilderAtF 84 5 B b p bs w → Lib.BuilderAtF 84 5 B' b p bs w := by
    rintro p ⟨h1, v, h2, h3, h4⟩
    refine ⟨Nat.le_trans hB h1, v, h2, ⟨h3.1, ?_⟩, h4⟩
    rcases h3.2 with h0 | ⟨g, cap, cur, fz, e1, e2, e3⟩
    · exact .inl h0
    · exact .inr ⟨g, cap, cur, fz, e1, Nat.le_trans hB e2, e3⟩
  rcases h with h | h
  · exact .inl (up _ h)
  · exact .inr (up _ h)
theorem bld_lt {B b : Nat} {bs : List Value} {w : World} (h : Bld B b bs w) : B ≤ b ∧ b < w.heap.size := by
  rcases h with h | h
  · exact ⟨h.1, h.lt⟩
  · exact ⟨h.1, h.lt⟩
/-- a builder is one still where all that lay then lies unturned -/
theorem bld_below {B b : Nat} {bs : List Value} {w w' : World} (h : Bld B b bs w) (hb : Below w.heap.size w w') : Bld B b bs w' := by
  have up : ∀ p, Lib.BuilderAtF 84 5 B b p bs w → Lib.BuilderAtF 84 5 B b p bs w' := by
    rintro p hh
    have hlt := hh.lt
    obtain ⟨h1, v, h2, h3, h4⟩ := hh
    refine ⟨h1, v, (hb.block b hlt).trans h2, ⟨h3.1, ?_⟩, h4⟩
    rcases h3.2 with h0 | ⟨g, cap, cur, fz, e1, e2, e3, e4⟩
    · exact .inl h0
    · exact .inr ⟨g, cap, cur, fz, e1, e2, (hb.block g (Array.getElem?_eq_some_iff.1 e3).1).trans e3, e4⟩
  rcases h with h | h
  · exact .inl (up _ h)
  · exact .inr (up _ h)
theorem Blk.others {w w' : World} {g : Nat} {t : TypeId} {cs : Array Value} {e : TypeId} {b : Nat} (h : Blk w g t cs) (ho : Lib.OthersKept e (some b) w w') (hg : g ≠ b) (ht : t ≠ e) : Blk w' g t cs :=
  ho g _ h (fun k => hg (Option.some.inj k)) (fun c fz k => ht (by injection k))
theorem own_others {w w' : World} {base : Nat} {t e : TypeId} {size n b : Nat} {v : Value} {xs : List Value} (h : w.ownsRow base t size v n xs) (ho : Lib.OthersKept e (some b) w w') (hg : v.ownBlock ≠ some b) (ht : t ≠ e) : w'.ownsRow base t size v n xs := by
  refine ⟨h.1, ?_⟩
  rcases h.2 with h0 | ⟨g, cap, cur, rfl, hb, hh, hr⟩
  · exact .inl h0
  · exact .inr ⟨g, cap, cur, rfl, hb, ho g _ hh (fun k => hg k) (fun c fz k => ht (by injection k)), hr⟩
end Go.Proofs.YtmnigoibbcigdaaGreat
/- The walks through PutText and GetText of wire and of its reference. -/
namespace Go.Proofs.YtmnigoibbcigdaaGreat
open Go.RowKit
set_option linter.unusedVariables false

def gtV (r : ByteArray × Int × Int) : Value := .tuple #[.string r.1, .int .i64 r.2.1, .int .i64 r.2.2]

set_option maxRecDepth 100000 in
set_option maxHeartbeats 400000 in
theorem getText_any (s : ByteArray) (at_ most : Int) (w : World) (hs : s.size ≤ 4611686018427387904) (ha : -9223372036854775808 ≤ at_ ∧ at_ ≤ 9223372036854775807) (hm : -9223372036854775808 ≤ most ∧ most ≤ 9223372036854775807) :
    Calls Tryz.prog 87 #[.string s, .int .i64 at_, .int .i64 most] w fun e w' => e = .returned (gtV (Wr.getT s at_ most)) ∧ w = w' := by
  have hc := Wr.getN_cases s.data.toList at_
  have hcall := getNum_any s at_ w (by omega) ha
  have hlen : s.data.toList.length = s.size := by simp
  rcases hc with ⟨e0, he, hcode⟩ | ⟨x, a, k, rfl, he, hn, hk, hle, _⟩
  · have Hfin : Hid (Wr.getT s at_ most = (⟨#[]⟩, 0, e0)) := by
      show Wr.getT _ _ _ = _; unfold Wr.getT; rw [he]; rcases hcode with rfl | rfl <;> rfl
    rw [he] at hcall
    have hne : (e0 != 0) = true := by rcases hcode with rfl | rfl <;> rfl
    clear hcode he hlen
    have Hcall := Lib.hid hcall
    clear hcall
    go_enter Tryz.func87, Tryz.ntmps87
    go_wp2_with fail
    refine Hcall.out.mono ?_
    rintro e w' ⟨rfl, rfl⟩
    unfold gnV
    go_wp2_with fail
    go_ret3
    exact ⟨by rw [Hfin.out]; rfl, rfl⟩
  · rw [he] at hcall
    have Hcall := Lib.hid hcall
    have hxb := (Wr.isNum_iff x).1 hn
    have Hdef : Hid (Wr.getT s (a : Int) most = if x < 0 ∨ most < x then (⟨#[]⟩, 0, 202) else if (s.size : Int) - ((a + k : Nat) : Int) < x then (⟨#[]⟩, 0, 200) else (s.extract (a + k) (((a + k : Nat) : Int) + x).toNat, ((a + k : Nat) : Int) + x, 0)) := by
      show Wr.getT _ _ _ = _; unfold Wr.getT; rw [he]; simp only [ne_eq, not_true_eq_false, if_false, Int.toNat_natCast]
    rw [hlen] at hle
    clear hcall he hn hlen
    generalize a + k = m at *
    by_cases h1 : x < 0
    · have Hfin : Hid (Wr.getT s (a : Int) most = (⟨#[]⟩, 0, 202)) := by show Wr.getT _ _ _ = _; rw [Hdef.out, if_pos (.inl h1)]
      clear Hdef
      go_enter Tryz.func87, Tryz.ntmps87
      go_wp2_with fail
      refine Hcall.out.mono ?_
      rintro e w' ⟨rfl, rfl⟩
      unfold gnV
      go_wp2_with fail
      go_ret3
      exact ⟨by rw [Hfin.out]; rfl, rfl⟩
    · by_cases h2 : most < x
      · have Hfin : Hid (Wr.getT s (a : Int) most = (⟨#[]⟩, 0, 202)) := by show Wr.getT _ _ _ = _; rw [Hdef.out, if_pos (.inr h2)]
        clear Hdef
        go_enter Tryz.func87, Tryz.ntmps87
        go_wp2_with fail
        refine Hcall.out.mono ?_
        rintro e w' ⟨rfl, rfl⟩
        unfold gnV
        go_wp2_with fail
        go_ret3
        exact ⟨by rw [Hfin.out]; rfl, rfl⟩
      · obtain ⟨n, rfl⟩ : ∃ n : Nat, x = n := ⟨x.toNat, by omega⟩
        by_cases h3 : (s.size : Int) - (m : Int) < (n : Int)
        · have Hfin : Hid (Wr.getT s (a : Int) most = (⟨#[]⟩, 0, 200)) := by show Wr.getT _ _ _ = _; rw [Hdef.out, if_neg (by omega), if_pos h3]
          clear Hdef
          go_enter Tryz.func87, Tryz.ntmps87
          go_wp2_with fail
          refine Hcall.out.mono ?_
          rintro e w' ⟨rfl, rfl⟩
          unfold gnV
          go_wp2_with fail
          go_ret3
          exact ⟨by rw [Hfin.out]; rfl, rfl⟩
        · have Hfin : Hid (Wr.getT s (a : Int) most = (s.extract m (m + n), ((m + n : Nat) : Int), 0)) := by
            show Wr.getT _ _ _ = _; rw [Hdef.out, if_neg (by omega), if_neg h3]
            rw [show ((m : Int) + (n : Int)).toNat = m + n from by omega, show ((m : Int) + (n : Int)) = ((m + n : Nat) : Int) from by omega]
          have h4 : m + n ≤ s.size := by omega
          clear Hdef
          go_enter Tryz.func87, Tryz.ntmps87
          go_wp2_with fail
          refine Hcall.out.mono ?_
          rintro e w' ⟨rfl, rfl⟩
          unfold gnV
          go_wp2_with fail
          go_ret3
          exact ⟨by rw [Hfin.out]; rfl, rfl⟩

set_option maxRecDepth 100000 in
set_option maxHeartbeats 400000 in
theorem rgetText_any (s : ByteArray) (at_ most : Int) (w : World) (hs : s.size ≤ 4611686018427387904) (ha : -9223372036854775808 ≤ at_ ∧ at_ ≤ 9223372036854775807) (hm : -9223372036854775808 ≤ most ∧ most ≤ 9223372036854775807) :
    Calls Tryz.prog 61 #[.string s, .int .i64 at_, .int .i64 most] w fun e w' => e = .returned (gtV (Wr.getT s at_ most)) ∧ w = w' := by
  have hc := Wr.getN_cases s.data.toList at_
  have hcall := rgetNum_any s at_ w (by omega) ha
  have hlen : s.data.toList.length = s.size := by simp
  rcases hc with ⟨e0, he, hcode⟩ | ⟨x, a, k, rfl, he, hn, hk, hle, _⟩
  · have Hfin : Hid (Wr.getT s at_ most = (⟨#[]⟩, 0, e0)) := by
      show Wr.getT _ _ _ = _; unfold Wr.getT; rw [he]; rcases hcode with rfl | rfl <;> rfl
    rw [he] at hcall
    have hne : (e0 != 0) = true := by rcases hcode with rfl | rfl <;> rfl
    clear hcode he hlen
    have Hcall := Lib.hid hcall
    clear hcall
    go_enter Tryz.func61, Tryz.ntmps61
    go_wp2_with fail
    refine Hcall.out.mono ?_
    rintro e w' ⟨rfl, rfl⟩
    unfold gnV
    go_wp2_with fail
    go_ret3
    exact ⟨by rw [Hfin.out]; rfl, rfl⟩
  · rw [he] at hcall
    have Hcall := Lib.hid hcall
    have hxb := (Wr.isNum_iff x).1 hn
    have Hdef : Hid (Wr.getT s (a : Int) most = if x < 0 ∨ most < x then (⟨#[]⟩, 0, 202) else if (s.size : Int) - ((a + k : Nat) : Int) < x then (⟨#[]⟩, 0, 200) else (s.extract (a + k) (((a + k : Nat) : Int) + x).toNat, ((a + k : Nat) : Int) + x, 0)) := by
      show Wr.getT _ _ _ = _; unfold Wr.getT; rw [he]; simp only [ne_eq, not_true_eq_false, if_false, Int.toNat_natCast]
    rw [hlen] at hle
    clear hcall he hn hlen
    generalize a + k = m at *
    by_cases h1 : x < 0
    · have Hfin : Hid (Wr.getT s (a : Int) most = (⟨#[]⟩, 0, 202)) := by show Wr.getT _ _ _ = _; rw [Hdef.out, if_pos (.inl h1)]
      clear Hdef
      go_enter Tryz.func61, Tryz.ntmps61
      go_wp2_with fail
      refine Hcall.out.mono ?_
      rintro e w' ⟨rfl, rfl⟩
      unfold gnV
      go_wp2_with fail
      go_ret3
      exact ⟨by rw [Hfin.out]; rfl, rfl⟩
    · by_cases h2 : most < x
      · have Hfin : Hid (Wr.getT s (a : Int) most = (⟨#[]⟩, 0, 202)) := by show Wr.getT _ _ _ = _; rw [Hdef.out, if_pos (.inr h2)]
        clear Hdef
        go_enter Tryz.func61, Tryz.ntmps61
        go_wp2_with fail
        refine Hcall.out.mono ?_
        rintro e w' ⟨rfl, rfl⟩
        unfold gnV
        go_wp2_with fail
        go_ret3
        exact ⟨by rw [Hfin.out]; rfl, rfl⟩
      · obtain ⟨n, rfl⟩ : ∃ n : Nat, x = n := ⟨x.toNat, by omega⟩
        by_cases h3 : (s.size : Int) - (m : Int) < (n : Int)
        · have Hfin : Hid (Wr.getT s (a : Int) most = (⟨#[]⟩, 0, 200)) := by show Wr.getT _ _ _ = _; rw [Hdef.out, if_neg (by omega), if_pos h3]
          clear Hdef
          go_enter Tryz.func61, Tryz.ntmps61
          go_wp2_with fail
          refine Hcall.out.mono ?_
          rintro e w' ⟨rfl, rfl⟩
          unfold gnV
          go_wp2_with fail
          go_ret3
          exact ⟨by rw [Hfin.out]; rfl, rfl⟩
        · have Hfin : Hid (Wr.getT s (a : Int) most = (s.extract m (m + n), ((m + n : Nat) : Int), 0)) := by
            show Wr.getT _ _ _ = _; rw [Hdef.out, if_neg (by omega), if_neg h3]
            rw [show ((m : Int) + (n : Int)).toNat = m + n from by omega, show ((m : Int) + (n : Int)) = ((m + n : Nat) : Int) from by omega]
          have h4 : m + n ≤ s.size := by omega
          clear Hdef
          go_enter Tryz.func61, Tryz.ntmps61
          go_wp2_with fail
          refine Hcall.out.mono ?_
          rintro e w' ⟨rfl, rfl⟩
          unfold gnV
          go_wp2_with fail
          go_ret3
          exact ⟨by rw [Hfin.out]; rfl, rfl⟩

set_option maxRecDepth 100000 in
theorem putText_any (s : ByteArray) (w : World) (hs : s.size ≤ 4611686018427387904) :
    Calls Tryz.prog 44 #[.string s] w fun e w' => e = .returned (.string (Wr.textB s)) ∧ Below w.heap.size w w' := by
  have hp : (Wr.putB (s.size : Int)).size ≤ 8 := by rw [Wr.putB_size]; exact Wr.putL_len _
  have Ht : Hid (Wr.textB s = Wr.putB (s.size : Int) ++ s) := rfl
  go_enter Tryz.func44, Tryz.ntmps44
  go_wp2_with fail
  refine (putNum_any _ _ (by omega)).mono ?_
  rintro e w1 ⟨rfl, hb⟩
  generalize Wr.putB (s.size : Int) = p at *
  go_wp2_with fail
  go_ret
  exact ⟨by rw [Ht.out]; rfl, hb⟩

set_option maxRecDepth 100000 in
theorem rtext_any (s : ByteArray) (w : World) (hs : s.size ≤ 4611686018427387904) :
    Calls Tryz.prog 49 #[.string s] w fun e w' => e = .returned (.string (Wr.textB s)) ∧ Below w.heap.size w w' := by
  have hp : (Wr.putB (s.size : Int)).size ≤ 8 := by rw [Wr.putB_size]; exact Wr.putL_len _
  have Ht : Hid (Wr.textB s = Wr.putB (s.size : Int) ++ s) := rfl
  go_enter Tryz.func49, Tryz.ntmps49
  go_wp2_with fail
  refine (rnum_any _ _ (by omega)).mono ?_
  rintro e w1 ⟨rfl, hb⟩
  generalize Wr.putB (s.size : Int) = p at *
  go_wp2_with fail
  go_ret
  exact ⟨by rw [Ht.out]; rfl, hb⟩
end Go.Proofs.YtmnigoibbcigdaaGreat
/- The walk through wire.Reader's Text. -/
namespace Go.Proofs.YtmnigoibbcigdaaGreat
open Go.RowKit
set_option linter.unusedVariables false

set_option maxRecDepth 100000 in
set_option maxHeartbeats 800000 in
theorem readerText_any (s : ByteArray) (a : Int) (bad : Bool) (most : Int) (w : World) (g : Nat) (hR : RdAt w g s (a, bad)) (hs : s.size ≤ 4611686018427387904) (ha : -9223372036854775808 ≤ a ∧ a ≤ 9223372036854775807) (hm : -9223372036854775808 ≤ most ∧ most ≤ 9223372036854775807) :
    Calls Tryz.prog 57 #[.pointer (some ⟨g, 0, none⟩), .int .i64 most] w (RdPost g s w (.string (Pt.rdText s most (a, bad)).1) (Pt.rdText s most (a, bad)).2) := by
  have H1 := fun W => Lib.hid (getText_any s a most W hs ha hm)
  have hc0 := hR.cell0
  have hc1 := hR.cell1
  have hc2 := hR.cell2
  have hf1 := hR.frozen 1
  have hf2 := hR.frozen 2
  have HR := Lib.hid hR
  clear hR hs ha hm
  have hdef : Pt.rdText s most (a, bad) = if (Wr.getT s a most).2.2 ≠ 0 ∨ bad = true then (⟨#[]⟩, (a, true)) else ((Wr.getT s a most).1, ((Wr.getT s a most).2.1, false)) := rfl
  generalize Pt.rdText s most (a, bad) = res at *
  generalize Wr.getT s a most = r at *
  obtain ⟨x, m, e0⟩ := r
  simp only at hdef hc1 hc2
  simp only [gtV] at H1
  by_cases h0 : e0 = 0
  · cases bad
    · have Hres : Hid (res = (x, (m, false))) := by rw [if_neg (by simp [h0])] at hdef; exact hdef
      have hz : (e0 != 0) = false := by simp [h0]
      clear hdef h0
      go_enter Tryz.func57, Tryz.ntmps57
      go_wp2_with fail
      go_quiet ((go_at_call 87; exact quiet_left (Hid.out (H1 _))))
      go_wp2_with fail
      go_ret
      exact ⟨by rw [Hres.out]; rfl, by rw [Hres.out]; exact (rd_go HR.out nq m).1, (rd_go HR.out nq m).2⟩
    · have Hres : Hid (res = (⟨#[]⟩, (a, true))) := by rw [if_pos (.inr rfl)] at hdef; exact hdef
      have hz : (e0 != 0) = false := by simp [h0]
      clear hdef h0
      go_enter Tryz.func57, Tryz.ntmps57
      go_wp2_with fail
      go_quiet ((go_at_call 87; exact quiet_left (Hid.out (H1 _))))
      go_wp2_with fail
      go_ret
      exact ⟨by rw [Hres.out]; rfl, by rw [Hres.out]; exact (rd_stop HR.out nq).1, (rd_stop HR.out nq).2⟩
  · have Hres : Hid (res = (⟨#[]⟩, (a, true))) := by rw [if_pos (.inl h0)] at hdef; exact hdef
    have hz : (e0 != 0) = true := by simp [h0]
    clear hdef h0
    go_enter Tryz.func57, Tryz.ntmps57
    go_wp2_with fail
    go_quiet ((go_at_call 87; exact quiet_left (Hid.out (H1 _))))
    go_wp2_with fail
    go_ret
    exact ⟨by rw [Hres.out]; rfl, by rw [Hres.out]; exact (rd_stop HR.out nq).1, (rd_stop HR.out nq).2⟩
end Go.Proofs.YtmnigoibbcigdaaGreat
/- An error's number; an int's bounds. -/
namespace Go.Proofs.YtmnigoibbcigdaaGreat
open Go.RowKit

theorem wf_int {a : Int} (h : (Lit.int .i64 a).wf = true) : -9223372036854775808 ≤ a ∧ a ≤ 9223372036854775807 := by
  simpa [Lit.wf, IntKind.min, IntKind.max, IntKind.signed, IntKind.bits] using h
theorem errno_any (x : Int) (w : World) : Calls Tryz.prog 12 #[.int .i64 x] w fun e w' => e = .returned (.int .i64 x) ∧ w = w' := by
  go_enter Tryz.func12, Tryz.ntmps12
  go_wp2
  go_ret
  exact ⟨rfl, rfl⟩
end Go.Proofs.YtmnigoibbcigdaaGreat
