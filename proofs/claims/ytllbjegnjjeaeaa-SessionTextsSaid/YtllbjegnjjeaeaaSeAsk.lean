/- The walks through session.Ask and session.Get (chapter 10). -/
import Derived.Test.YtllbjegnjjeaeaaSeApply
import Derived.Test.YtllbjegnjjeaeaaReaderNum
namespace Go.Proofs.Ytllbjegnjjeaeaa
open Go.RowKit
set_option linter.unusedVariables false

section
variable {ps : List Se.Row} {s num last : Int}
theorem ask_zero (h : s = 0) : Se.askR ps s num last = (0, -1) := by unfold Se.askR; rw [if_pos h]
theorem ask_exp (h : s ≠ 0) (hx : ¬ Se.idx ps s < ps.length) (h1 : 1 ≤ s ∧ s ≤ last) : Se.askR ps s num last = (4, -1) := by unfold Se.askR; rw [if_neg h, if_pos hx, if_pos h1]
theorem ask_none (h : s ≠ 0) (hx : ¬ Se.idx ps s < ps.length) (h1 : ¬ (1 ≤ s ∧ s ≤ last)) : Se.askR ps s num last = (5, -1) := by unfold Se.askR; rw [if_neg h, if_pos hx, if_neg h1]
theorem ask_old (h : s ≠ 0) (hx : ¬ ¬ Se.idx ps s < ps.length) (h1 : num < (Se.at_ ps s).2.1) : Se.askR ps s num last = (3, -1) := by unfold Se.askR; rw [if_neg h, if_neg hx, if_pos h1]
theorem ask_same (h : s ≠ 0) (hx : ¬ ¬ Se.idx ps s < ps.length) (h1 : ¬ num < (Se.at_ ps s).2.1) (h2 : num = (Se.at_ ps s).2.1) : Se.askR ps s num last = (0, (Se.at_ ps s).2.2.1) := by unfold Se.askR; rw [if_neg h, if_neg hx, if_neg h1, if_pos h2]
theorem ask_new (h : s ≠ 0) (hx : ¬ ¬ Se.idx ps s < ps.length) (h1 : ¬ num < (Se.at_ ps s).2.1) (h2 : num ≠ (Se.at_ ps s).2.1) : Se.askR ps s num last = (0, -1) := by unfold Se.askR; rw [if_neg h, if_neg hx, if_neg h1, if_neg h2]
end
def AskPost (w : World) (q : Int × Int) (e : Ending) (w' : World) : Prop := e = .returned (.tuple #[.int .i64 q.1, .int .i64 q.2]) ∧ Below w.heap.size w w'
set_option maxRecDepth 100000 in
set_option maxHeartbeats 1000000 in
theorem ask_any (A : Option Addr) (c : Nat) (ps : List Se.Row) (s num last : Int) (w : World) (B : Nat) (hr : Reads w B 4 A ps.length (ps.flatMap rowCells)) (hB : B ≤ w.heap.size) (hn : ps.length ≤ 140737488355328) :
    Calls Try.prog 23 #[.slice A ps.length c, .int .i64 s, .int .i64 num, .int .i64 last] w (AskPost w (Se.askR ps s num last)) := by
  have HF := Lib.hid (find_any A c ps s w B hr hB hn)
  have H0 := Lib.hid (@ask_zero ps s num last)
  have H1 := Lib.hid (@ask_exp ps s num last)
  have H2 := Lib.hid (@ask_none ps s num last)
  have H3 := Lib.hid (@ask_old ps s num last)
  have H4 := Lib.hid (@ask_same ps s num last)
  have H5 := Lib.hid (@ask_new ps s num last)
  have HR := Lib.hid hr
  clear hr
  generalize Se.askR ps s num last = res at *
  by_cases h0 : s = 0
  · have Hres := Lib.hid (H0.out h0)
    have hz : (s == 0) = true := by simp [h0]
    clear H0 H1 H2 H3 H4 H5
    go_enter Try.func23, Try.ntmps23
    go_wp2_with fail
    go_ret2
    exact ⟨by rw [Hres.out]; rfl, Below.refl _ _⟩
  · have hz : (s == 0) = false := by simp [h0]
    by_cases hx : Se.idx ps s < ps.length
    · rw [findV_lt hx] at HF
      have hnx : ¬ ¬ Se.idx ps s < ps.length := fun h => h hx
      have H3' := Lib.hid (H3.out h0 hnx)
      have H4' := Lib.hid (H4.out h0 hnx)
      have H5' := Lib.hid (H5.out h0 hnx)
      rw [Se.at_lt hx] at H3' H4' H5'
      clear H0 H1 H2 H3 H4 H5 hnx
      generalize Se.idx ps s = ix at *
      obtain ⟨b, off, rfl, hbl, hc⟩ := HR.out.2 (by omega)
      have hcx := fun (W : World) (hb : Below w.heap.size w W) => row_cells (wr := W) hx hc (fun p hp => hb.cell (p := p) (by omega)) hbl
      have Hcx := Lib.hid hcx
      clear hcx hc
      generalize ps[ix].2.1 = N at *
      generalize ps[ix].2.2.1 = R at *
      have hd0 : decide ((ix : Int) < 0) = false := decide_eq_false (by omega)
      have hi1 : (ix : Int) < (ps.length : Int) := by omega
      by_cases h1 : num < N
      · have Hres := Lib.hid (H3'.out h1)
        clear H3' H4' H5'
        go_enter Try.func23, Try.ntmps23
        go_wp2_with fail
        refine HF.out.mono ?_
        rintro e w1 ⟨rfl, hb1⟩
        obtain ⟨hc0, hc1, hc2, hc3⟩ := Hcx.out w1 hb1
        have Hb1 := Lib.hid hb1
        clear hb1
        go_wp2_with fail
        go_ret2
        exact ⟨by rw [Hres.out]; rfl, Hb1.out⟩
      · by_cases h2 : num = N
        · have Hres := Lib.hid (H4'.out h1 h2)
          have hd2 : (num == N) = true := by simp [h2]
          clear H3' H4' H5' h2
          go_enter Try.func23, Try.ntmps23
          go_wp2_with fail
          refine HF.out.mono ?_
          rintro e w1 ⟨rfl, hb1⟩
          obtain ⟨hc0, hc1, hc2, hc3⟩ := Hcx.out w1 hb1
          have Hb1 := Lib.hid hb1
          clear hb1
          go_wp2_with fail
          go_quiet (fail)
          go_wp2_with fail
          go_ret2
          exact ⟨by rw [Hres.out]; rfl, below_drewN Hb1.out _⟩
        · have Hres := Lib.hid (H5'.out h1 h2)
          have hd2 : (num == N) = false := by simp [h2]
          clear H3' H4' H5' h2
          go_enter Try.func23, Try.ntmps23
          go_wp2_with fail
          refine HF.out.mono ?_
          rintro e w1 ⟨rfl, hb1⟩
          obtain ⟨hc0, hc1, hc2, hc3⟩ := Hcx.out w1 hb1
          have Hb1 := Lib.hid hb1
          clear hb1
          go_wp2_with fail
          go_ret2
          exact ⟨by rw [Hres.out]; rfl, Hb1.out⟩
    · rw [findV_no hx] at HF
      have hd0 : decide ((-1 : Int) < 0) = true := by decide
      by_cases h1 : 1 ≤ s
      · by_cases h2 : s ≤ last
        · have Hres := Lib.hid (H1.out h0 hx ⟨h1, h2⟩)
          have hd1 : decide (1 ≤ s) = true := decide_eq_true h1
          have hd2 : decide (s ≤ last) = true := decide_eq_true h2
          clear H0 H1 H2 H3 H4 H5 hx
          go_enter Try.func23, Try.ntmps23
          go_wp2_with fail
          refine HF.out.mono ?_
          rintro e w1 ⟨rfl, hb1⟩
          have Hb1 := Lib.hid hb1
          clear hb1
          go_wp2_with fail
          go_ret2
          exact ⟨by rw [Hres.out]; rfl, Hb1.out⟩
        · have Hres := Lib.hid (H2.out h0 hx (fun h => h2 h.2))
          have hd1 : decide (1 ≤ s) = true := decide_eq_true h1
          have hd2 : decide (s ≤ last) = false := decide_eq_false h2
          clear H0 H1 H2 H3 H4 H5 hx
          go_enter Try.func23, Try.ntmps23
          go_wp2_with fail
          refine HF.out.mono ?_
          rintro e w1 ⟨rfl, hb1⟩
          have Hb1 := Lib.hid hb1
          clear hb1
          go_wp2_with fail
          go_ret2
          exact ⟨by rw [Hres.out]; rfl, Hb1.out⟩
      · have Hres := Lib.hid (H2.out h0 hx (fun h => h1 h.1))
        have hd1 : decide (1 ≤ s) = false := decide_eq_false h1
        clear H0 H1 H2 H3 H4 H5 hx
        go_enter Try.func23, Try.ntmps23
        go_wp2_with fail
        refine HF.out.mono ?_
        rintro e w1 ⟨rfl, hb1⟩
        have Hb1 := Lib.hid hb1
        clear hb1
        go_wp2_with fail
        go_ret2
        exact ⟨by rw [Hres.out]; rfl, Hb1.out⟩

set_option maxRecDepth 100000 in
theorem over_any (s : ByteArray) (a : Int) (bad : Bool) (w : World) (g : Nat) (hR : RdAt w g s (a, bad)) :
    Calls Try.prog 41 #[.pointer (some ⟨g, 0, none⟩)] w fun e w' => e = .returned (.bool (!bad && a == (s.size : Int))) ∧ Drawn w w' := by
  have hc0 := hR.cell0
  have hc1 := hR.cell1
  have hc2 := hR.cell2
  simp only at hc1 hc2
  clear hR
  cases bad
  · go_enter Try.func41, Try.ntmps41
    go_wp2_with fail
    go_quiet (fail)
    go_wp2_with fail
    go_ret
    exact ⟨ret_bool (by simp), nq, rfl⟩
  · go_enter Try.func41, Try.ntmps41
    go_wp2_with fail
    go_quiet (fail)
    go_wp2_with fail
    go_ret
    exact ⟨ret_bool (by simp), nq, rfl⟩
/-- num: the reader's next number; it captures the reader's variable, whose box is p -/
theorem getnum1_any (s : ByteArray) (st : Pt.St) (w : World) (g p : Nat) (hp : w.cell? ⟨p, 0, none⟩ = some (.pointer (some ⟨g, 0, none⟩))) (hR : RdAt w g s st) (hs : s.size ≤ 9223372036854775000) (ha : -9223372036854775808 ≤ st.1 ∧ st.1 ≤ 9223372036854775807) :
    Calls Try.prog 39 #[.pointer (some ⟨p, 0, none⟩)] w (RdPost g s w (.int .i64 (Se.rdN s st).1) (Se.rd1 s st)) := by
  obtain ⟨a, bad⟩ := st
  have H := Lib.hid (readerNum_any s a bad (-9007199254740992) 9007199254740992 w g hR hs ha)
  have hd : Se.rd1 s (a, bad) = (Se.rdN s (a, bad)).2 := rfl
  rw [hd]
  clear hR ha hd
  unfold Se.rdN
  generalize Pt.rdNum s (-9007199254740992) 9007199254740992 (a, bad) = q at *
  go_enter Try.func39, Try.ntmps39
  go_wp2_with fail
  refine H.out.mono ?_
  rintro e w1 ⟨rfl, h1, h2⟩
  have H1 := Lib.hid h1
  have H2 := Lib.hid h2
  clear h1 h2
  go_wp2_with fail
  go_ret
  exact ⟨rfl, H1.out, H2.out⟩
end Go.Proofs.Ytllbjegnjjeaeaa
