/- The walk through ColumnForms. -/
import Derived.Test.YthpnhodpfhagaaaClLaws
namespace Go.Proofs.Ythpnhodpfhagaaa
open Go.RowKit
set_option linter.unusedVariables false

def BtOk (cs : Array Value) (m j : Nat) : Prop := (∀ i, i < m → ∃ x, cs[i]? = some (.int .u8 x)) ∧ (∀ i, i < j → cs[i]? = some (.int .u8 113))
theorem BtOk.set_ {cs : Array Value} {m j : Nat} (h : BtOk cs m j) (hj : j < m) : BtOk (cs.setIfInBounds j (.int .u8 113)) m (j + 1) := by
  refine ⟨fun i hi => ?_, fun i hi => ?_⟩
  · by_cases e : i = j
    · subst e; obtain ⟨x, hx⟩ := h.1 i hi; exact ⟨113, set_same hx⟩
    · obtain ⟨x, hx⟩ := h.1 i hi; exact ⟨x, set_other hx e⟩
  · by_cases e : i = j
    · subst e; obtain ⟨x, hx⟩ := h.1 i hj; exact set_same hx
    · exact set_other (h.2 i (by omega)) e
def Cl.qs (m : Nat) : ByteArray := ⟨(List.replicate m (113 : UInt8)).toArray⟩
theorem qs_size (m : Nat) : (Cl.qs m).size = m := by unfold Cl.qs; rw [← Wr.len_list]; simp
theorem made_ok (m : Nat) : BtOk (madeCells (Value.int .u8 0).cells (m * 1)) m 0 := by
  refine ⟨fun i hi => ⟨0, ?_⟩, fun i hi => absurd hi (by omega)⟩
  simp [madeCells, Value.cells, Nat.mod_one, hi]
theorem conv_q (W : World) (g m : Nat) (cs : Array Value) (hB : Blk W g 5 cs) (h : BtOk cs m m) :
    (convert 50 9 (.slice (some ⟨g, 0, none⟩) m m)).run Try.prog W = .ok (.string (Cl.qs m)) W := by
  have := run_convert_bytes_back (P := Try.prog) W 50 9 5 ⟨g, 0, none⟩ m (List.replicate m (113 : UInt8)) Try.underlying50 Try.underlying5 Try.underlying9 (fun j hj => by
    have hj' : j < m := by simpa using hj
    rw [add_mk, Nat.zero_add, hB.cell, h.2 j hj']
    simp)
  rw [List.length_replicate] at this
  exact this
theorem ints_3x (x : Int) (h : Pt.smallB x = false) : Cl.intsB [3, x] = ⟨#[]⟩ := intsB_no (k := 1) (by simp) h
theorem ints_3x' (x : Int) (h : Pt.smallB x = true) : ¬ (Cl.intsB [3, x]).size = 0 := by
  have h3 : Pt.smallB 3 = true := by decide
  rw [← Wr.len_list, intsB_list (by simp [h, h3])]
  obtain ⟨l, c, hv, _⟩ := Wr.put_init (3 - 0) ((Wr.isNum_iff _).2 (by omega))
  rw [Cl.intsD, hv]; simp
theorem texts_aq (q : ByteArray) (h : ¬ q.size ≤ 12) : Cl.textsB [⟨#[97]⟩, q] = ⟨#[]⟩ := textsB_no (k := 1) (by simp) h
theorem texts_aq' (q : ByteArray) (h : q.size ≤ 12) : ¬ (Cl.textsB [⟨#[97]⟩, q]).size = 0 := by
  have hs : Cl.shortB [⟨#[97]⟩, q] = true := by
    unfold Cl.shortB; rw [List.all_eq_true]; intro x hx
    rcases List.mem_cons.1 hx with rfl | hx
    · decide
    · simp at hx; subst hx; exact decide_eq_true h
  rw [texts_size hs]
  have hn := (Cl.tx_len [] [⟨#[97]⟩, q]).1
  obtain ⟨l, c, hv, _⟩ := Wr.put_init ((Cl.txGo [] [⟨#[97]⟩, q]).1.length : Int) ((Wr.isNum_iff _).2 (by simp at hn; omega))
  unfold Cl.textsL
  rw [hv]; simp
theorem texts_nil : Cl.textsB [] = ⟨#[0]⟩ := by
  apply Wr.ext_list
  rw [textsB_list (by decide)]
  decide +kernel
theorem ints_nil : Cl.intsB [] = ⟨#[]⟩ := by
  apply Wr.ext_list
  rw [intsB_list (by decide)]; rfl

set_option maxRecDepth 100000 in
set_option maxHeartbeats 2000000 in
theorem columnForms_walk (a0 a1 : Int) (w0 : (Lit.int .i64 a0).wf = true) (w1 : (Lit.int .i64 a1).wf = true) (w : World) :
    Calls Try.prog 8 #[.int .i64 a0, .int .i64 a1] w fun e w' => e = .returned (.bool true) ∧ Below w.heap.size w w' := by
  have hwf := wf_int w0
  clear w0 w1
  obtain ⟨iB, hiB, hzB0, hzB1, hzB2⟩ := info_parts info_byte
  obtain ⟨m, hm, hand⟩ := and_low a1 31 (by omega)
  rw [show ((31 : Nat) : Int) = 31 from rfl] at hand
  have hmk := fun W : World => run_make_rowN (P := Try.prog) 50 5 iB _ Try.underlying50 hiB hzB0 .i64 .i64 m m (Nat.le_refl _) (by rw [hzB2]; omega) (by omega) W
  rw [hzB1] at hmk
  have hmok := made_ok m
  generalize madeCells (Value.int .u8 0).cells (m * 1) = cs0 at *
  have Hmok := Lib.hid hmok
  clear hmok
  have HI := fun W g hg => Lib.hid (ints_lit [3, a0] W g hg (by simp; omega) (by simp))
  have HT := fun W g hg => Lib.hid (texts_lit [⟨#[97]⟩, Cl.qs m] W g hg (by simp))
  have HN1 := fun W => Lib.hid (ints_any none 0 [] W 0 Reads.none_ (Nat.zero_le _) (by simp) (by simp))
  have HN2 := fun W => Lib.hid (texts_any none 0 [] W 0 Reads.none_ (Nat.zero_le _) (by simp))
  rw [ints_nil] at HN1
  rw [texts_nil] at HN2
  simp only [List.map_cons, List.map_nil, List.length_cons, List.length_nil, Nat.zero_add, Nat.reduceAdd] at HI HT HN1 HN2
  have key : (Pt.smallB a0 = true ∧ -2147483648 ≤ a0 ∧ a0 ≤ 2147483647) ∨ (Pt.smallB a0 = false ∧ a0 < -2147483648) ∨ (Pt.smallB a0 = false ∧ 2147483647 < a0) := by
    by_cases h : -2147483648 ≤ a0 ∧ a0 ≤ 2147483647
    · exact .inl ⟨(Pt.smallB_iff a0).2 h, h⟩
    · by_cases h1 : a0 < -2147483648
      · exact .inr (.inl ⟨(Pt.smallB_false a0).2 h, h1⟩)
      · exact .inr (.inr ⟨(Pt.smallB_false a0).2 h, by omega⟩)
  obtain ⟨sm, hsm⟩ : ∃ sm : Bool, Pt.smallB a0 = sm := ⟨_, rfl⟩
  have hIB : (sm = true ∧ (Cl.intsB [3, a0]).toList.isEmpty = false) ∨ (sm = false ∧ Cl.intsB [3, a0] = ⟨#[]⟩) := by
    cases sm
    · exact .inr ⟨rfl, ints_3x a0 hsm⟩
    · exact .inl ⟨rfl, nonempty_of (ints_3x' a0 hsm)⟩
  have hTB : (m ≤ 12 ∧ (Cl.textsB [⟨#[97]⟩, Cl.qs m]).toList.isEmpty = false) ∨ (12 < m ∧ Cl.textsB [⟨#[97]⟩, Cl.qs m] = ⟨#[]⟩) := by
    by_cases h : m ≤ 12
    · exact .inl ⟨h, nonempty_of (texts_aq' _ (by rw [qs_size]; exact h))⟩
    · exact .inr ⟨by omega, texts_aq _ (by rw [qs_size]; exact h)⟩
  rw [hsm] at key
  clear hsm
  generalize Cl.intsB [3, a0] = IB at *
  generalize Cl.textsB [⟨#[97]⟩, Cl.qs m] = TB at *
  have hcv := fun W cs hB h => conv_q W (g := w.heap.size) (m := m) cs hB h
  clear hcv
  rcases key with ⟨rfl, k1, k2⟩ | ⟨rfl, k1⟩ | ⟨rfl, k1⟩
  all_goals
    rcases hIB with ⟨hx, hIe⟩ | ⟨hx, hIe⟩
    all_goals first
      | (cases hx; done)
      | (clear hx
         (try subst hIe)
         (try have d1 : decide (a0 ≤ 2147483647) = true := decide_eq_true (by omega))
         (try have d2 : decide (a0 ≤ 2147483647) = false := decide_eq_false (by omega))
         go_enter Try.func8, Try.ntmps8
         go_wp2_with fail
         refine (awake12 _).mono ?_
         rintro e w1 ⟨rfl, hb1⟩
         have Hb1 := Lib.hid hb1
         have hs1 := hb1.size
         clear hb1
         go_wp2_with fail
         have hB0 := Blk.new w1 5 cs0
         have hb2 : Below w.heap.size w (w1.alloc (.cells cs0 5)) := Hb1.out.alloc hs1 _
         have HB0 := Lib.hid hB0
         have Hb2 := Lib.hid hb2
         have Hand := Lib.hid hand
         clear hB0 hb2 hmk hand
         generalize w1.alloc (.cells cs0 5) = w2 at *
         generalize w1.heap.size = g at *
         go_loopw [7] (fun i wr => ∃ (j : Nat) (cs : Array Value), j ≤ m ∧ i = .int .i64 (j : Int) ∧ Hid (Blk wr g 5 cs) ∧ Hid (BtOk cs m j) ∧ Hid (Only (fun k => k = g) w2 wr)) (fun i _ => m - (intOf i).toNat)
         case atStart => exact ⟨0, cs0, Nat.zero_le _, rfl, HB0, Hmok, Lib.hid (Only.refl _ _)⟩
         case round =>
           obtain ⟨j, cs, hj, rfl, hb, hok, ho⟩ := hrel
           by_cases hlt : j < m
           · obtain ⟨x, hxk⟩ := hok.out.1 j hlt
             have hc : wr.cell? ⟨g, j, none⟩ = some (.int .u8 x) := (hb.out.cell _).trans hxk
             have hf : wr.frozen? ⟨g, j, none⟩ = false := hb.out.frozen _
             clear hxk
             go_wp2_with fail
             go_roundw
             case rel => exact ⟨j + 1, _, by omega, by go_num, Lib.hid (hb.out.set_ _ _), Lib.hid (hok.out.set_ hlt), Lib.hid (ho.out.setCell (fun _ => rfl) _)⟩
             case measure => simp [intOf]; omega
           · obtain rfl : j = m := by omega
             have Hb3 : Hid (Below w.heap.size w wr) := Hb2.out.trans (ho.out.below (fun k hk e => by omega) Hb2.out.size)
             have hs3 := Hb3.out.size
             clear ho
             rcases hTB with ⟨h12, hTe⟩ | ⟨h12, hTe⟩
             all_goals
               (try subst hTe)
               (try have d3 : decide (12 < (j : Int)) = false := decide_eq_false (by omega))
               (try have d4 : decide (12 < (j : Int)) = true := decide_eq_true (by omega))
               go_wp2_with fail
               refine (HI wr _ rfl).out.mono ?_
               rintro e w4 ⟨rfl, hb4⟩
               have Hb4 : Hid (Below wr.heap.size wr w4) := ((Below.refl wr.heap.size wr).alloc (Nat.le_refl _) _).trans (hb4.mono (by omega))
               have hcv := conv_q w4 g j cs (Blk.below hb.out Hb4.out hb.out.lt) hok.out
               have hs4 := Hb4.out.size
               clear hb4
               go_wp2_with fail
               refine (HT w4 _ rfl).out.mono ?_
               rintro e w5 ⟨rfl, hb5⟩
               have Hb5 : Hid (Below wr.heap.size wr w5) := Hb4.out.trans ((((Below.refl w4.heap.size w4).alloc (Nat.le_refl _) _).trans (hb5.mono (by omega))).mono hs4)
               clear hb5 hcv
               go_wp2_with fail
               refine (HN1 _).out.mono ?_
               rintro e w6 ⟨rfl, hb6⟩
               have Hb6 : Hid (Below wr.heap.size wr w6) := Hb5.out.trans (hb6.mono Hb5.out.size)
               clear hb6
               go_wp2_with fail
               refine (HN2 _).out.mono ?_
               rintro e w7 ⟨rfl, hb7⟩
               have Hb7 : Hid (Below wr.heap.size wr w7) := Hb6.out.trans (hb7.mono Hb6.out.size)
               clear hb7
               go_wp2_with fail
               go_ret
               exact ⟨rfl, Hb3.out.trans (Hb7.out.mono hs3)⟩)
end Go.Proofs.Ythpnhodpfhagaaa
