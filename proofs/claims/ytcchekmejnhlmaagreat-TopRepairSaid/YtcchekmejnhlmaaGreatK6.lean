/- Joined texts. -/
import Derived.Test.YtcchekmejnhlmaaGreatK1
import Derived.Test.YtcchekmejnhlmaaGreatK4
import Derived.Test.YtcchekmejnhlmaaGreatK5
import Derived.Test.YtcchekmejnhlmaaGreatKeys
import Derived.Test.YtcchekmejnhlmaaGreatProg
import Derived.Deep.RegionHeld3
import Derived.Deep.MidRow
import Derived.Laws.ResultCell
import Derived.Maps.OwnOps
import Derived.KernelRfl
namespace Go.Proofs.YtcchekmejnhlmaaGreat
open Go.RowKit
set_option linter.unusedVariables false
def Tp.Msg.fld (m : Tp.Msg) : Nat → Int
  | 0 => m.view | 1 => m.normal | 2 => m.at_ | 3 => m.commit | 4 => m.round | 5 => m.client | 6 => m.session | 7 => m.number | 8 => m.code | 9 => m.agg | _ => m.until_
def Tp.K.clientFrom : Tp.K → Bool
  | .req => true | _ => false
def Tp.K.clientTo : Tp.K → Bool
  | .rep => true | _ => false
def Tp.whoOk (c : Bool) (x : Int) : Prop := if c then 100 ≤ x ∧ x < 108 else 0 ≤ x ∧ x < 7
structure Tp.Ok (q : Tp.K) (m : Tp.Msg) : Prop where
  kind : m.kind = q.num
  frm : Tp.whoOk q.clientFrom m.frm
  to : Tp.whoOk q.clientTo m.to
  has : ∀ k : Nat, k < 11 → (k : Int) ∉ q.flds → m.fld k = 0
  low : ∀ k : Nat, k < 11 → q.low k ≤ m.fld k
  high : ∀ k : Nat, k < 11 → m.fld k ≤ Tp.high k
theorem Tp.K.fld_at (q : Tp.K) (k : Nat) (hk : k < q.flds.length) : ∃ j : Nat, q.flds[k] = (j : Int) ∧ j < 15 := by
  cases q
  · rcases (by simp [Tp.K.flds] at hk; omega : k = 0 ∨ k = 1 ∨ k = 2) with rfl | rfl | rfl
    · exact ⟨6, rfl, by omega⟩
    · exact ⟨7, rfl, by omega⟩
    · exact ⟨12, rfl, by omega⟩
  · rcases (by simp [Tp.K.flds] at hk; omega : k = 0 ∨ k = 1 ∨ k = 2 ∨ k = 3) with rfl | rfl | rfl | rfl
    · exact ⟨6, rfl, by omega⟩
    · exact ⟨7, rfl, by omega⟩
    · exact ⟨8, rfl, by omega⟩
    · exact ⟨2, rfl, by omega⟩
  · rcases (by simp [Tp.K.flds] at hk; omega : k = 0 ∨ k = 1 ∨ k = 2 ∨ k = 3 ∨ k = 4 ∨ k = 5 ∨ k = 6) with rfl | rfl | rfl | rfl | rfl | rfl | rfl
    · exact ⟨0, rfl, by omega⟩
    · exact ⟨2, rfl, by omega⟩
    · exact ⟨3, rfl, by omega⟩
    · exact ⟨5, rfl, by omega⟩
    · exact ⟨6, rfl, by omega⟩
    · exact ⟨7, rfl, by omega⟩
    · exact ⟨12, rfl, by omega⟩
  · rcases (by simp [Tp.K.flds] at hk; omega : k = 0 ∨ k = 1) with rfl | rfl
    · exact ⟨0, rfl, by omega⟩
    · exact ⟨2, rfl, by omega⟩
theorem reads1_cell {w : World} {B b n : Nat} {xs : List Value} {k : Nat} {u : Value} (h : Reads w B 1 (some ⟨b, 0, none⟩) n xs) (hk : k < n) (hu : xs[k]? = some u) : w.cell? ⟨b, k, none⟩ = some u := by
  obtain ⟨b', off, e, hb, hc⟩ := h.2 (by omega)
  injection e with e
  injection e with e1 e2 e3
  subst e1 e2
  have := hc k u hu
  rwa [Nat.zero_add] at this
/-- the array 'has' behind the first fields of a kind -/
def Tp.hasL (fs : List Int) : Array Value := ((List.range 15).map fun j : Nat => Value.bool (decide ((j : Int) ∈ fs))).toArray
theorem Tp.hasL_nil : Tp.hasL [] = #[.bool false, .bool false, .bool false, .bool false, .bool false, .bool false, .bool false, .bool false, .bool false, .bool false, .bool false, .bool false, .bool false, .bool false, .bool false] := by rfl
theorem Tp.hasL_at (fs : List Int) (j : Nat) (hj : j < 15) : (Tp.hasL fs)[j]? = some (.bool (decide ((j : Int) ∈ fs))) := by simp [Tp.hasL, hj]
theorem Tp.hasL_put (fs : List Int) (j : Nat) (hj : j < 15) : (Tp.hasL fs).setIfInBounds j (.bool true) = Tp.hasL (fs ++ [(j : Int)]) := by
  apply Array.ext_getElem?
  intro i
  rw [Array.getElem?_setIfInBounds]
  by_cases h : j = i
  · subst h
    rw [if_pos rfl, Tp.hasL_at _ _ hj, if_pos (by simpa [Tp.hasL] using hj)]
    simp
  · rw [if_neg h]
    by_cases hi : i < 15
    · rw [Tp.hasL_at _ _ hi, Tp.hasL_at _ _ hi]
      have : ((i : Int) ∈ fs ++ [(j : Int)]) ↔ (i : Int) ∈ fs := by simp; omega
      simp [this]
    · have l : ∀ fs, (Tp.hasL fs).size = 15 := fun _ => by simp [Tp.hasL]
      rw [Array.getElem?_eq_none (by rw [l]; omega), Array.getElem?_eq_none (by rw [l]; omega)]
section
variable {w : World}
end
end Go.Proofs.YtcchekmejnhlmaaGreat
namespace Go.Proofs.YtcchekmejnhlmaaGreat
open Go.RowKit
set_option linter.unusedVariables false
def Mg.flds (k : Nat) : List Int := [[6, 7, 12], [6, 7, 8, 2], [7, 9, 11, 2, 10], [7, 8, 2, 4], [0, 2, 3, 5, 6, 7, 12], [0, 2], [0, 2, 3], [0], [0, 1, 3, 13], [0, 3, 13], [0, 2], [0, 3, 13], [0, 4], [0, 4], [2], [2], [2, 14]].getD k []
def Mg.low (k j : Nat) : Int := if k = 1 ∧ j = 2 then -1 else if (k = 2 ∨ k = 3) ∧ (j = 2 ∨ j = 10) then -2147483648 else 0
theorem Mg.fld_all : ∀ k, k < 17 → (Mg.flds k).all (fun x => decide (0 ≤ x) && decide (x < 15)) = true := by decide
theorem Mg.fld_len : ∀ k, k < 17 → (Mg.flds k).length ≤ 7 := by decide
theorem Mg.fld_at {k : Nat} (hk : k < 17) (i : Nat) (hi : i < (Mg.flds k).length) : ∃ j : Nat, (Mg.flds k)[i] = (j : Int) ∧ j < 15 := by
  have h := List.all_eq_true.1 (Mg.fld_all k hk) _ (List.getElem_mem hi)
  rw [Bool.and_eq_true, decide_eq_true_eq, decide_eq_true_eq] at h
  exact ⟨((Mg.flds k)[i]).toNat, by omega, by omega⟩
section
variable {w : World}
set_option maxRecDepth 100000 in
theorem limits_rd (x : Int) (hx : ((x == 1) = false ∧ (x == 2) = true) ∨ ((x == 1) = false ∧ (x == 2) = false ∧ (x == 3) = true)) (k : Int) (hk : (k == 8) = false ∧ (k == 9) = false ∧ ((k == 2) = true ∨ ((k == 2) = false ∧ (k == 10) = true))) : Calls Tryz.prog 84 #[.int .i64 x, .int .i64 k] w fun e w' => e = .returned (.tuple #[.int .i64 (-2147483648), .int .i64 2147483647]) ∧ w = w' := by
  obtain ⟨h8, h9, hk⟩ := hk
  rcases hx with ⟨hx1, hx⟩ | ⟨hx1, hx, hx'⟩ <;> rcases hk with hk | ⟨hk, hk'⟩
  all_goals
    go_enter Tryz.func84, Tryz.ntmps84
    go_wp2_with fail
    go_ret2
    exact ⟨rfl, rfl⟩
set_option maxRecDepth 100000 in
theorem limits_rd' (x : Int) (hx : (x == 1) = false) (k : Int) (hk : (k == 8) = false ∧ (k == 9) = false ∧ (k == 2) = false ∧ (k == 10) = false) : Calls Tryz.prog 84 #[.int .i64 x, .int .i64 k] w fun e w' => e = .returned (.tuple #[.int .i64 0, .int .i64 2147483647]) ∧ w = w' := by
  obtain ⟨h8, h9, h2, h10⟩ := hk
  go_enter Tryz.func84, Tryz.ntmps84
  go_wp2_with fail
  go_ret2
  exact ⟨rfl, rfl⟩
theorem limits_gen (k j : Nat) (hk : k < 17) (hj : j < 11) : Calls Tryz.prog 84 #[.int .i64 (k : Int), .int .i64 (j : Int)] w fun e w' => e = .returned (.tuple #[.int .i64 (Mg.low k j), .int .i64 (Tp.high j)]) ∧ w = w' := by
  by_cases h8 : j = 8
  · subst h8
    have e : Mg.low k 8 = 0 := by unfold Mg.low; rw [if_neg (by omega), if_neg (by omega)]
    rw [e]
    exact limits_8 _
  by_cases h9 : j = 9
  · subst h9
    have e : Mg.low k 9 = 0 := by unfold Mg.low; rw [if_neg (by omega), if_neg (by omega)]
    rw [e]
    exact limits_9 _
  rw [Tp.high_at j h8 h9]
  by_cases k1 : k = 1
  · subst k1
    by_cases h2 : j = 2
    · subst h2
      exact limits_rep
    · have e : Mg.low 1 j = 0 := by unfold Mg.low; rw [if_neg (by omega), if_neg (by omega)]
      rw [e]
      refine limits_rep' _ (nat_beq_no h8) (nat_beq_no h9) ?_
      by_cases h10 : j = 10
      · exact .inl ⟨nat_beq_no h2, nat_beq_yes h10⟩
      · exact .inr ⟨nat_beq_no h2, nat_beq_no h10⟩
  by_cases k23 : k = 2 ∨ k = 3
  · have hx : (((k : Int) == 1) = false ∧ ((k : Int) == 2) = true) ∨ (((k : Int) == 1) = false ∧ ((k : Int) == 2) = false ∧ ((k : Int) == 3) = true) := by
      rcases k23 with rfl | rfl
      · exact .inl ⟨rfl, rfl⟩
      · exact .inr ⟨rfl, rfl, rfl⟩
    by_cases h2 : j = 2
    · have e : Mg.low k j = -2147483648 := by unfold Mg.low; rw [if_neg (by omega), if_pos (by omega)]
      rw [e]
      exact limits_rd _ hx _ ⟨nat_beq_no h8, nat_beq_no h9, .inl (nat_beq_yes h2)⟩
    by_cases h10 : j = 10
    · have e : Mg.low k j = -2147483648 := by unfold Mg.low; rw [if_neg (by omega), if_pos (by omega)]
      rw [e]
      exact limits_rd _ hx _ ⟨nat_beq_no h8, nat_beq_no h9, .inr ⟨nat_beq_no h2, nat_beq_yes h10⟩⟩
    · have e : Mg.low k j = 0 := by unfold Mg.low; rw [if_neg (by omega), if_neg (by omega)]
      rw [e]
      exact limits_rd' _ (nat_beq_no k1) _ ⟨nat_beq_no h8, nat_beq_no h9, nat_beq_no h2, nat_beq_no h10⟩
  · have e : Mg.low k j = 0 := by unfold Mg.low; rw [if_neg (by omega), if_neg (by omega)]
    rw [e]
    refine limits_at _ _ (nat_beq_no h8) (nat_beq_no h9) (nat_beq_no k1) (nat_beq_no (m := 2) (fun q => k23 (.inl q))) (nat_beq_no (m := 3) (fun q => k23 (.inr q))) ?_
    by_cases h2 : j = 2
    · exact .inl (nat_beq_yes h2)
    by_cases h10 : j = 10
    · exact .inr (.inl ⟨nat_beq_no h2, nat_beq_yes h10⟩)
    · exact .inr (.inr ⟨nat_beq_no h2, nat_beq_no h10⟩)
def Mg.cliFrom (k : Nat) : Bool := decide (k = 0) || decide (k = 2)
def Mg.cliTo (k : Nat) : Bool := decide (k = 1) || decide (k = 3)
set_option maxRecDepth 100000 in
set_option maxHeartbeats 2000000 in
theorem who_gen (k : Nat) (fr to : Int) (g : Nat) (c0 : w.cell? ⟨g, 0, none⟩ = some (.int .i64 (k : Int))) (c1 : w.cell? ⟨g, 1, none⟩ = some (.int .i64 fr)) (c2 : w.cell? ⟨g, 2, none⟩ = some (.int .i64 to)) (hf : Tp.whoOk (Mg.cliFrom k) fr) (ht : Tp.whoOk (Mg.cliTo k) to) :
    Calls Tryz.prog 82 #[.pointer (some ⟨g, 0, none⟩)] w fun e w' => e = .returned (.bool true) ∧ w = w' := by
  have hc : (k = 0 ∨ k = 2 ∨ k = 1 ∨ k = 3) ∨ (((k : Int) == 0) = false ∧ ((k : Int) == 2) = false ∧ ((k : Int) == 1) = false ∧ ((k : Int) == 3) = false) := by
    by_cases q : k = 0 ∨ k = 2 ∨ k = 1 ∨ k = 3
    · exact .inl q
    · exact .inr ⟨nat_beq_no (m := 0) (by omega), nat_beq_no (m := 2) (by omega), nat_beq_no (m := 1) (by omega), nat_beq_no (m := 3) (by omega)⟩
  rcases hc with (rfl | rfl | rfl | rfl) | ⟨q0, q2, q1, q3⟩
  case inr =>
    have e1 : Mg.cliFrom k = false := by unfold Mg.cliFrom; simp at q0 q2 ⊢; omega
    have e2 : Mg.cliTo k = false := by unfold Mg.cliTo; simp at q1 q3 ⊢; omega
    rw [e1] at hf
    rw [e2] at ht
    simp only [Tp.whoOk, Bool.false_eq_true, if_false] at hf ht
    go_enter Tryz.func82, Tryz.ntmps82
    go_wp2_with fail
    refine (msgNode_yes _ hf.1 hf.2).mono ?_
    rintro e w1 ⟨rfl, rfl⟩
    go_wp2_with fail
    refine (msgNode_yes _ ht.1 ht.2).mono ?_
    rintro e w1 ⟨rfl, rfl⟩
    go_wp2_with fail
    go_ret
    exact ⟨rfl, rfl⟩
  all_goals
    simp [Tp.whoOk, Mg.cliFrom, Mg.cliTo] at hf ht
    go_enter Tryz.func82, Tryz.ntmps82
    go_wp2_with fail
    first
      | refine (msgClient_yes _ hf.1 hf.2).mono ?_
      | refine (msgNode_yes _ hf.1 hf.2).mono ?_
    rintro e w1 ⟨rfl, rfl⟩
    go_wp2_with fail
    first
      | refine (msgClient_yes _ ht.1 ht.2).mono ?_
      | refine (msgNode_yes _ ht.1 ht.2).mono ?_
    rintro e w1 ⟨rfl, rfl⟩
    go_wp2_with fail
    go_ret
    exact ⟨rfl, rfl⟩
end
end Go.Proofs.YtcchekmejnhlmaaGreat
namespace Go.Proofs.YtcchekmejnhlmaaGreat
open Go.RowKit
set_option linter.unusedVariables false
/-- a message as it lies in a value: its numbers, its series, its batch, its log, its text -/
def Mg.cells (m : Tp.Msg) (ser : ByteArray) (A : Option Addr) (n cap : Nat) (base : Int) (snap : ByteArray) (A' : Option Addr) (n' cap' : Nat) (txt : ByteArray) : List Value :=
  [.int .i64 m.kind, .int .i64 m.frm, .int .i64 m.to, .int .i64 m.view, .int .i64 m.normal, .int .i64 m.at_, .int .i64 m.commit, .int .i64 m.round, .int .i64 m.client, .int .i64 m.session, .int .i64 m.number, .int .i64 m.code, .int .i64 m.agg, .int .i64 m.until_, .string ser, .slice A n cap, .int .i64 base, .string snap, .slice A' n' cap', .string txt]
structure Mg.Ok (k : Nat) (m : Tp.Msg) (ser : ByteArray) (nb : Nat) (base : Int) (ne : Nat) (txt : ByteArray) : Prop where
  lt : k < 17
  kind : m.kind = (k : Int)
  frm : Tp.whoOk (Mg.cliFrom k) m.frm
  to : Tp.whoOk (Mg.cliTo k) m.to
  has : ∀ j : Nat, j < 11 → (j : Int) ∉ Mg.flds k → m.fld j = 0
  low : ∀ j : Nat, j < 11 → Mg.low k j ≤ m.fld j
  high : ∀ j : Nat, j < 11 → m.fld j ≤ Tp.high j
  ser1 : (11 : Int) ∈ Mg.flds k → Pt.nameB ser = true
  ser0 : (11 : Int) ∉ Mg.flds k → ser = ⟨#[]⟩
  bat0 : (12 : Int) ∉ Mg.flds k → nb = 0
  log0 : (13 : Int) ∉ Mg.flds k → base = 0 ∧ ne = 0
  txt1 : txt.size ≤ 65536
  txt0 : (14 : Int) ∉ Mg.flds k → txt = ⟨#[]⟩
section
variable {w : World}
set_option maxRecDepth 100000 in
set_option maxHeartbeats 4000000 in
theorem msgMay_gen (k : Nat) (m : Tp.Msg) (ser : ByteArray) (A : Option Addr) (cap : Nat) (ps : List Pt.Point) (base : Int) (snap : ByteArray) (A' : Option Addr) (cap' : Nat) (es : List Ent) (txt : ByteArray) (h : Mg.Ok k m ser ps.length base es.length txt)
    (hF : ∀ W : World, Calls Tryz.prog 81 #[.int .i64 (k : Int)] W (FieldsPost W (Mg.flds k)))
    (hr : Reads w w.heap.size 3 A ps.length (ps.flatMap pointCells)) (hp : Pt.batchB ps = true) (hp8 : ps.length ≤ 8) (hwf : ∀ p ∈ ps, Pt.wf p) (hl : LogOk w A' es) (hlb : Sv.logB base snap es = true) (hsn : snap.size ≤ maxLen) (hes : es.length ≤ 4096) :
    Calls Tryz.prog 46 #[.agg (Mg.cells m ser A ps.length cap base snap A' es.length cap' txt).toArray] w fun e w' => e = .returned (.bool true) ∧ Below w.heap.size w w' := by
  have hB := Blk.new w 39 (Mg.cells m ser A ps.length cap base snap A' es.length cap' txt).toArray
  have hb1 : Below w.heap.size w (w.alloc (.cells (Mg.cells m ser A ps.length cap base snap A' es.length cap' txt).toArray 39)) := (Below.refl _ _).alloc (Nat.le_refl _) _
  have hk := h.kind
  have hk17 := h.lt
  have HF := Lib.hid (hF (w.alloc (.cells (Mg.cells m ser A ps.length cap base snap A' es.length cap' txt).toArray 39)))
  have HW : Hid (∀ W, Blk W w.heap.size 39 (Mg.cells m ser A ps.length cap base snap A' es.length cap' txt).toArray → Calls Tryz.prog 82 #[.pointer (some ⟨w.heap.size, 0, none⟩)] W fun e w' => e = .returned (.bool true) ∧ W = w') := fun W hb => who_gen k m.frm m.to _ ((hb.cell 0).trans (by show some (Value.int .i64 m.kind) = _; rw [hk])) ((hb.cell 1).trans rfl) ((hb.cell 2).trans rfl) h.frm h.to
  have HBt : Hid (∀ W, Below w.heap.size w W → Calls Tryz.prog 86 #[.slice A ps.length cap] W fun e w' => e = .returned (.bool true) ∧ Below W.heap.size W w') := fun W hb => by
    have := batch_any A cap ps W w.heap.size (hr.below hb) hb.size (by omega) hwf
    rw [hp] at this
    exact this
  have HML : Hid (∀ W, Below w.heap.size w W → Calls Tryz.prog 87 #[.agg #[.int .i64 base, .string snap, .slice A' es.length cap']] W fun e w' => e = .returned (.bool true) ∧ Below W.heap.size W w') := fun W hb => by
    have := mayLog_any base snap A' cap' es W (hl.below hb) hsn (by omega)
    rw [hlb] at this
    exact this
  have HB := Lib.hid hB
  have Hb1 := Lib.hid hb1
  have HLim := Lib.hid (fun (W : World) (j : Nat) (hj : j < 11) => limits_gen (w := W) k j hk17 hj)
  have h7 := Mg.fld_len k hk17
  have HFl := Lib.hid (fun i hi => Mg.fld_at hk17 i hi)
  clear hB hb1 hr hwf hl hF hlb hp
  go_enter Tryz.func46, Tryz.ntmps46
  unfold Mg.cells
  go_wp2_with fail
  rw [hk]
  change Calls _ _ _ (w.alloc (.cells #[.int .i64 (k : Int), .int .i64 m.frm, .int .i64 m.to, .int .i64 m.view, .int .i64 m.normal, .int .i64 m.at_, .int .i64 m.commit, .int .i64 m.round, .int .i64 m.client, .int .i64 m.session, .int .i64 m.number, .int .i64 m.code, .int .i64 m.agg, .int .i64 m.until_, .string ser, .slice A ps.length cap, .int .i64 base, .string snap, .slice A' es.length cap', .string txt] 39)) _
  rw [← hk]
  change Calls _ _ _ (w.alloc (.cells (Mg.cells m ser A ps.length cap base snap A' es.length cap' txt).toArray 39)) _
  generalize w.alloc (.cells (Mg.cells m ser A ps.length cap base snap A' es.length cap' txt).toArray 39) = w1 at *
  rw [hk]
  refine HF.out.mono ?_
  rintro e w2 ⟨b, rfl, hr, hb2⟩
  have HB2 := Lib.hid (HB.out.below hb2 (by have := HB.out.lt; omega))
  have Hb2 := Lib.hid (Hb1.out.trans (hb2.mono Hb1.out.size))
  have HR := Lib.hid hr
  clear hr hb2 HF Hb1 HB
  go_wp2_with fail
  refine (HW.out _ HB2.out).mono ?_
  rintro e w3 ⟨rfl, rfl⟩
  go_wp2_with fail
  rw [← Tp.hasL_nil]
  have hH := Blk.new w2 146 (Tp.hasL [])
  have HHs := Lib.hid hH
  have Hb3 := Lib.hid (Hb2.out.alloc Hb2.out.size (.cells (Tp.hasL []) 146))
  have HB3 := Lib.hid (HB2.out.alloc (.cells (Tp.hasL []) 146))
  have HR3 := Lib.hid (HR.out.alloc (Nat.le_refl _) (.cells (Tp.hasL []) 146))
  have hgh : w.heap.size < w2.heap.size := HB2.out.lt
  clear hH Hb2 HB2 HR HW
  generalize w2.heap.size = gh at *
  generalize w2.alloc (.cells (Tp.hasL []) 146) = w3 at *
  go_loopw [7, 26] (fun f i wr => ∃ n : Nat, n ≤ (Mg.flds k).length ∧ i = .int .i64 (n : Int) ∧ Hid (Blk wr gh 146 (Tp.hasL ((Mg.flds k).take n))) ∧ Hid (Blk wr w.heap.size 39 (Mg.cells m ser A ps.length cap base snap A' es.length cap' txt).toArray) ∧ Hid (Reads wr gh 1 (some ⟨b, 0, none⟩) (Mg.flds k).length ((Mg.flds k).map (Value.int .i64))) ∧ Hid (Below w.heap.size w wr)) (fun _ i _ => (Mg.flds k).length - (intOf i).toNat)
  case atStart => exact ⟨0, Nat.zero_le _, rfl, HHs, HB3, HR3, Hb3⟩
  case round =>
    obtain ⟨n, hn', rfl, HHs, HB3, HR3, Hb3⟩ := hrel
    by_cases hlt : n < (Mg.flds k).length
    · obtain ⟨j, hj, hj15⟩ := HFl.out n hlt
      have hc1 : wr.cell? ⟨b, n, none⟩ = some (.int .i64 (j : Int)) := reads1_cell HR3.out hlt (by rw [List.getElem?_map, List.getElem?_eq_getElem hlt, hj]; rfl)
      have hc2 : wr.cell? ⟨gh, j, none⟩ = some (.bool (decide ((j : Int) ∈ (Mg.flds k).take n))) := (HHs.out.cell j).trans (Tp.hasL_at _ _ hj15)
      have hf2 : wr.frozen? ⟨gh, j, none⟩ = false := HHs.out.frozen j
      have hlt' : (n : Int) < ((Mg.flds k).length : Int) := by omega
      have hj' : (j : Int) < 15 := by omega
      have HHn : Hid (Blk (wr.setCell ⟨gh, j, none⟩ (.bool true)) gh 146 (Tp.hasL ((Mg.flds k).take (n + 1)))) := by
        have := HHs.out.set_ j (.bool true)
        rw [Tp.hasL_put _ _ hj15] at this
        rw [List.take_succ_eq_append_getElem hlt, hj]
        exact this
      have HBn : Hid (Blk (wr.setCell ⟨gh, j, none⟩ (.bool true)) w.heap.size 39 (Mg.cells m ser A ps.length cap base snap A' es.length cap' txt).toArray) := HB3.out.far (by show w.heap.size ≠ gh; omega) _
      have HRn := Lib.hid (HR3.out.below ((Below.refl gh wr).setCell (p := ⟨gh, j, none⟩) (Nat.le_refl _) (.bool true)))
      have Hbn : Hid (Below w.heap.size w (wr.setCell ⟨gh, j, none⟩ (.bool true))) := Hb3.out.setCell (p := ⟨gh, j, none⟩) (by show w.heap.size ≤ gh; omega) _
      clear HHs HB3 HR3 Hb3
      go_wp2_with fail
      go_roundw
      case rel => exact ⟨n + 1, by omega, by go_num, HHn, HBn, HRn, Hbn⟩
      case measure => simp [intOf]; omega
    · have htk : (Mg.flds k).take n = Mg.flds k := List.take_of_length_le (by omega)
      rw [htk] at HHs
      have hlt' : ¬ (n : Int) < ((Mg.flds k).length : Int) := by omega
      clear HR3 HFl htk
      have HFd : Hid (∀ j : Nat, j < 11 → wr.cell? ⟨w.heap.size, j + 3, none⟩ = some (.int .i64 (m.fld j))) := fun j hj => (HB3.out.cell (j + 3)).trans (by
        rcases (by omega : j = 0 ∨ j = 1 ∨ j = 2 ∨ j = 3 ∨ j = 4 ∨ j = 5 ∨ j = 6 ∨ j = 7 ∨ j = 8 ∨ j = 9 ∨ j = 10) with rfl | rfl | rfl | rfl | rfl | rfl | rfl | rfl | rfl | rfl | rfl <;> rfl)
      go_wp2_with fail
      go_loopw [8, 9, 10, 11, 33] (fun _ _ _ _ i wq => ∃ n : Nat, n ≤ 15 ∧ i = .int .i64 (n : Int) ∧ wr = wq) (fun _ _ _ _ i _ => 15 - (intOf i).toNat)
      case atStart => exact ⟨0, Nat.zero_le _, rfl, rfl⟩
      case round =>
        obtain ⟨n', hn15, rfl, rfl⟩ := hrel
        by_cases hlt : n' < 15
        · have hlt' : (n' : Int) < 15 := by omega
          by_cases h11 : n' < 11
          · have HL := Lib.hid (HLim.out wr n' h11)
            have hcf := HFd.out n' h11
            have hck : wr.cell? ⟨w.heap.size, 0, none⟩ = some (.int .i64 (k : Int)) := (HB3.out.cell 0).trans (by rw [← hk]; rfl)
            have hch : wr.cell? ⟨gh, n', none⟩ = some (.bool (decide ((n' : Int) ∈ Mg.flds k))) := (HHs.out.cell n').trans (Tp.hasL_at _ _ hlt)
            have dl : ¬ m.fld n' < Mg.low k n' := by have := h.low n' h11; omega
            have dh : ¬ Tp.high n' < m.fld n' := by have := h.high n' h11; omega
            have dz : decide ((n' : Int) ∈ Mg.flds k) = false → m.fld n' = 0 := fun e => h.has n' h11 (of_decide_eq_false e)
            go_wp2_with fail
            refine (msgNumber_any _ n' h11).mono ?_
            rintro e w4 ⟨rfl, rfl⟩
            go_wp2_with fail
            refine HL.out.mono ?_
            rintro e w4 ⟨rfl, rfl⟩
            cases hb : decide ((n' : Int) ∈ Mg.flds k)
            · rw [hb] at hch
              have dz' := dz hb
              clear dz hb
              generalize m.fld n' = x at *
              generalize Mg.low k n' = lo at *
              generalize Tp.high n' = hi at *
              subst dz'
              go_wp2_with fail
              go_roundw
              case rel => exact ⟨n' + 1, by omega, by go_num, by first | rfl | trivial⟩
              case measure => simp [intOf]; omega
            · rw [hb] at hch
              clear dz hb
              generalize m.fld n' = x at *
              generalize Mg.low k n' = lo at *
              generalize Tp.high n' = hi at *
              go_wp2_with fail
              go_roundw
              case rel => exact ⟨n' + 1, by omega, by go_num, by first | rfl | trivial⟩
              case measure => simp [intOf]; omega
          · go_wp2_with fail
            refine (msgNumber_nil _ n' (by omega) hlt).mono ?_
            rintro e w4 ⟨rfl, rfl⟩
            go_wp2_with fail
            go_roundw
            case rel => exact ⟨n' + 1, by omega, by go_num, by first | rfl | trivial⟩
            case measure => simp [intOf]; omega
        · have hlt' : ¬ (n' : Int) < 15 := by omega
          have h11 : wr.cell? ⟨gh, 11, none⟩ = some (.bool (decide ((11 : Int) ∈ Mg.flds k))) := (HHs.out.cell 11).trans (Tp.hasL_at _ 11 (by omega))
          have h12 : wr.cell? ⟨gh, 12, none⟩ = some (.bool (decide ((12 : Int) ∈ Mg.flds k))) := (HHs.out.cell 12).trans (Tp.hasL_at _ 12 (by omega))
          have h13 : wr.cell? ⟨gh, 13, none⟩ = some (.bool (decide ((13 : Int) ∈ Mg.flds k))) := (HHs.out.cell 13).trans (Tp.hasL_at _ 13 (by omega))
          have h14 : wr.cell? ⟨gh, 14, none⟩ = some (.bool (decide ((14 : Int) ∈ Mg.flds k))) := (HHs.out.cell 14).trans (Tp.hasL_at _ 14 (by omega))
          have m14 : wr.cell? ⟨w.heap.size, 14, none⟩ = some (.string ser) := (HB3.out.cell 14).trans rfl
          have m15 : wr.cell? ⟨w.heap.size, 15, none⟩ = some (.slice A ps.length cap) := (HB3.out.cell 15).trans rfl
          have m16 : wr.cell? ⟨w.heap.size, 16, none⟩ = some (.int .i64 base) := (HB3.out.cell 16).trans rfl
          have m17 : wr.cell? ⟨w.heap.size, 17, none⟩ = some (.string snap) := (HB3.out.cell 17).trans rfl
          have m18 : wr.cell? ⟨w.heap.size, 18, none⟩ = some (.slice A' es.length cap') := (HB3.out.cell 18).trans rfl
          have m19 : wr.cell? ⟨w.heap.size, 19, none⟩ = some (.string txt) := (HB3.out.cell 19).trans rfl
          have s1 : decide ((11 : Int) ∈ Mg.flds k) = true → Pt.nameB ser = true := fun e => h.ser1 (of_decide_eq_true e)
          have s0 : decide ((11 : Int) ∈ Mg.flds k) = false → ser = ⟨#[]⟩ := fun e => h.ser0 (of_decide_eq_false e)
          have t0 : decide ((14 : Int) ∈ Mg.flds k) = false → txt = ⟨#[]⟩ := fun e => h.txt0 (of_decide_eq_false e)
          have b0 : decide ((12 : Int) ∈ Mg.flds k) = false → ps.length = 0 := fun e => h.bat0 (of_decide_eq_false e)
          have l0 : decide ((13 : Int) ∈ Mg.flds k) = false → base = 0 ∧ es.length = 0 := fun e => h.log0 (of_decide_eq_false e)
          have ts := h.txt1
          have hgl : gh < wr.heap.size := HHs.out.lt
          clear HFd HHs HB3 HLim h hk
          generalize decide ((11 : Int) ∈ Mg.flds k) = b11 at *
          generalize decide ((12 : Int) ∈ Mg.flds k) = b12 at *
          generalize decide ((13 : Int) ∈ Mg.flds k) = b13 at *
          generalize decide ((14 : Int) ∈ Mg.flds k) = b14 at *
          have hwl : w.heap.size < wr.heap.size := by omega
          have tsz : ¬ (65536 : Int) < (txt.size : Int) := by omega
          have e0 : ((⟨#[]⟩ : ByteArray).toList == (⟨#[]⟩ : ByteArray).toList) = true := by simp
          have z0 : ((⟨#[]⟩ : ByteArray).size : Int) = 0 := rfl
          have Hs1 := Lib.hid s1
          have Hb0 := Lib.hid b0
          have Hl0 := Lib.hid l0
          clear s1 b0 l0
          cases b11 <;> cases b14
          all_goals
            try obtain rfl := s0 rfl
            try obtain rfl := t0 rfl
            clear s0 t0 ts
            go_wp2_with fail
            first
              | (refine (name_any _ _).mono ?_
                 rintro e w0 ⟨rfl, hw0⟩
                 subst hw0
                 have hnm : Pt.nameB ser = true := Hs1.out (by trivial)
                 rw [hnm]
                 go_wp2_with fail)
              | skip
            refine (HBt.out wr Hb3.out).mono ?_
            rintro e w4 ⟨rfl, hb4⟩
            rw [← hb4.cell (p := ⟨gh, _, none⟩) hgl] at h12 h13
            rw [← hb4.cell (p := ⟨w.heap.size, _, none⟩) hwl] at m15 m16 m17 m18
            have Hb4 := Lib.hid (Hb3.out.trans (hb4.mono Hb3.out.size))
            have hg4 : gh < w4.heap.size := by have := hb4.size; omega
            have hw4 : w.heap.size < w4.heap.size := by omega
            clear hb4
            have hnb : b12 = false → ¬ (0 : Int) < (ps.length : Int) := fun e => by have := Hb0.out e; omega
            have nl : ¬ (ps.length : Int) < 0 := by omega
            cases b12
            all_goals
              try have hnb' := hnb rfl
              clear hnb
              go_wp2_with fail
              refine (HML.out w4 Hb4.out).mono ?_
              rintro e w5 ⟨rfl, hb5⟩
              rw [← hb5.cell (p := ⟨gh, _, none⟩) hg4] at h13
              rw [← hb5.cell (p := ⟨w.heap.size, _, none⟩) hw4] at m16 m17 m18
              have Hb5 := Lib.hid (Hb4.out.trans (hb5.mono Hb4.out.size))
              clear hb5
              cases b13
              · have g1 : (base == 0) = true := beq_iff_eq.2 (Hl0.out (by trivial)).1
                have g2 : ((es.length : Int) == 0) = true := beq_iff_eq.2 (by have := (Hl0.out (by trivial)).2; omega)
                go_wp2_with fail
                go_ret
                exact ⟨rfl, Hb5.out⟩
              · go_wp2_with fail
                go_ret
                exact ⟨rfl, Hb5.out⟩
end
end Go.Proofs.YtcchekmejnhlmaaGreat
namespace Go.Proofs.YtcchekmejnhlmaaGreat
open Go.RowKit
set_option linter.unusedVariables false
/-- how the eight bytes stand when k of them are written -/
def put8 (x k : Nat) : List UInt8 := (List.range 8).map fun p => if 8 ≤ p + k then UInt8.ofNat (x / 256 ^ (7 - p) % 256) else 0
theorem put8_len (x k : Nat) : (put8 x k).length = 8 := by simp [put8]
theorem put8_zero (x : Nat) : put8 x 0 = List.replicate 8 0 := by rfl
theorem put8_step (x k : Nat) (hk : k < 8) : (put8 x k).set (7 - k) (UInt8.ofNat (x / 256 ^ k % 256)) = put8 x (k + 1) := by
  rcases (by omega : k = 0 ∨ k = 1 ∨ k = 2 ∨ k = 3 ∨ k = 4 ∨ k = 5 ∨ k = 6 ∨ k = 7) with rfl | rfl | rfl | rfl | rfl | rfl | rfl | rfl <;> rfl
def beN : Nat → Nat → List UInt8
  | 0, _ => []
  | n + 1, x => beN n (x / 256) ++ [UInt8.ofNat (x % 256)]
theorem beN_pk : ∀ n x, Ev.pk (beN n x) = x % 256 ^ n
  | 0, x => by rw [beN, Nat.pow_zero, Nat.mod_one]; rfl
  | n + 1, x => by
    have e : Ev.pk [UInt8.ofNat (x % 256)] = x % 256 := by
      rw [Ev.pk_cons]; show 1 * _ + Ev.pk [] = _
      rw [Nat.one_mul, UInt8.toNat_ofNat', Nat.mod_mod]; rfl
    rw [beN, Ev.pk_append, beN_pk n, e, Nat.pow_succ, Nat.mul_comm (256 ^ n) 256, Nat.mod_mul]
    show 256 ^ 1 * _ + _ = _
    rw [Nat.pow_one, Nat.add_comm]
theorem put8_be (x : Nat) : put8 x 8 = beN 8 x := by
  have e : put8 x 8 = [UInt8.ofNat (x / 256 ^ 7 % 256), UInt8.ofNat (x / 256 ^ 6 % 256), UInt8.ofNat (x / 256 ^ 5 % 256), UInt8.ofNat (x / 256 ^ 4 % 256), UInt8.ofNat (x / 256 ^ 3 % 256), UInt8.ofNat (x / 256 ^ 2 % 256), UInt8.ofNat (x / 256 ^ 1 % 256), UInt8.ofNat (x / 256 ^ 0 % 256)] := rfl
  rw [e]
  simp [beN, Nat.div_div_eq_div_mul]
theorem put8_pk (x : Nat) (hx : x < 18446744073709551616) : Ev.pk (put8 x 8) = x := by
  rw [put8_be, beN_pk]
  exact Nat.mod_eq_of_lt hx
theorem x_made_bytes (n : Nat) : madeCells (Value.int .u8 0).cells (n * 1) = ((List.replicate n (0 : UInt8)).map byteV).toArray := by
  apply Array.ext_getElem?
  intro i
  simp only [madeCells, Value.cells, Nat.mul_one]
  by_cases h : i < n
  · simp [h, Nat.mod_one]; rfl
  · simp [h]
theorem x_own_bytes (W : World) (ys : List UInt8) (h : ys.length ≤ maxLen) : (W.alloc (.cells (ys.map byteV).toArray 5)).ownsRow W.heap.size 5 1 (.slice (some ⟨W.heap.size, 0, none⟩) ys.length ys.length) ys.length (ys.map byteV) :=
  ⟨by simp, .inr ⟨W.heap.size, ys.length, (ys.map byteV).toArray, rfl, Nat.le_refl _, heap_alloc_new W _, Nat.le_refl _, h, by simp, by rw [Nat.mul_one]; exact List.take_of_length_le (by simp)⟩⟩
theorem x_make_bytes (n : Nat) (hn : n ≤ 1000000) (W : World) : (Instr.makeSlice 127 (.int .i64 (n : Int)) (.int .i64 (n : Int))).run Tryz.prog W = .ok (.slice (some ⟨W.heap.size, 0, none⟩) n n) (W.alloc (.cells ((List.replicate n (0 : UInt8)).map byteV).toArray 5)) := by
  obtain ⟨i0, hi, hz0, hz1, hz2⟩ := info_parts info_u8
  have := run_make_rowN (P := Tryz.prog) 127 5 i0 _ Tryz.underlying127 hi hz0 .i64 .i64 n n (Nat.le_refl _) (by rw [hz2]; omega) (by omega) W
  rw [hz1, x_made_bytes] at this
  exact this
section
variable {w : World}
theorem putX_round {wr : World} {x k : Nat} (HO : Hid (wr.ownsRow w.heap.size 5 1 (.slice (some ⟨w.heap.size, 0, none⟩) 8 8) 8 ((put8 x k).map byteV))) (Hb : Hid (Below w.heap.size w wr)) (hk : k < 8) (i : Value) (hi : i = .int .i64 ((k + 1 : Nat) : Int)) (j : Nat) (hj : j = 7 - k) (z : Int) (hz : z = ((x / 256 ^ k % 256 : Nat) : Int)) :
    ∃ (k : Nat), k ≤ 8 ∧ i = .int .i64 (k : Int) ∧ Hid ((wr.setCell ⟨w.heap.size, j, none⟩ (.int .u8 z)).ownsRow w.heap.size 5 1 (.slice (some ⟨w.heap.size, 0, none⟩) 8 8) 8 ((put8 x k).map byteV)) ∧ Hid (Below w.heap.size w (wr.setCell ⟨w.heap.size, j, none⟩ (.int .u8 z))) := by
  refine ⟨k + 1, by omega, hi, ?_, Hb.out.setCell (p := ⟨w.heap.size, j, none⟩) (Nat.le_refl _) _⟩
  show World.ownsRow _ _ _ _ _ _ _
  have e : Value.int .u8 z = byteV (UInt8.ofNat (x / 256 ^ k % 256)) := by
    rw [hz]
    show _ = Value.int .u8 ((UInt8.ofNat (x / 256 ^ k % 256)).toNat : Int)
    rw [UInt8.toNat_ofNat', Nat.mod_mod]
  rw [e, ← put8_step x k hk, List.map_set, hj]
  exact own_set HO.out (7 - k) (byteV (UInt8.ofNat (x / 256 ^ k % 256)))
set_option maxRecDepth 100000 in
set_option maxHeartbeats 2000000 in
theorem cellPutX (x : Nat) (hx : x < 18446744073709551616) : Calls Tryz.prog 167 #[.int .u64 (x : Int), .int .i64 8] w fun e w' => e = .returned (.string ⟨(put8 x 8).toArray⟩) ∧ Below w.heap.size w w' := by
  have hmk := x_make_bytes 8 (by omega) w
  rw [show ((8 : Nat) : Int) = 8 from rfl] at hmk
  have hO := x_own_bytes w (List.replicate 8 0) (by simp [maxLen])
  have hbe : Below w.heap.size w (w.alloc (.cells ((List.replicate 8 (0 : UInt8)).map byteV).toArray 5)) := (Below.refl _ _).alloc (Nat.le_refl _) _
  rw [List.length_replicate] at hO
  have HO : Hid ((w.alloc (.cells ((List.replicate 8 (0 : UInt8)).map byteV).toArray 5)).ownsRow w.heap.size 5 1 (.slice (some ⟨w.heap.size, 0, none⟩) 8 8) 8 ((put8 x 0).map byteV)) := by
    rw [put8_zero]
    exact Lib.hid hO
  have Hbe := Lib.hid hbe
  clear hO hbe
  generalize ((List.replicate 8 (0 : UInt8)).map byteV).toArray = cs at *
  go_enter Tryz.func167, Tryz.ntmps167
  go_wp2_with fail
  go_loopw [6, 11] (fun _ i wr => ∃ (k : Nat), k ≤ 8 ∧ i = .int .i64 (k : Int) ∧ Hid (wr.ownsRow w.heap.size 5 1 (.slice (some ⟨w.heap.size, 0, none⟩) 8 8) 8 ((put8 x k).map byteV)) ∧ Hid (Below w.heap.size w wr)) (fun _ i _ => 8 - (intOf i).toNat)
  case atStart => exact ⟨0, Nat.zero_le _, rfl, HO, Hbe⟩
  case round =>
    obtain ⟨k, hk, rfl, HO, Hb⟩ := hrel
    have hl := put8_len x k
    by_cases hlt : k < 8
    · have hcell : ∀ j, j < 8 → ∃ v, wr.cell? ⟨w.heap.size, j, none⟩ = some v := fun j hj => ⟨_, own_cell HO.out (u := byteV ((put8 x k)[j]'(by omega))) (by rw [List.getElem?_map, List.getElem?_eq_getElem (by omega)]; rfl)⟩
      obtain ⟨v, hv⟩ := hcell (7 - k) (by omega)
      have fz := own_frozen HO.out (7 - k)
      rcases (by omega : k = 0 ∨ k = 1 ∨ k = 2 ∨ k = 3 ∨ k = 4 ∨ k = 5 ∨ k = 6 ∨ k = 7) with rfl | rfl | rfl | rfl | rfl | rfl | rfl | rfl
      · go_wp2_with fail
        refine ⟨?_, by simp [intOf]⟩
        exact putX_round HO Hb (by omega) _ rfl 7 rfl _ (by simp only [Nat.reducePow]; omega)
      · go_wp2_with fail
        refine ⟨?_, by simp [intOf]⟩
        exact putX_round HO Hb (by omega) _ rfl 6 rfl _ (by simp only [Nat.reducePow]; omega)
      · go_wp2_with fail
        refine ⟨?_, by simp [intOf]⟩
        exact putX_round HO Hb (by omega) _ rfl 5 rfl _ (by simp only [Nat.reducePow]; omega)
      · go_wp2_with fail
        refine ⟨?_, by simp [intOf]⟩
        exact putX_round HO Hb (by omega) _ rfl 4 rfl _ (by simp only [Nat.reducePow]; omega)
      · go_wp2_with fail
        refine ⟨?_, by simp [intOf]⟩
        exact putX_round HO Hb (by omega) _ rfl 3 rfl _ (by simp only [Nat.reducePow]; omega)
      · go_wp2_with fail
        refine ⟨?_, by simp [intOf]⟩
        exact putX_round HO Hb (by omega) _ rfl 2 rfl _ (by simp only [Nat.reducePow]; omega)
      · go_wp2_with fail
        refine ⟨?_, by simp [intOf]⟩
        exact putX_round HO Hb (by omega) _ rfl 1 rfl _ (by simp only [Nat.reducePow]; omega)
      · go_wp2_with fail
        refine ⟨?_, by simp [intOf]⟩
        exact putX_round HO Hb (by omega) _ rfl 0 rfl _ (by simp only [Nat.reducePow]; omega)
    · have hk8 : ¬ (k : Int) < 8 := by omega
      obtain rfl : k = 8 := by omega
      have hconv := conv_own HO.out hl
      go_wp2_with fail
      go_ret
      exact ⟨rfl, Hb.out⟩
set_option maxRecDepth 100000 in
set_option maxHeartbeats 2000000 in
theorem vaultHighX (x : Nat) (hx : x < 18446744073709551616) : Calls Tryz.prog 197 #[.int .u64 (x : Int), .int .i64 8] w fun e w' => e = .returned (.string ⟨(put8 x 8).toArray⟩) ∧ Below w.heap.size w w' := by
  have hmk := x_make_bytes 8 (by omega) w
  rw [show ((8 : Nat) : Int) = 8 from rfl] at hmk
  have hO := x_own_bytes w (List.replicate 8 0) (by simp [maxLen])
  have hbe : Below w.heap.size w (w.alloc (.cells ((List.replicate 8 (0 : UInt8)).map byteV).toArray 5)) := (Below.refl _ _).alloc (Nat.le_refl _) _
  rw [List.length_replicate] at hO
  have HO : Hid ((w.alloc (.cells ((List.replicate 8 (0 : UInt8)).map byteV).toArray 5)).ownsRow w.heap.size 5 1 (.slice (some ⟨w.heap.size, 0, none⟩) 8 8) 8 ((put8 x 0).map byteV)) := by
    rw [put8_zero]
    exact Lib.hid hO
  have Hbe := Lib.hid hbe
  clear hO hbe
  generalize ((List.replicate 8 (0 : UInt8)).map byteV).toArray = cs at *
  go_enter Tryz.func197, Tryz.ntmps197
  go_wp2_with fail
  go_loopw [6, 11] (fun _ i wr => ∃ (k : Nat), k ≤ 8 ∧ i = .int .i64 (k : Int) ∧ Hid (wr.ownsRow w.heap.size 5 1 (.slice (some ⟨w.heap.size, 0, none⟩) 8 8) 8 ((put8 x k).map byteV)) ∧ Hid (Below w.heap.size w wr)) (fun _ i _ => 8 - (intOf i).toNat)
  case atStart => exact ⟨0, Nat.zero_le _, rfl, HO, Hbe⟩
  case round =>
    obtain ⟨k, hk, rfl, HO, Hb⟩ := hrel
    have hl := put8_len x k
    by_cases hlt : k < 8
    · have hcell : ∀ j, j < 8 → ∃ v, wr.cell? ⟨w.heap.size, j, none⟩ = some v := fun j hj => ⟨_, own_cell HO.out (u := byteV ((put8 x k)[j]'(by omega))) (by rw [List.getElem?_map, List.getElem?_eq_getElem (by omega)]; rfl)⟩
      obtain ⟨v, hv⟩ := hcell (7 - k) (by omega)
      have fz := own_frozen HO.out (7 - k)
      rcases (by omega : k = 0 ∨ k = 1 ∨ k = 2 ∨ k = 3 ∨ k = 4 ∨ k = 5 ∨ k = 6 ∨ k = 7) with rfl | rfl | rfl | rfl | rfl | rfl | rfl | rfl
      · go_wp2_with fail
        refine ⟨?_, by simp [intOf]⟩
        exact putX_round HO Hb (by omega) _ rfl 7 rfl _ (by simp only [Nat.reducePow]; omega)
      · go_wp2_with fail
        refine ⟨?_, by simp [intOf]⟩
        exact putX_round HO Hb (by omega) _ rfl 6 rfl _ (by simp only [Nat.reducePow]; omega)
      · go_wp2_with fail
        refine ⟨?_, by simp [intOf]⟩
        exact putX_round HO Hb (by omega) _ rfl 5 rfl _ (by simp only [Nat.reducePow]; omega)
      · go_wp2_with fail
        refine ⟨?_, by simp [intOf]⟩
        exact putX_round HO Hb (by omega) _ rfl 4 rfl _ (by simp only [Nat.reducePow]; omega)
      · go_wp2_with fail
        refine ⟨?_, by simp [intOf]⟩
        exact putX_round HO Hb (by omega) _ rfl 3 rfl _ (by simp only [Nat.reducePow]; omega)
      · go_wp2_with fail
        refine ⟨?_, by simp [intOf]⟩
        exact putX_round HO Hb (by omega) _ rfl 2 rfl _ (by simp only [Nat.reducePow]; omega)
      · go_wp2_with fail
        refine ⟨?_, by simp [intOf]⟩
        exact putX_round HO Hb (by omega) _ rfl 1 rfl _ (by simp only [Nat.reducePow]; omega)
      · go_wp2_with fail
        refine ⟨?_, by simp [intOf]⟩
        exact putX_round HO Hb (by omega) _ rfl 0 rfl _ (by simp only [Nat.reducePow]; omega)
    · have hk8 : ¬ (k : Int) < 8 := by omega
      obtain rfl : k = 8 := by omega
      have hconv := conv_own HO.out hl
      go_wp2_with fail
      go_ret
      exact ⟨rfl, Hb.out⟩
end
namespace Ev
noncomputable section
def sPut8 (args : List V) (H : HT) (n : Nat) : Rs := match args with
  | [.c (.i .u64 (.ofNat x)), .c (.i .i64 (.ofNat m))] => cnd (and (Nat.beq m 8) (Nat.blt x 18446744073709551616)) (.ok (.c (.s 8 x)) H n) .no
  | _ => .no
theorem sPut8_of {fid : Nat} (hc : ∀ (x : Nat) (w : World), x < 18446744073709551616 → Calls Tryz.prog fid #[.int .u64 (x : Int), .int .i64 8] w fun e w' => e = .returned (.string ⟨(put8 x 8).toArray⟩) ∧ Below w.heap.size w w') : SumOk1 Tryz.prog fid sPut8 := by
  intro args H n v H' n' h
  unfold sPut8 at h
  split at h
  · rename_i x m
    have q := cnd_ok h
    clear h
    obtain ⟨hb, h⟩ := q
    rw [Bool.and_eq_true] at hb
    have e := nbeq_eq hb.1
    have hx := blt_true hb.2
    subst e
    cases h
    refine ⟨Nat.le_refl _, fun G w cargs hR ha hf => ?_⟩
    obtain ⟨c, d, rfl, h1, h2⟩ := cargs2 ha
    have h1 : c = .int .u64 (x : Int) := h1
    have h2 : d = .int .i64 8 := h2
    subst h1
    subst h2
    refine (hc x w hx).mono ?_
    rintro e w' ⟨rfl, hb'⟩
    exact ⟨_, G, rfl, stp_below hR hb', ⟨_, rfl, by simp [put8_len], put8_pk x hx⟩⟩
  · cases h
theorem sPut_ok : SumOk1 Tryz.prog 167 sPut8 := sPut8_of fun x w hx => cellPutX x hx
theorem sHigh_ok : SumOk1 Tryz.prog 197 sPut8 := sPut8_of fun x w hx => vaultHighX x hx
end
end Ev
end Go.Proofs.YtcchekmejnhlmaaGreat
namespace Go.Proofs.YtcchekmejnhlmaaGreat
open Go.RowKit
set_option linter.unusedVariables false
section
variable {P : Program} {ops : Array Oper} {Q : Exit → Act → World → Prop} {md : Region.Mode} {S : World → Prop} {L : List Nat}
def wpAnyK (P : Program) (md : Region.Mode) (ops : Array Oper) (Q : Exit → Act → World → Prop) (S : World → Prop) (L : List Nat) : Nat → Array Bool → Act → World → Prop
  | 0, listed, a, w => Region.ready md ops listed = [] ∧ Q .normal a w
  | fuel + 1, listed, a, w =>
    (Region.ready md ops listed = [] → Q .normal a w) ∧
    ∀ i ∈ Region.ready md ops listed, wpOp P ops Q i (fun a' w' => (L.contains i = false → S w') ∧ wpAnyK P md ops Q S L fuel (listed.setIfInBounds i true) a' w') a w
theorem wpAny_of_K : ∀ (fuel : Nat) (listed : Array Bool) (a : Act) (w : World), wpAnyK P md ops Q S L fuel listed a w → wpAny P md ops Q fuel listed a w
  | 0, _, _, _, h => h
  | fuel + 1, _, _, _, h => ⟨h.1, fun i hi => wpOp_mono (fun a' w' h' => wpAny_of_K fuel _ a' w' h'.2) (h.2 i hi)⟩
/-- m waits for i -/
def waits (md : Region.Mode) (ops : Array Oper) : Nat → Nat → Nat → Bool
  | 0, _, _ => false
  | n + 1, m, i => match ops[m]? with
    | none => false
    | some o => o.after.toList.any fun e => Region.binds md e && (e.on == i || waits md ops n e.on i)
def Closed (md : Region.Mode) (ops : Array Oper) (listed : Array Bool) : Prop := ∀ (j : Nat) (o : Oper), ops[j]? = some o → listed.getD j false = true → ∀ e ∈ o.after, Region.binds md e = true → listed.getD e.on false = true
def closedB (md : Region.Mode) (ops : Array Oper) (listed : Array Bool) : Bool := (List.range ops.size).all fun j => match ops[j]? with
  | none => true
  | some o => !listed.getD j false || o.after.toList.all fun e => !Region.binds md e || listed.getD e.on false
theorem closed_of {listed : Array Bool} (h : closedB md ops listed = true) : Closed md ops listed := by
  intro j o ho hl e he hb
  unfold closedB at h
  rw [List.all_eq_true] at h
  have hj : j < ops.size := by
    rcases Nat.lt_or_ge j ops.size with q | q
    · exact q
    · rw [Array.getElem?_eq_none q] at ho; cases ho
  have h1 := h j (List.mem_range.2 hj)
  rw [ho] at h1
  simp only at h1
  rw [hl, Bool.not_true, Bool.false_or, List.all_eq_true] at h1
  have h2 := h1 e (Array.mem_toList_iff.2 he)
  rwa [hb, Bool.not_true, Bool.false_or] at h2
theorem closed_set {listed : Array Bool} {j : Nat} (h : Closed md ops listed) (hj : j ∈ Region.ready md ops listed) : Closed md ops (listed.setIfInBounds j true) := by
  intro m o ho hl e he hb
  by_cases hm : j = m
  · subst hm
    obtain ⟨_, o', ho', hall⟩ := mem_ready.1 hj
    rw [ho] at ho'
    cases ho'
    exact getD_set_true (hall e he hb)
  · rw [getD_set_ne false hm] at hl
    exact getD_set_true (h m o ho hl e he hb)
theorem waits_not {listed : Array Bool} {i : Nat} (hc : Closed md ops listed) (hi : listed.getD i false = false) : ∀ (n m : Nat) (o : Oper), ops[m]? = some o → (∀ e ∈ o.after, Region.binds md e = true → listed.getD e.on false = true) → waits md ops n m i = true → False
  | 0, _, _, _, _, h => by cases h
  | n + 1, m, o, ho, hall, h => by
    unfold waits at h
    rw [ho] at h
    simp only [List.any_eq_true] at h
    obtain ⟨e, he, hb⟩ := h
    rw [Bool.and_eq_true, Bool.or_eq_true] at hb
    have hl := hall e (Array.mem_toList_iff.1 he) hb.1
    rcases hb.2 with q | q
    · rw [beq_iff_eq] at q
      rw [q, hi] at hl
      cases hl
    · cases ho2 : ops[e.on]? with
      | none => cases n <;> simp [waits, ho2] at q
      | some o2 => exact waits_not hc hi n e.on o2 ho2 (hc e.on o2 ho2 hl) q
theorem wpAnyK_first {i : Nat} {oi : Oper} {v : Value} (hi : ops[i]? = some oi) (hsel : ∀ (j : Nat) (o : Oper) cs b, ops[j]? = some o → o.op ≠ .select cs b)
    (hQ : ∀ c a w, Q (.panic c) (a.put oi.dst v) w → Q (.panic c) a w) (hL : ∀ k, L.contains k = true → waits md ops ops.size k i = true) :
    ∀ (fuel : Nat) (listed : Array Bool) (a : Act) (w : World),
      (∀ j oj, ops[j]? = some oj → j ≠ i → listed.getD j true = false → (∀ e ∈ oj.after, Region.binds md e = true → e.on ≠ i) → oi.apart ops oj = true) →
      Closed md ops listed → i ∈ Region.ready md ops listed → YieldsIf P ops S oi v a → S w →
      wpAnyK P md ops Q S L fuel (listed.setIfInBounds i true) (a.put oi.dst v) w → wpAnyK P md ops Q S L (fuel + 1) listed a w := by
  intro fuel
  induction fuel with
  | zero =>
    intro listed a w _ _ hr hy hS H
    refine ⟨fun h => (by rw [h] at hr; cases hr), fun j hj => ?_⟩
    by_cases hji : j = i
    · subst hji; exact hy.wpOp hi hS ⟨fun _ => hS, H⟩
    · have := ready_mono hj hji
      rw [H.1] at this
      cases this
  | succ fuel ih =>
    intro listed a w hfree hc hr hy hS H
    refine ⟨fun h => (by rw [h] at hr; cases hr), fun j hj => ?_⟩
    by_cases hji : j = i
    · subst hji; exact hy.wpOp hi hS ⟨fun _ => hS, H⟩
    · have h1 := H.2 j (ready_mono hj hji)
      obtain ⟨hjun, oj, hoj, hall⟩ := mem_ready.1 hj
      have hif : listed.getD i false = false := by
        have h0 := (mem_ready.1 hr).1
        rcases Nat.lt_or_ge i listed.size with h' | h'
        · simp [h'] at h0 ⊢; exact h0
        · simp [Array.getElem?_eq_none h']
      have hjL : L.contains j = false := by
        cases hjc : L.contains j with
        | false => rfl
        | true => exact (waits_not hc hif _ j oj hoj hall (hL j hjc)).elim
      have hnot : ∀ e ∈ oj.after, Region.binds md e = true → e.on ≠ i := fun e he hb heq => by
        have h1 := hall e he hb
        rw [heq, hif] at h1
        cases h1
      have h2 := wpOp_putIf hoj (hfree j oj hoj hji hjun hnot) (fun cs b => hsel i oi cs b hi) (fun cs b => hsel j oj cs b hoj) hQ hy h1
      have hfree' : ∀ k ok, ops[k]? = some ok → k ≠ i → (listed.setIfInBounds j true).getD k true = false →
          (∀ e ∈ ok.after, Region.binds md e = true → e.on ≠ i) → oi.apart ops ok = true := fun k ok hk hki hun hno => by
        refine hfree k ok hk hki ?_ hno
        by_cases hjk : j = k
        · subst hjk; exact hjun
        · rw [getD_set_ne true hjk] at hun; exact hun
      refine wpOp_mono (fun a' w' h3 => ⟨h3.2.1, ih (listed.setIfInBounds j true) a' w' hfree' (closed_set hc hj) (ready_mono hr (Ne.symm hji)) h3.1 (h3.2.1 hjL) ?_⟩) h2
      rw [Array.setIfInBounds_comm _ _ hji]
      exact h3.2.2
theorem wpAnyK_take {i : Nat} {oi : Oper} {v : Value} {fuel : Nat} {listed : Array Bool} {a : Act} {w : World} (hi : ops[i]? = some oi)
    (hs : (Region.noSelect ops && Region.free md ops listed i && (Region.ready md ops listed).contains i && closedB md ops listed && L.all fun k => waits md ops ops.size k i) = true)
    (hQ : ∀ c a w, Q (.panic c) (a.put oi.dst v) w → Q (.panic c) a w) (hy : YieldsIf P ops S oi v a) (hS : S w)
    (h : wpAnyK P md ops Q S L fuel (listed.setIfInBounds i true) (a.put oi.dst v) w) : wpAnyK P md ops Q S L (fuel + 1) listed a w := by
  simp only [Bool.and_eq_true] at hs
  obtain ⟨⟨⟨⟨h1, h2⟩, h3⟩, h4⟩, h5⟩ := hs
  exact wpAnyK_first hi (Region.noSelect_spec h1) hQ (fun k hk => List.all_eq_true.1 h5 k (by simpa using hk)) fuel listed a w (Region.free_spec hi h2) (closed_of h4) (by simpa using h3) hy hS h
/-- the one operation that may come up now -/
theorem wpAnyK_op {i : Nat} {o : Oper} {fuel : Nat} {listed : Array Bool} {a : Act} {w : World} (hr : Region.ready md ops listed = [i]) (ho : ops[i]? = some o)
    (h : ∀ K' : Act → World → Prop, Shut (∀ a w, (L.contains i = false → S w) → ((L.contains i = false → S w) → wpAnyK P md ops Q S L fuel (listed.setIfInBounds i true) a w) → K' a w) → if Region.wanted o (yielded ops a.tmps) = true then Oper.wp P o a w K' Q else K' (a.put o.dst undef) w) : wpAnyK P md ops Q S L (fuel + 1) listed a w := by
  refine ⟨fun h0 => (by rw [hr] at h0; cases h0), fun j hj => ?_⟩
  rw [hr] at hj
  obtain rfl : j = i := by simpa using hj
  exact wpOp_step ho (fun K' hK => h K' (fun a w hS hW => hK a w ⟨hS, hW hS⟩))
theorem wpAnyK_done {listed : Array Bool} {a : Act} {w : World} (hr : Region.ready md ops listed = []) (h : Q .normal a w) :
    ∀ fuel, wpAnyK P md ops Q S L fuel listed a w
  | 0 => ⟨hr, h⟩
  | _ + 1 => ⟨fun _ => h, by rw [hr]; simp⟩
theorem wp_region_K (L : List Nat) {id : Nat} {a : Act} {w : World} (hm : P.follows .mixedOrders = true) (hS : S w.drew)
    (h : S w.drew → wpAnyK P .any ops Q S L ops.size (Array.replicate ops.size false) a w.drew) : (Code.region id ops true).wp P Q a w :=
  wp_region_any hm (wpAny_of_K _ _ _ _ (h hS))
end
end Go.Proofs.YtcchekmejnhlmaaGreat
namespace Go.Proofs.YtcchekmejnhlmaaGreat
open Go.RowKit
set_option linter.unusedVariables false
section
variable {w w' : World} {g g' : Nat} {t t' : TypeId} {cs cs' : Array Value}
end
section
variable {P : Program} {ops : Array Oper} {rest : List Oper} {o : Oper} {a : Act} {w : World} {Q : Exit → Act → World → Prop} {K : Act → World → Prop} {S : World → Prop}
end
end Go.Proofs.YtcchekmejnhlmaaGreat
namespace Go.Proofs.YtcchekmejnhlmaaGreat
open Go.RowKit
set_option linter.unusedVariables false
section
variable {w w' : World}
set_option maxRecDepth 100000 in
theorem mul64_4096 (w : World) : Calls Tryz.prog 195 #[.int .u64 1, .int .u64 4096] w fun e w' => e = .returned (.tuple #[.int .u64 0, .int .u64 4096]) ∧ w = w' := by
  go_enter Tryz.func195, Tryz.ntmps195
  go_wp2_with fail
  go_ret2
  exact ⟨rfl, rfl⟩
set_option maxRecDepth 100000 in
theorem mul_4096 (w : World) : Calls Tryz.prog 135 #[.int .u64 1, .int .u64 4096] w fun e w' => e = .returned (.tuple #[.int .u64 0, .int .u64 4096]) ∧ w = w' := by
  go_enter Tryz.func135, Tryz.ntmps135
  go_wp2_with fail
  refine (mul64_4096 _).mono ?_
  rintro e w2 ⟨rfl, rfl⟩
  go_wp2_with fail
  go_ret2
  exact ⟨rfl, rfl⟩
/-- a row of texts of which the first p are s -/
def Tp.zrow (s : ByteArray) (N p : Nat) : Array Value := (List.replicate p (Value.string s) ++ List.replicate (N - p) (Value.string ⟨#[]⟩)).toArray
theorem Tp.zrow_size (s : ByteArray) {N p : Nat} (h : p ≤ N) : (Tp.zrow s N p).size = N := by simp [Tp.zrow]; omega
theorem Tp.zrow_next (s : ByteArray) {N p q : Nat} (h : p + q ≤ N) : ((Tp.zrow s N p).toList.take p ++ List.replicate q (Value.string s) ++ (Tp.zrow s N p).toList.drop (p + q)).toArray = Tp.zrow s N (p + q) := by
  unfold Tp.zrow
  congr 1
  show (List.replicate p (Value.string s) ++ List.replicate (N - p) (Value.string ⟨#[]⟩)).take p ++ List.replicate q (Value.string s) ++ (List.replicate p (Value.string s) ++ List.replicate (N - p) (Value.string ⟨#[]⟩)).drop (p + q) = _
  rw [List.take_append_of_le_length (by simp), List.take_of_length_le (by simp), List.drop_append, List.drop_of_length_le (by simp), List.nil_append, List.length_replicate, List.drop_replicate, show p + q - p = q from by omega, List.replicate_append_replicate, show N - p - q = N - (p + q) from by omega]
theorem Tp.zrow_at (s : ByteArray) {N p j : Nat} (h : j < p) (hp : p ≤ N) : (Tp.zrow s N p)[j]? = some (Value.string s) := by
  unfold Tp.zrow
  rw [List.getElem?_toArray, List.getElem?_append_left (by simpa using h), List.getElem?_replicate, if_pos h]
theorem info_str : (Tryz.prog.info? 9).map (fun i => (i.zero, i.size, i.bytes)) = some (some (.string ⟨#[]⟩), 1, 16) := by kernel_rfl
theorem below_row {B g : Nat} {w0 : World} (h : Below B w0 w) (hg : B ≤ g) (cs : Array Value) : Below B w0 (w.setRow g cs) :=
  ⟨h.os, h.tape, h.output, by rw [setRow_size]; exact h.size, fun k hk => (setRow_other w g k cs (by omega)).trans (h.block k hk)⟩
theorem made_texts (s : ByteArray) (n : Nat) : madeCells (Value.cells (.string ⟨#[]⟩)) (n * 1) = Tp.zrow s n 0 := by
  unfold Tp.zrow madeCells
  simp only [List.replicate, List.nil_append, Nat.sub_zero, Nat.mul_one]
  apply Array.ext
  · simp
  · intro i h1 h2
    simp [Value.cells, Nat.mod_one]
theorem make_texts (s : ByteArray) (n : Nat) (hn : n ≤ 1000000) (W : World) : (Instr.makeSlice 128 (.int .i64 (n : Int)) (.int .i64 (n : Int))).run Tryz.prog W = .ok (.slice (some ⟨W.heap.size, 0, none⟩) n n) (W.alloc (.cells (Tp.zrow s n 0) 9)) := by
  obtain ⟨i0, hi, hz0, hz1, hz2⟩ := info_parts info_str
  have := run_make_rowN (P := Tryz.prog) 128 9 i0 _ Tryz.underlying128 hi hz0 .i64 .i64 n n (Nat.le_refl _) (by rw [hz2]; omega) (by omega) W
  rw [hz1, made_texts s] at this
  exact this
set_option maxRecDepth 100000 in
theorem copy_texts {W : World} {g p q N : Nat} {s : ByteArray} (h : Blk W g 9 (Tp.zrow s N p)) (hp : p + q ≤ N) (dL dC sL sC : Nat) (a : Addr) (hq : q = Nat.min sL dL) (ha : ∀ j, j < q → W.cell? (a.add j) = some (.string s)) (ty : TypeId) :
    (Builtin.copy_ #[128, 128] ty #[.slice (some ⟨g, p, none⟩) dL dC, .slice (some a) sL sC]).run Tryz.prog W = .ok (.int .i64 (q : Int)) (W.setRow g (Tp.zrow s N (p + q))) := by
  have e : (Tryz.prog.info? 9).map (·.size) = some 1 := by kernel_rfl
  have := run_copy_row (P := Tryz.prog) W 128 128 ty 9 g p dL dC a sL sC (Tp.zrow s N p) 9 (List.replicate q (Value.string s)) Tryz.underlying128 e h (by simp [hq]) (fun j v hv => by
    rw [List.getElem?_replicate] at hv
    split at hv
    · rename_i hj
      injection hv with hv
      rw [← hv]; exact ha j hj
    · cases hv) (by rw [Tp.zrow_size s (by omega)]; simp; omega) (fun v hv => by rw [List.mem_replicate] at hv; rw [hv.2]; rfl)
  rw [List.length_replicate, Tp.zrow_next s hp] at this
  exact this
set_option maxRecDepth 100000 in
theorem repeat_any {gx cx : Nat} (s : ByteArray) (N : Nat) (hN : N = 4096) (hx : w.cell? ⟨gx, 0, none⟩ = some (.string s)) (hgx : gx < w.heap.size) : Calls Tryz.prog 72 #[.slice (some ⟨gx, 0, none⟩) 1 cx, .int .i64 (N : Int)] w fun e w' => e = .returned (.slice (some ⟨w.heap.size, 0, none⟩) N N) ∧ Blk w' w.heap.size 9 (Tp.zrow s N N) ∧ Below w.heap.size w w' := by
  have hu : IntKind.u64.wrap (N : Int) = (N : Int) := IntWalk.u64_in _ (by omega)
  have hi : IntKind.i64.wrap (N : Int) = (N : Int) := IntWalk.i64_in _ (by omega)
  have hM := Lib.hid (fun (W : World) => show Calls Tryz.prog 135 #[.int .u64 1, .int .u64 (N : Int)] W fun e w' => e = .returned (.tuple #[.int .u64 0, .int .u64 (N : Int)]) ∧ W = w' from by rw [hN]; exact mul_4096 W)
  have hmk := make_texts s N (by omega)
  have h0 : (0 : Int) ≤ (N : Int) := by omega
  have hb : ¬ 9223372036854775807 < (N : Int) := by omega
  have hB := Lib.hid (Blk.new w 9 (Tp.zrow s N 0))
  have hX := Lib.hid (fun (W : World) (h : Below w.heap.size w W) => (h.cell (p := ⟨gx, 0, none⟩) hgx).trans hx)
  have HN := Lib.hid hN
  clear hN
  go_enter Tryz.func72, Tryz.ntmps72
  go_wp2_with fail
  refine (hM.out _).mono ?_
  rintro e w2 ⟨rfl, rfl⟩
  go_wp2_with fail
  have hcp := copy_texts hB.out (p := 0) (q := 1) (by have := HN.out; omega) N N 1 cx ⟨gx, 0, none⟩ (by have := HN.out; simp [Nat.min_def]; omega) (fun j hj => by
    obtain rfl : j = 0 := by omega
    exact hX.out _ (Below.alloc (Below.refl _ _) (Nat.le_refl _) _)) 3
  have hB1 : Hid (Blk ((w.alloc (.cells (Tp.zrow s N 0) 9)).setRow w.heap.size (Tp.zrow s N (0 + 1))) w.heap.size 9 (Tp.zrow s N 1)) := Lib.hid (setRow_heap _ _ _ _ _ _ hB.out)
  have hL1 : Hid (Below w.heap.size w ((w.alloc (.cells (Tp.zrow s N 0) 9)).setRow w.heap.size (Tp.zrow s N (0 + 1)))) := Lib.hid (below_row (Below.alloc (Below.refl _ _) (Nat.le_refl _) _) (Nat.le_refl _) _)
  refine Lib.hid ?_
  go_wp2_with fail
  clear hcp hmk hx
  go_loopw [8] (fun n wr => ∃ p : Nat, 1 ≤ p ∧ p ≤ N ∧ n = .int .i64 (p : Int) ∧ Hid (Blk wr w.heap.size 9 (Tp.zrow s N p)) ∧ Hid (Below w.heap.size w wr)) (fun n _ => N - (intOf n).toNat)
  case atStart => exact ⟨1, by omega, by have := HN.out; omega, rfl, hB1, hL1⟩
  case round =>
    obtain ⟨p, hp1, hpN, rfl, hb, hl⟩ := hrel
    rcases Nat.lt_or_ge p N with hlt | hge
    · have hlt' : (p : Int) < (N : Int) := by omega
      have hle' : (p : Int) ≤ (N : Int) := by omega
      have hp0 : (0 : Int) ≤ (p : Int) := by omega
      have hNp : ¬ N = p := by omega
      obtain ⟨q, hq⟩ : ∃ q : Nat, q = Nat.min p (N - p) := ⟨_, rfl⟩
      have hq0 : 0 < q := by rw [hq]; simp [Nat.min_def]; split <;> omega
      have hqp : q ≤ p := by rw [hq]; exact Nat.min_le_left _ _
      have hqN : p + q ≤ N := by have := Nat.min_le_right p (N - p); have : q ≤ N - p := by rw [hq]; exact this
                                 omega
      have HCP := Lib.hid (copy_texts (dL := N - p) (sL := p) (dC := N - p) (sC := N) (a := ⟨w.heap.size, 0, none⟩) hb.out.drew hqN hq (fun j hj => by rw [add_mk, Nat.zero_add]; exact (hb.out.drew.cell j).trans (Tp.zrow_at s (by omega) (by omega))) 3)
      have hw1 : IntKind.i64.wrap ((p : Int) + (q : Int)) = ((p + q : Nat) : Int) := by rw [IntWalk.i64_in _ (by have := HN.out; omega)]; omega
      have HB2 : Hid (Blk (wr.drew.setRow w.heap.size (Tp.zrow s N (p + q))) w.heap.size 9 (Tp.zrow s N (p + q))) := Lib.hid (setRow_heap _ _ _ _ _ _ hb.out.drew)
      have HL2 : Hid (Below w.heap.size w (wr.drew.setRow w.heap.size (Tp.zrow s N (p + q)))) := Lib.hid (below_row hl.out.drew (Nat.le_refl _) _)
      clear hq
      go_wp2_with fail
      refine wp_region_K (S := (fun _ => True)) [] (by kernel_rfl) ?_ (fun hHeld => ?_)
      · trivial
      ((refine wpAnyK_take (i := 0) (oi := ⟨some 38, _, _, _, _, _⟩) (v := ?_) rfl (by kernel_rfl) (fun _ _ _ h => h) (Or.inl ⟨by rfl, ?_⟩) (by assumption) ?_); rotate_left 1; (focus (intro w hSw; (try dsimp only at hSw); go_simp; (try with_reducible rfl); done)); (try simp only [Act.put, List.setIfInBounds_toArray, List.set_cons_zero, List.set_cons_succ]))
      ((refine wpAnyK_take (i := 1) (oi := ⟨some 39, _, _, _, _, _⟩) (v := ?_) rfl (by kernel_rfl) (fun _ _ _ h => h) (Or.inl ⟨by rfl, ?_⟩) (by assumption) ?_); rotate_left 1; (focus (intro w hSw; (try dsimp only at hSw); go_simp; (try with_reducible rfl); done)); (try simp only [Act.put, List.setIfInBounds_toArray, List.set_cons_zero, List.set_cons_succ]))
      ((refine wpAnyK_take (i := 2) (oi := ⟨some 40, _, _, _, _, _⟩) (v := ?_) rfl (by kernel_rfl) (fun _ _ _ h => h) (Or.inl ⟨by rfl, ?_⟩) (by assumption) ?_); rotate_left 1; (focus (intro w hSw; (try dsimp only at hSw); go_simp; (try with_reducible rfl); done)); (try simp only [Act.put, List.setIfInBounds_toArray, List.set_cons_zero, List.set_cons_succ]))
      ((refine wpAnyK_take (i := 3) (oi := ⟨some 41, _, _, _, _, _⟩) (v := ?_) rfl (by kernel_rfl) (fun _ _ _ h => h) (Or.inl ⟨by rfl, ?_⟩) (by assumption) ?_); rotate_left 1; (focus (intro w hSw; (try dsimp only at hSw); go_simp; (try with_reducible rfl); done)); (try simp only [Act.put, List.setIfInBounds_toArray, List.set_cons_zero, List.set_cons_succ]))
      ((refine wpAnyK_take (i := 4) (oi := ⟨some 42, _, _, _, _, _⟩) (v := ?_) rfl (by kernel_rfl) (fun _ _ _ h => h) (Or.inl ⟨by rfl, ?_⟩) (by assumption) ?_); rotate_left 1; (focus (intro w hSw; (try dsimp only at hSw); go_simp; (try with_reducible rfl); done)); (try simp only [Act.put, List.setIfInBounds_toArray, List.set_cons_zero, List.set_cons_succ]))
      ((refine wpAnyK_take (i := 5) (oi := ⟨some 43, _, _, _, _, _⟩) (v := ?_) rfl (by kernel_rfl) (fun _ _ _ h => h) (Or.inl ⟨by rfl, ?_⟩) (by assumption) ?_); rotate_left 1; (focus (intro w hSw; (try dsimp only at hSw); go_simp; (try with_reducible rfl); done)); (try simp only [Act.put, List.setIfInBounds_toArray, List.set_cons_zero, List.set_cons_succ]))
      ((refine wpAnyK_take (i := 6) (oi := ⟨some 44, _, _, _, _, _⟩) (v := ?_) rfl (by kernel_rfl) (fun _ _ _ h => h) (Or.inl ⟨by rfl, ?_⟩) (by assumption) ?_); rotate_left 1; (focus (intro w hSw; (try dsimp only at hSw); go_simp; (try with_reducible rfl); done)); (try simp only [Act.put, List.setIfInBounds_toArray, List.set_cons_zero, List.set_cons_succ]))
      refine wpAnyK_op (i := 7) (o := ⟨some 45, _, _, _, _, _⟩) (by kernel_rfl) rfl (fun K' hK => ?_)
      (refine step_copy_at (o := ⟨some 45, _, _, _, _, _⟩) rfl (.tmp 41) (.tmp 44) 128 128 rfl _ _ (by rfl) (by rfl) HCP.out ?_)
      refine hK.out _ _ (fun _ => ?_) (fun hHeld' => ?_)
      · trivial
      have hHeld := hHeld' rfl
      clear hK K'
      try simp only [Act.put, List.setIfInBounds_toArray, List.set_cons_zero, List.set_cons_succ]
      ((refine wpAnyK_take (i := 8) (oi := ⟨some 46, _, _, _, _, _⟩) (v := ?_) rfl (by kernel_rfl) (fun _ _ _ h => h) (Or.inl ⟨by rfl, ?_⟩) (by assumption) ?_); rotate_left 1; (focus (intro w hSw; (try dsimp only at hSw); go_simp; (try with_reducible rfl); done)); (try simp only [Act.put, List.setIfInBounds_toArray, List.set_cons_zero, List.set_cons_succ]))
      ((refine wpAnyK_take (i := 9) (oi := ⟨some 8, _, _, _, _, _⟩) (v := ?_) rfl (by kernel_rfl) (fun _ _ _ h => h) (Or.inl ⟨by rfl, ?_⟩) (by assumption) ?_); rotate_left 1; (focus (intro w hSw; (try dsimp only at hSw); go_simp; (try with_reducible rfl); done)); (try simp only [Act.put, List.setIfInBounds_toArray, List.set_cons_zero, List.set_cons_succ]))
      refine wpAnyK_done (by kernel_rfl) ?_ _
      go_roundw
      case rel =>
        repeat' (first | exact ⟨⟨p + q, by omega, hqN, by first | rfl | (simp only [hw1]; rfl), HB2, HL2⟩, rfl⟩ | apply Exists.intro)
      case measure => simp [intOf]; omega
    · obtain rfl : p = N := by omega
      have hlt' : ¬ (p : Int) < (p : Int) := by omega
      go_wp2_with fail
      go_ret
      exact ⟨rfl, hb.out, hl.out⟩
end
end Go.Proofs.YtcchekmejnhlmaaGreat
namespace Go.Proofs.YtcchekmejnhlmaaGreat
namespace Ev
open Go.RowKit
noncomputable section
set_option linter.unusedVariables false
def repO (x : Sc) (H : HT) (n : Nat) : Rs := match x with
  | .s l m => cnd (Nat.blt n HB) (.ok (.c (.sk n 0 4096 4096 1)) (hset H n (.row 4096 false 4 (.s l m) .z)) (Nat.add n 1)) .no
  | _ => .no
def sRep (args : List V) (H : HT) (n : Nat) : Rs := match args with
  | [.c (.sk id off len cap es), .c (.i .i64 (.ofNat k))] => cnd (and (and (Nat.beq off 0) (Nat.beq len 1)) (and (Nat.beq k 4096) (Nat.blt id HB))) (match hget H id with
    | .row m x dep d t => cnd (Nat.blt 0 m) (repO (tget dep d t 0) H n) .no
    | _ => .no) .no
  | _ => .no
set_option maxRecDepth 100000 in
theorem sRep_ok : SumOk1 Tryz.prog 72 sRep := by
  intro args H n v H' n' h
  unfold sRep at h
  split at h
  · rename_i id off len cap es k
    have q := cnd_ok h
    clear h
    obtain ⟨hb, h⟩ := q
    rw [Bool.and_eq_true, Bool.and_eq_true, Bool.and_eq_true] at hb
    have e1 := nbeq_eq hb.1.1
    have e2 := nbeq_eq hb.1.2
    have e3 := nbeq_eq hb.2.1
    have hid := blt_true hb.2.2
    subst e1
    subst e2
    split at h
    · rename_i m x dep d t hob
      have q := cnd_ok h
      clear h
      obtain ⟨hm, h⟩ := q
      have hm := blt_true hm
      have hpid : hp H id = .row m x dep d t := (hp_get hid).trans hob
      unfold repO at h
      split at h
      · rename_i l mm hs
        have q := cnd_ok h
        clear h
        obtain ⟨hn, h⟩ := q
        have hn := blt_true hn
        cases h
        refine ⟨Nat.le_succ _, fun G w cargs hR ha hf => ?_⟩
        obtain ⟨c, c2, rfl, h1, h2⟩ := cargs2 ha
        obtain ⟨b, sz, hg, rfl, _⟩ := h1
        have h2 : c2 = .int .i64 (k : Int) := h2
        subst h2
        obtain ⟨b', sz', arr, el, fz, hg', L⟩ := hR.lies (id := id) hpid
        rw [hg] at hg'; cases hg'
        have hc := cell_at (off := 0) L.hb (by have := L.le; have := L.size; omega)
        have hv := L.cell 0 hm
        rw [hs] at hv
        obtain ⟨s, hv, s1, s2⟩ := hv
        rw [hv] at hc
        have hlt := hR.lt (by rw [hpid]; exact fun q => by cases q) hg
        refine (repeat_any (cx := cap) s k e3 hc hlt).mono ?_
        rintro e w' ⟨rfl, hB, hb'⟩
        have hG : G n = none := hf n (Nat.le_refl _) (Nat.lt_succ_self _)
        have hsz : (Tp.zrow s k k).size = 4096 := by rw [Tp.zrow_size s (by omega)]; exact e3
        subst e3
        refine ⟨_, gset G n (w.heap.size, 4096), rfl, stp_one hR hb' hn hG (Nat.le_refl _) hB _ ⟨_, _, _, rfl, hsz, Nat.le_refl _, fun _ => rfl, by decide, fun i hi => by simp, fun i hi => ?_⟩, ⟨w.heap.size, 4096, by simp [gset], rfl, Nat.le_refl _, by omega⟩⟩
        rw [tget_z]
        have := Tp.zrow_at s (N := 4096) (p := 4096) (j := i) (by omega) (by omega)
        rw [Array.getD_eq_getD_getElem?, this]
        exact ⟨s, rfl, s1, s2⟩
      · cases h
    · cases h
  · cases h
end
end Ev
end Go.Proofs.YtcchekmejnhlmaaGreat
namespace Go.Proofs.YtcchekmejnhlmaaGreat.Sg
open Go.Proofs.YtcchekmejnhlmaaGreat
set_option linter.unusedVariables false
def tailAt (x j : Nat) : UInt8 := UInt8.ofNat (x / 256 ^ (7 - j) % 256)
def tailL (x : Nat) : List UInt8 := (List.range 8).map (tailAt x)
def tailB (x : Nat) : ByteArray := ⟨(tailL x).toArray⟩
def tailCell (x k j : Nat) : Value := if 8 ≤ j + k then .int .u8 ((tailAt x j).toNat : Int) else .int .u8 0
def tailRow (x k : Nat) : Array Value := ((List.range 8).map (tailCell x k)).toArray
theorem tail_low (x k : Nat) : (x : Int) / 2 ^ (8 * k) % 256 = ((x / 256 ^ k % 256 : Nat) : Int) := by
  have e2 : ((256 ^ k : Nat) : Int) = 2 ^ (8 * k) := by
    rw [show (256 : Nat) ^ k = 2 ^ (8 * k) from by rw [Nat.pow_mul]]
    exact Int.natCast_pow 2 (8 * k)
  rw [← e2, ← Int.natCast_ediv]; omega
theorem tailRow_size (x k : Nat) : (tailRow x k).size = 8 := by simp [tailRow]
theorem tailRow_at (x k j : Nat) (h : j < 8) : (tailRow x k)[j]? = some (tailCell x k j) := by simp [tailRow, h]
theorem tailRow_zero (x : Nat) : tailRow x 0 = #[.int .u8 0, .int .u8 0, .int .u8 0, .int .u8 0, .int .u8 0, .int .u8 0, .int .u8 0, .int .u8 0] := by
  simp [tailRow, tailCell, List.range, List.range.loop]
theorem tailRow_next (x k : Nat) (hk : k < 8) : (tailRow x k).setIfInBounds (7 - k) (.int .u8 ((x / 256 ^ k % 256 : Nat) : Int)) = tailRow x (k + 1) := by
  apply Array.ext_getElem?
  intro j
  rw [Array.getElem?_setIfInBounds]
  by_cases hj : j < 8
  · rw [tailRow_at _ _ _ hj, tailRow_at _ _ _ hj]
    by_cases he : 7 - k = j
    · rw [if_pos he, if_pos (by rw [tailRow_size]; omega)]
      unfold tailCell tailAt
      rw [if_pos (by omega), show 7 - j = k from by omega, UInt8.toNat_ofNat']
      have : x / 256 ^ k % 256 < 256 := Nat.mod_lt _ (by omega)
      rw [Nat.mod_eq_of_lt (a := x / 256 ^ k % 256) (by simpa using this)]
    · rw [if_neg he]
      unfold tailCell
      by_cases hc : 8 ≤ j + k
      · rw [if_pos hc, if_pos (by omega)]
      · rw [if_neg hc, if_neg (by omega)]
  · rw [if_neg (by omega), Array.getElem?_eq_none (by rw [tailRow_size]; omega), Array.getElem?_eq_none (by rw [tailRow_size]; omega)]
theorem tailL_length (x : Nat) : (tailL x).length = 8 := by simp [tailL]
theorem tailRow_done (x j : Nat) (h : j < (tailL x).length) : (tailRow x 8)[j]? = some (.int .u8 (((tailL x)[j].toNat : Nat) : Int)) := by
  rw [tailL_length] at h
  rw [tailRow_at _ _ _ h]
  simp [tailCell, tailL]
end Go.Proofs.YtcchekmejnhlmaaGreat.Sg
namespace Go.Proofs.YtcchekmejnhlmaaGreat
open Go.RowKit
set_option linter.unusedVariables false
set_option maxRecDepth 100000 in
set_option maxHeartbeats 400000 in
theorem tail_any (x : Nat) (w : World) (hx : x < 18446744073709551616) :
    Calls Tryz.prog 269 #[.int .u64 x] w fun e w' => e = .returned (.string (Sg.tailB x)) ∧ Below w.heap.size w w' := by
  go_enter Tryz.func269, Tryz.ntmps269
  go_wp2
  go_loopw [4, 5] (fun _ i wr => ∃ k : Nat, k ≤ 8 ∧ i = .int .i64 k ∧ wr = w.alloc (.cells (Sg.tailRow x k) 361)) (fun _ i _ => 8 - (intOf i).toNat)
  case atStart => exact ⟨0, Nat.zero_le _, rfl, by rw [Sg.tailRow_zero]⟩
  case round =>
    obtain ⟨k, hk, rfl, rfl⟩ := hrel
    by_cases hlt : k < 8
    · have hlow := Sg.tail_low x k
      have hn := Lib.hid (Sg.tailRow_next x k hlt)
      have hc : (Sg.tailRow x k)[7 - k]? = some (.int .u8 0) := by
        rw [Sg.tailRow_at _ _ _ (by omega)]; unfold Sg.tailCell; rw [if_neg (by omega)]
      go_wp2
      go_roundw
      case rel => exact ⟨k + 1, by omega, by go_num, by rw [← hn.out]; rfl⟩
      case measure => simp [intOf]; omega
    · obtain rfl : k = 8 := by omega
      have hcv : (convert 127 9 (.slice (some ⟨w.heap.size, 0, none⟩) 8 8)).run Tryz.prog (w.alloc (.cells (Sg.tailRow x 8) 361)) = .ok (.string (Sg.tailB x)) (w.alloc (.cells (Sg.tailRow x 8) 361)) :=
        run_convert_bytes_back (P := Tryz.prog) _ 127 9 5 ⟨w.heap.size, 0, none⟩ 8 (Sg.tailL x) Tryz.underlying127 Tryz.underlying5 Tryz.underlying9 (fun j hj => by
          rw [← Sg.tailRow_done x j hj]
          rw [add_mk, Nat.zero_add]; exact cell_new _ _ _ _)
      go_wp2
      go_ret
      exact ⟨rfl, (Below.refl _ _).alloc (Nat.le_refl _) _⟩
end Go.Proofs.YtcchekmejnhlmaaGreat
namespace Go.Proofs.YtcchekmejnhlmaaGreat
open Go.RowKit
set_option linter.unusedVariables false
theorem tailL_put8 (x : Nat) : Sg.tailL x = put8 x 8 := by
  unfold Sg.tailL put8 Sg.tailAt
  refine List.map_congr_left fun p _ => ?_
  rw [if_pos (by omega)]
set_option maxRecDepth 100000 in
/-- Len of a builder -/
theorem u_len (b : Nat) (p : Value) (A : Option Addr) (len cap : Nat) (w : World) (hbk : w.heap[b]? = some (.cells #[p, .slice A len cap] 203 (0, 0))) :
    Calls Tryz.prog 132 #[.pointer (some ⟨b, 0, none⟩)] w fun e w' => e = .returned (.int .i64 (len : Int)) ∧ w' = w := by
  have c1 : w.cell? ⟨b, 1, none⟩ = some (.slice A len cap) := by rw [Lib.cell_of_heap hbk]; rfl
  go_enter Tryz.func132, Tryz.ntmps132
  go_wp2
  go_ret
  exact ⟨rfl, rfl⟩
namespace Ev
noncomputable section
def sTail (args : List V) (H : HT) (n : Nat) : Rs := match args with
  | [.c (.i .u64 (.ofNat x))] => cnd (Nat.blt x 18446744073709551616) (.ok (.c (.s 8 x)) H n) .no
  | _ => .no
theorem sTail_ok : SumOk1 Tryz.prog 269 sTail := by
  intro args H n v H' n' h
  unfold sTail at h
  split at h
  · rename_i x
    have q := cnd_ok h
    clear h
    obtain ⟨hb, h⟩ := q
    have hx := blt_true hb
    cases h
    refine ⟨Nat.le_refl _, fun G w cargs hR ha hf => ?_⟩
    obtain ⟨c, rfl, h1⟩ := cargs1 ha
    have h1 : c = .int .u64 (x : Int) := h1
    subst h1
    refine (tail_any x w hx).mono ?_
    rintro e w' ⟨rfl, hb'⟩
    refine ⟨_, G, rfl, stp_below hR hb', ⟨Sg.tailB x, rfl, ?_, ?_⟩⟩
    · show (Sg.tailL x).toArray.toList.length = 8
      rw [tailL_put8]; exact put8_len x 8
    · show pk (Sg.tailL x).toArray.toList = x
      rw [tailL_put8]; exact put8_pk x hx
  · cases h
def sbLen (T u8 : Nat) (args : List V) (H : HT) (n : Nat) : Rs := match args with
  | [.c (.p id off)] => cnd (and (Nat.beq off 0) (Nat.blt id HB)) (match hget H id with
      | .bd e a .sn => cnd (Nat.beq e T) (.ok (.c (.i .i64 (.ofNat 0))) H n) .no
      | .bd e a (.su gid o len lb es) => cnd (Nat.beq e T) (.ok (.c (.i .i64 (.ofNat len))) H n) .no
      | _ => .no) .no
  | _ => .no
theorem sbLen_ok : SumOk1 Tryz.prog 132 (sbLen bT bU) := by
  intro args H n v H' n' h
  unfold sbLen at h
  split at h
  · rename_i id off
    have q := cnd_ok h
    clear h
    obtain ⟨hb, h⟩ := q
    rw [Bool.and_eq_true] at hb
    have hoff := nbeq_eq hb.1
    have hid := blt_true hb.2
    subst hoff
    split at h
    · rename_i e a hob
      have q := cnd_ok h
      clear h
      obtain ⟨hb2, h⟩ := q
      have he := nbeq_eq hb2
      subst he
      cases h
      refine ⟨Nat.le_refl _, fun G w cargs hR ha hf => ?_⟩
      obtain ⟨ca, rfl, ha1⟩ := cargs1 ha
      obtain ⟨b, sz0, hg, rfl⟩ := ha1
      have hpid : hp H id = .bd bT a .sn := (hp_get hid).trans hob
      obtain ⟨b', sz, o, hg', hbk, hok⟩ := hR.1 id (by rw [hpid]; exact fun q => by cases q)
      rw [hg] at hg'; cases hg'
      rw [hpid] at hok
      obtain ⟨rfl, p, vv, rfl, hpa, hbuf⟩ := hok
      have hbuf : vv = .slice none 0 0 := hbuf
      subst hbuf
      refine (u_len b p none 0 0 w hbk).mono ?_
      rintro e w' ⟨rfl, rfl⟩
      exact ⟨_, G, rfl, Stp.refl hR, rfl⟩
    · rename_i e a gid o len lb es hob
      have q := cnd_ok h
      clear h
      obtain ⟨hb2, h⟩ := q
      have he := nbeq_eq hb2
      subst he
      cases h
      refine ⟨Nat.le_refl _, fun G w cargs hR ha hf => ?_⟩
      obtain ⟨ca, rfl, ha1⟩ := cargs1 ha
      obtain ⟨b, sz0, hg, rfl⟩ := ha1
      have hpid : hp H id = .bd bT a (.su gid o len lb es) := (hp_get hid).trans hob
      obtain ⟨b', sz, ob, hg', hbk, hok⟩ := hR.1 id (by rw [hpid]; exact fun q => by cases q)
      rw [hg] at hg'; cases hg'
      rw [hpid] at hok
      obtain ⟨rfl, p, vv, rfl, hpa, hbuf⟩ := hok
      obtain ⟨g, szg, cc, hgg, rfl, _⟩ := hbuf
      refine (u_len b p _ len cc w hbk).mono ?_
      rintro e w' ⟨rfl, rfl⟩
      exact ⟨_, G, rfl, Stp.refl hR, rfl⟩
    · cases h
  · cases h
def cloM (id : Nat) (H : HT) (n : Nat) : Rs := cnd (and (Nat.blt id HB) (Nat.blt n HB)) (match hget H id with
  | .mp es => .ok (.c (.m n)) (hset H n (.mp es)) (Nat.add n 1)
  | _ => .no) .no
def sClone (args : List V) (H : HT) (n : Nat) : Rs := match args with
  | [.c .mn] => .ok (.c .mn) H n
  | [.c (.m id)] => cloM id H n
  | _ => .no
theorem sClone_ok : SumOk1 Tryz.prog 214 sClone := by
  intro args H n v H' n' h
  unfold sClone at h
  split at h
  · cases h
    refine ⟨Nat.le_refl _, fun G w cargs hR ha hf => ?_⟩
    obtain ⟨c, rfl, h1⟩ := cargs1 ha
    have h1 : c = .map none := h1
    subst h1
    refine (AnyW.maps_Clone_nil Tryz.cloneM w).mono ?_
    rintro e w' ⟨rfl, rfl⟩
    exact ⟨_, G, rfl, Stp.refl hR, rfl⟩
  · rename_i id
    unfold cloM at h
    have q := cnd_ok h
    clear h
    obtain ⟨hb, h⟩ := q
    rw [Bool.and_eq_true] at hb
    have hid := blt_true hb.1
    have hn := blt_true hb.2
    split at h
    · rename_i es hes
      cases h
      refine ⟨Nat.le_succ _, fun G w cargs hR ha hf => ?_⟩
      obtain ⟨c, rfl, h1⟩ := cargs1 ha
      obtain ⟨b, sz0, hg, rfl⟩ := h1
      have hpid : hp H id = .mp es := (hp_get hid).trans hes
      obtain ⟨b', sz, o, hg', hbk, hok⟩ := hR.1 id (by rw [hpid]; exact fun q => by cases q)
      rw [hg] at hg'; cases hg'
      rw [hpid] at hok
      have hok0 := hok
      obtain ⟨ents, clock, rfl, hst, hes2⟩ := hok
      have hG : G n = none := hf n (Nat.le_refl _) (Nat.lt_succ_self n)
      refine (AnyW.maps_Clone Tryz.cloneM b ents clock w hbk).mono ?_
      rintro e w' ⟨rfl, rfl⟩
      have hle : Gh.le G (gset G n (w.heap.size, 0)) := fun j y hy => by
        unfold gset; split
        · rename_i e; rw [e, hG] at hy; cases hy
        · exact hy
      refine ⟨_, gset G n (w.heap.size, 0), rfl, ?_, ⟨w.heap.size, 0, by simp [gset], rfl⟩⟩
      rw [hp_set _ hn]
      exact stp_new hR hG (.map ents clock) 0 (.mp es) (ObOk.le hle ⟨ents, clock, rfl, hst, hes2⟩)
    · cases h
  · cases h
end
end Ev
end Go.Proofs.YtcchekmejnhlmaaGreat
namespace Go.Proofs.YtcchekmejnhlmaaGreat
open Go.RowKit Go.ChangeMaps Go.MapKept
set_option linter.unusedVariables false
/-- the map in block b has true at the numbers of U, and nothing else -/
def UsedM (w : World) (b : Nat) (U : List Nat) : Prop := ∃ (ents : Array MapEntry) (clock : Nat), w.heap[b]? = some (.map ents clock) ∧ Stamped ents clock ∧ (∀ e ∈ ents.toList, e.val = .bool true ∧ ∃ k : Nat, e.key = .int .i64 (k : Int) ∧ k ∈ U) ∧ ∀ k ∈ U, ∃ e ∈ ents.toList, e.key = .int .i64 ((k : Nat) : Int)
section
variable {w : World} {b : Nat} {U : List Nat}
theorem UsedM.kept {w' : World} (h : UsedM w b U) (he : w'.heap[b]? = w.heap[b]?) : UsedM w' b U := by
  obtain ⟨ents, clock, h1, h2⟩ := h
  exact ⟨ents, clock, he.trans h1, h2⟩
theorem UsedM.sub {V : List Nat} (h : UsedM w b U) (hs : ∀ k, k ∈ U ↔ k ∈ V) : UsedM w b V := by
  obtain ⟨ents, clock, h1, h2, h3, h4⟩ := h
  exact ⟨ents, clock, h1, h2, fun e he => by obtain ⟨p, k, q1, q2⟩ := h3 e he; exact ⟨p, k, q1, (hs k).1 q2⟩, fun k hk => h4 k ((hs k).2 hk)⟩
theorem usedM_new {W : World} : UsedM (W.alloc (.map #[] 0)) W.heap.size [] :=
  ⟨#[], 0, (MapKept.heap_alloc W _).1, stamped_empty 0, fun e he => (by simp at he), fun k hk => (by cases hk)⟩
theorem findNow_int {d : TypeDesc} {kk : IntKind} (hd : d = .int kk) (k : Nat) : ∀ (l : List MapEntry) (i : Nat), (∀ e ∈ l, ∃ m : Nat, e.key = .int .i64 (m : Int)) →
    (Instr.findNow d (.int .i64 (k : Int)) l i = some none ∧ ∀ e ∈ l, e.key ≠ .int .i64 (k : Int)) ∨ ∃ j e, l[j]? = some e ∧ e.key = .int .i64 (k : Int) ∧ Instr.findNow d (.int .i64 (k : Int)) l i = some (some (i + j, e.val))
  | [], i, _ => .inl ⟨rfl, fun e he => by cases he⟩
  | x :: l, i, hl => by
    obtain ⟨m, hm⟩ := hl x (List.mem_cons_self ..)
    by_cases e : m = k
    · subst e
      refine .inr ⟨0, x, rfl, hm, ?_⟩
      subst hd
      simp [Instr.findNow, hm, Instr.sameNow]
    · have hs : Instr.findNow d (.int .i64 (k : Int)) (x :: l) i = Instr.findNow d (.int .i64 (k : Int)) l (i + 1) := by
        subst hd
        have : ((k : Int) == (m : Int)) = false := beq_eq_false_iff_ne.2 (by omega)
        simp [Instr.findNow, hm, Instr.sameNow, this]
      rcases findNow_int hd k l (i + 1) (fun y hy => hl y (List.mem_cons_of_mem _ hy)) with ⟨h1, h2⟩ | ⟨j, y, h1, h2, h3⟩
      · refine .inl ⟨hs.trans h1, fun y hy => ?_⟩
        rcases List.mem_cons.1 hy with rfl | hy
        · rw [hm]; intro q; have := (Value.int.inj q).2; omega
        · exact h2 y hy
      · exact .inr ⟨j + 1, y, by simpa using h1, h2, by rw [hs, h3]; congr 3; omega⟩
/-- it is laid in -/
theorem UsedM.put (h : UsedM w b U) (t kt et : TypeId) (ht : Tryz.prog.underlying t = some (.map kt et)) (hk : Tryz.prog.underlying kt = some (.int .i64)) (k : Nat) :
    ∃ w', (Instr.mapUpdate t (.map (some b)) (.int .i64 (k : Int)) (.bool true)).run Tryz.prog w = .ok () w' ∧ UsedM w' b (k :: U) ∧ w.grownBy w' (some b) ∧ w'.heap.size = w.heap.size := by
  obtain ⟨ents, clock, h1, h2, h3, h4⟩ := h
  have hlt : b < w.heap.size := (Array.getElem?_eq_some_iff.1 h1).1
  have hset : ∀ (o : Obj), (setObj b o).run Tryz.prog w = .ok () { w with heap := w.heap.setIfInBounds b o } := fun o => by
    simp only [setObj, Sem.run, h1]
  have hgr : ∀ o : Obj, w.grownBy { w with heap := w.heap.setIfInBounds b o } (some b) := fun o => ⟨rfl, rfl, rfl, by simp, fun j _ hj => by
    simp only [Array.getElem?_setIfInBounds]
    rw [if_neg (fun e => hj (by rw [e]))]⟩
  have hat : ∀ o : Obj, ({ w with heap := w.heap.setIfInBounds b o } : World).heap[b]? = some o := fun o => by simp [hlt]
  have hik : Ev.IsK true (.int .i64 (k : Int)) := ⟨_, _, rfl⟩
  have hkt : Ev.keyTy (.int .i64) = some true := rfl
  rcases findNow_int (d := .int .i64) rfl k ents.toList 0 (fun e he => by obtain ⟨_, m, q, _⟩ := h3 e he; exact ⟨m, q⟩) with ⟨q1, q2⟩ | ⟨j, e0, q0, qk, q1⟩
  · refine ⟨_, ?_, ⟨ents.push { key := .int .i64 (k : Int), val := .bool true, born := clock }, clock + 1, hat _, stamped_push h2 q2, fun e he => ?_, fun m hm => ?_⟩, hgr _, by simp⟩
    · simp only [Instr.mapUpdate, Sem.run_bind, run_underlying ht, Result.andThen_ok, Ev.run_getMap h1]
      rw [Ev.run_checkK hk hkt hik]
      simp only [Result.andThen_ok, Instr.findKey, Sem.run_bind, run_underlying hk, q1, Sem.run_pure, hset]
    · rw [Array.toList_push] at he
      rcases List.mem_append.1 he with he | he
      · obtain ⟨p, m, r1, r2⟩ := h3 e he
        exact ⟨p, m, r1, List.mem_cons_of_mem _ r2⟩
      · rw [List.mem_singleton.1 he]
        exact ⟨rfl, k, rfl, List.mem_cons_self ..⟩
    · rw [Array.toList_push]
      rcases List.mem_cons.1 hm with rfl | hm
      · exact ⟨_, List.mem_append_right _ (List.mem_singleton.2 rfl), rfl⟩
      · obtain ⟨e, r1, r2⟩ := h4 m hm
        exact ⟨e, List.mem_append_left _ r1, r2⟩
  · have hj : j < ents.toList.length := (List.getElem?_eq_some_iff.1 q0).1
    have hmod : ∀ (f : MapEntry → MapEntry) (e : MapEntry), e ∈ (ents.modify j f).toList → (e ∈ ents.toList ∨ e = f e0) := fun f e he => by
      rw [Array.toList_modify, List.mem_iff_getElem?] at he
      obtain ⟨i, hi⟩ := he
      rw [List.getElem?_modify] at hi
      by_cases c : j = i
      · subst c
        rw [q0] at hi
        have hi : some (if j = j then f e0 else e0) = some e := hi
        rw [if_pos rfl] at hi
        exact .inr (Option.some.inj hi).symm
      · cases hq : ents.toList[i]? with
        | none => rw [hq] at hi; cases hi
        | some y =>
          rw [hq] at hi
          have hi : some (if j = i then f y else y) = some e := hi
          rw [if_neg c] at hi
          cases hi
          exact .inl (List.mem_of_getElem? hq)
    have hmod2 : ∀ (f : MapEntry → MapEntry) (e : MapEntry), e ∈ ents.toList → e ∈ (ents.modify j f).toList ∨ (e = e0 ∧ f e0 ∈ (ents.modify j f).toList) := fun f e he => by
      rw [Array.toList_modify]
      obtain ⟨i, hi⟩ := List.mem_iff_getElem?.1 he
      by_cases c : j = i
      · subst c
        rw [q0] at hi
        refine .inr ⟨(Option.some.inj hi).symm, List.mem_iff_getElem?.2 ⟨j, ?_⟩⟩
        rw [List.getElem?_modify, q0]
        show some (if j = j then f e0 else e0) = _
        rw [if_pos rfl]
      · refine .inl (List.mem_iff_getElem?.2 ⟨i, ?_⟩)
        rw [List.getElem?_modify, hi]
        show some (if j = i then f e else e) = _
        rw [if_neg c]
    refine ⟨_, ?_, ⟨ents.modify j fun e => { e with key := .int .i64 (k : Int), val := .bool true }, clock, hat _, stamped_modify h2 j _ (fun _ _ => rfl) (fun e _ he' => by
      have : ents.toList[j]? = some e := by simpa using he'
      rw [q0] at this; cases this; exact qk.symm), fun e he => ?_, fun m hm => ?_⟩, hgr _, by simp⟩
    · simp only [Instr.mapUpdate, Sem.run_bind, run_underlying ht, Result.andThen_ok, Ev.run_getMap h1]
      rw [Ev.run_checkK hk hkt hik]
      simp only [Result.andThen_ok, Instr.findKey, Sem.run_bind, run_underlying hk, q1, Sem.run_pure, Nat.zero_add]
      have e1 : ((ents[j]?.map (·.key)).getD (.int .i64 (k : Int))) = .int .i64 (k : Int) := by
        have : ents[j]? = some e0 := by simpa using q0
        rw [this]; exact qk
      simp only [Instr.keyThatStays, e1]
      have hsb : Instr.sameBits 10000 (.int .i64 (k : Int)) (.int .i64 (k : Int)) = true := by simp [Instr.sameBits]
      simp only [hsb, if_true, Sem.run_pure, Result.andThen_ok, hset]
    · rcases hmod _ e he with he | rfl
      · obtain ⟨p, m, r1, r2⟩ := h3 e he
        exact ⟨p, m, r1, List.mem_cons_of_mem _ r2⟩
      · exact ⟨rfl, k, rfl, List.mem_cons_self ..⟩
    · rcases List.mem_cons.1 hm with rfl | hm
      · rcases hmod2 (fun e => { e with key := .int .i64 (m : Int), val := .bool true }) e0 (List.mem_of_getElem? q0) with r | ⟨_, r⟩
        · exact ⟨e0, r, qk⟩
        · exact ⟨_, r, rfl⟩
      · obtain ⟨e, r1, r2⟩ := h4 m hm
        rcases hmod2 (fun e => { e with key := .int .i64 (k : Int), val := .bool true }) e r1 with r | ⟨rfl, r⟩
        · exact ⟨e, r, r2⟩
        · refine ⟨_, r, ?_⟩
          rw [← qk]; exact r2
/-- it is asked -/
theorem UsedM.get (h : UsedM w b U) (t kt et : TypeId) (ht : Tryz.prog.underlying t = some (.map kt et)) (hk : Tryz.prog.underlying kt = some (.int .i64)) (k : Nat) {z : Value} (hz : (zeroValue et).run Tryz.prog w = .ok (.bool false) w) :
    (Instr.lookup t (.map (some b)) (.int .i64 (k : Int)) false).run Tryz.prog w = .ok (.bool (decide (k ∈ U))) w := by
  obtain ⟨ents, clock, h1, h2, h3, h4⟩ := h
  have hik : Ev.IsK true (.int .i64 (k : Int)) := ⟨_, _, rfl⟩
  rcases findNow_int (d := .int .i64) rfl k ents.toList 0 (fun e he => by obtain ⟨_, m, q, _⟩ := h3 e he; exact ⟨m, q⟩) with ⟨q1, q2⟩ | ⟨j, e0, q0, qk, q1⟩
  · rw [Ev.lookup_run (ok := false) (fn := none) ht hk rfl hik (.inr ⟨b, clock, ents, rfl, h1, rfl⟩) q1 hz]
    have : k ∉ U := fun hm => by obtain ⟨e, r1, r2⟩ := h4 k hm; exact q2 e r1 r2
    simp [this]
  · rw [Ev.lookup_run (ok := false) (fn := some (0 + j, e0.val)) ht hk rfl hik (.inr ⟨b, clock, ents, rfl, h1, rfl⟩) q1 hz]
    obtain ⟨p, m, r1, r2⟩ := h3 e0 (List.mem_of_getElem? q0)
    rw [qk] at r1
    have hkm : k = m := by have := (Value.int.inj r1).2; omega
    have : k ∈ U := by rw [hkm]; exact r2
    simp [this, p]
end
end Go.Proofs.YtcchekmejnhlmaaGreat
namespace Go.Proofs.YtcchekmejnhlmaaGreat
open Go.RowKit
set_option linter.unusedVariables false
theorem own_down {w : World} {base base' : Nat} {e : TypeId} {size n : Nat} {v : Value} {xs : List Value} (h : w.ownsRow base e size v n xs) (hb : base' ≤ base) : w.ownsRow base' e size v n xs :=
  ⟨h.1, by
    rcases h.2 with h0 | ⟨g, cap, cur, e1, e2, e3⟩
    · exact .inl h0
    · exact .inr ⟨g, cap, cur, e1, Nat.le_trans hb e2, e3⟩⟩
end Go.Proofs.YtcchekmejnhlmaaGreat
namespace Go.Proofs.YtcchekmejnhlmaaGreat
open Go.RowKit Go.ChangeMaps Go.MapKept
set_option linter.unusedVariables false
/-- the first n numbers from a on that are not in U, of m -/
def frL (U : List Nat) (n : Nat) : Nat → Nat → List Nat
  | _, 0 => []
  | a, m + 1 => match n with
    | 0 => []
    | n' + 1 => if a ∈ U then frL U (n' + 1) (a + 1) m else a :: frL U n' (a + 1) m
theorem frL_zero (U : List Nat) : ∀ a m, frL U 0 a m = []
  | _, 0 => rfl
  | _, _ + 1 => rfl
theorem frL_none (U : List Nat) (n a : Nat) : frL U n a 0 = [] := by cases n <;> rfl
theorem frL_in {U : List Nat} {n a m : Nat} (h : a ∈ U) : frL U (n + 1) a (m + 1) = frL U (n + 1) (a + 1) m := by
  show (if a ∈ U then _ else _) = _
  rw [if_pos h]
theorem frL_out {U : List Nat} {n a m : Nat} (h : a ∉ U) : frL U (n + 1) a (m + 1) = a :: frL U n (a + 1) m := by
  show (if a ∈ U then _ else _) = _
  rw [if_neg h]
theorem info_int_fr : (Tryz.prog.info? 3).map (fun i => (i.zero, i.size, i.bytes)) = some (some (.int .i64 0), 1, 8) := by kernel_rfl
/-- the blocks of the files that have been seen -/
def SeenB (bl : MapEntry → List Nat) (ents : Array MapEntry) (seen : Array Nat) (U : List Nat) : Prop := ∀ k, k ∈ U ↔ ∃ e ∈ ents.toList, seen.contains e.born = true ∧ k ∈ bl e
theorem SeenB.start (bl : MapEntry → List Nat) (ents : Array MapEntry) : SeenB bl ents #[] [] := fun k => ⟨fun h => (by cases h), fun ⟨e, _, h, _⟩ => (by simp at h)⟩
theorem SeenB.step {bl : MapEntry → List Nat} {ents : Array MapEntry} {clock : Nat} {seen : Array Nat} {U : List Nat} (h : SeenB bl ents seen U) (hs : Stamped ents clock) {e : MapEntry} (he : e ∈ ents.toList) {V : List Nat} (hV : ∀ k, k ∈ V ↔ k ∈ U ∨ k ∈ bl e) : SeenB bl ents (seen.push e.born) V := fun k => by
  rw [hV, h k]
  constructor
  · rintro (⟨x, h1, h2, h3⟩ | h1)
    · exact ⟨x, h1, by rw [urng_contains_push, h2]; rfl, h3⟩
    · exact ⟨e, he, by rw [urng_contains_push]; simp, h1⟩
  · rintro ⟨x, h1, h2, h3⟩
    rw [urng_contains_push, Bool.or_eq_true] at h2
    rcases h2 with h2 | h2
    · exact .inl ⟨x, h1, h2, h3⟩
    · have := URng.born hs h1 he (beq_iff_eq.1 h2)
      subst this
      exact .inr h3
/-- a file's blocks lie in memory -/
def FileBl (w : World) (v : Value) (l : List Nat) : Prop := ∃ (p q : Int) (A : Option Addr) (cap : Nat), v = .agg #[.int .i64 p, .int .u64 q, .slice A l.length cap] ∧ l.length ≤ 1000000 ∧ ∀ j (hj : j < l.length), ∃ g off, A = some ⟨g, off, none⟩ ∧ g < w.heap.size ∧ w.cell? ⟨g, off + j, none⟩ = some (.int .i64 (l[j] : Int)) ∧ l[j] < 4611686018427387904
theorem UsedM.lt {w : World} {b : Nat} {U : List Nat} (h : UsedM w b U) : b < w.heap.size := by
  obtain ⟨ents, clock, h1, _⟩ := h
  exact (Array.getElem?_eq_some_iff.1 h1).1
theorem below_grown {w0 w w' : World} {row : Option Nat} (hb : Below w0.heap.size w0 w) (hg : w.grownBy w' row) (hrow : ∀ k, row = some k → w0.heap.size ≤ k) : Below w0.heap.size w0 w' :=
  ⟨hg.os.trans hb.os, hg.tape.trans hb.tape, hg.output.trans hb.output, Nat.le_trans hb.size hg.size, fun k hk => (hg.block k (Nat.lt_of_lt_of_le hk hb.size) (fun e => by have := hrow k e.symm; omega)).trans (hb.block k hk)⟩
set_option maxRecDepth 100000 in
set_option maxHeartbeats 1000000 in
theorem u_free (bv bm clock first after n : Nat) (va : Array Value) (vel : TypeId) (vfz : Nat × Nat) (ents : Array MapEntry) (bl : MapEntry → List Nat) (w : World)
    (hv : w.heap[bv]? = some (.cells va vel vfz)) (hvs : 6 ≤ va.size) (h2 : va.getD 2 undef = .int .i64 (first : Int)) (h3 : va.getD 3 undef = .int .i64 (after : Int)) (h5 : va.getD 5 undef = .map (some bm))
    (hm : w.heap[bm]? = some (.map ents clock)) (hst : Stamped ents clock) (hes : ∀ e ∈ ents.toList, FileBl w e.val (bl e)) (ha : after < 4611686018427387904) (hn : n < 1000000) :
    Calls Tryz.prog 213 #[.pointer (some ⟨bv, 0, none⟩), .int .i64 (n : Int)] w fun e w' => ∃ (v : Value) (U : List Nat), e = .returned v ∧ (∀ k, k ∈ U ↔ ∃ e ∈ ents.toList, k ∈ bl e) ∧ w'.ownsRow w.heap.size 3 1 v (frL U n first (after - first)).length ((frL U n first (after - first)).map fun k : Nat => Value.int .i64 (k : Int)) ∧ Below w.heap.size w w' := by
  have hvt : bv < w.heap.size := (Array.getElem?_eq_some_iff.1 hv).1
  have hmt : bm < w.heap.size := (Array.getElem?_eq_some_iff.1 hm).1
  have cells : ∀ W : World, Below w.heap.size w W → W.cell? ⟨bv, 2, none⟩ = some (.int .i64 (first : Int)) ∧ W.cell? ⟨bv, 3, none⟩ = some (.int .i64 (after : Int)) ∧ W.cell? ⟨bv, 5, none⟩ = some (.map (some bm)) ∧ W.heap[bm]? = some (.map ents clock) := fun W h => by
    have hv' : W.heap[bv]? = some (.cells va vel vfz) := (h.block bv hvt).trans hv
    refine ⟨?_, ?_, ?_, (h.block bm hmt).trans hm⟩
    · rw [cell_getD hv' (by omega), h2]
    · rw [cell_getD hv' (by omega), h3]
    · rw [cell_getD hv' (by omega), h5]
  have b1 : Below w.heap.size w (w.alloc (.map #[] 0)) := (Below.refl _ w).alloc (Nat.le_refl _) _
  obtain ⟨_, _, c5, m1⟩ := cells _ b1
  have HU := Lib.hid (usedM_new (W := w))
  have HM := Lib.hid m1
  have HC := Lib.hid cells
  have HE := Lib.hid hes
  have Hb1 := Lib.hid b1
  clear hv hm cells h2 h3 h5 hes b1 m1
  have hmm : ∀ W : World, (Instr.makeMap 317 none).run Tryz.prog W = .ok (.map (some W.heap.size)) (W.alloc (.map #[] 0)) := fun W => run_makeMap _ _
  go_enter Tryz.func213, Tryz.ntmps213
  go_wp2_with fail
  refine wp_scope_straight ?_
  go_wp2_with (at_range; refine u_range rfl _ 177 3 179 rfl Tryz.underlying177 rfl HM.out hst ?_; intro w2 hrg hgr hs2; refine Hid.out ?_)
  have hb2 : Below w.heap.size w w2 := Hb1.out.trans (((fr_grown (S := fun _ => False) hgr (fun k hk _ => by cases hk)).below (fun _ _ q => q)).mono (by simp))
  have HU2 := Lib.hid (HU.out.kept (hgr.block w.heap.size (by simp) (by simp)))
  have Hb2 := Lib.hid hb2
  have es : (w.alloc (.map #[] 0)).heap.size = w.heap.size + 1 := by simp
  obtain ⟨r, hr⟩ : ∃ r, r = w.heap.size + 1 := ⟨_, rfl⟩
  rw [es] at hrg
  rw [← hr] at hrg ⊢
  have hrw : w.heap.size < r := by omega
  clear es
  have HRg := Lib.hid hrg
  clear hrg hgr hb2 hr hs2 HU HM Hb1 c5
  refine Lib.hid ?_
  go_wp2_with fail
  go_loopw [7, 9] (fun _ _ wr => ∃ (seen : Array Nat) (U : List Nat), Hid (URng wr bm r ents clock seen) ∧ Hid (UsedM wr w.heap.size U) ∧ Hid (SeenB bl ents seen U) ∧ Hid (Below w.heap.size w wr)) (fun _ _ wr => wr.rangeLeft bm r)
  case atStart => exact ⟨_, _, HRg, HU2, SeenB.start _ _, Hb2⟩
  case round =>
    obtain ⟨seen, U, hrg, hu, hse, hb⟩ := hrel
    go_wp2_with (at_next; refine u_next rfl _ rfl rfl hrg.out ?_ ?_)
    · refine Lib.hid ?_
      intro hall
      have hU : Hid (∀ k, k ∈ U ↔ ∃ e ∈ ents.toList, k ∈ bl e) := Lib.hid fun k => (hse.out k).trans ⟨fun ⟨e, h1, _, h3⟩ => ⟨e, h1, h3⟩, fun ⟨e, h1, h3⟩ => ⟨e, h1, by simpa using hall e (by simpa using h1), h3⟩⟩
      obtain ⟨c2, c3, _, _⟩ := HC.out wr hb.out
      clear hall hrg hse
      go_wp2_with fail
      go_step3
      obtain ⟨i0, hi, hz0, hz1, hz2⟩ := info_parts info_int_fr
      have hult := hu.out.lt
      obtain ⟨Wo, hWo⟩ : ∃ Wo, Wo = wr := ⟨wr, rfl⟩
      subst hWo
      go_wp2_with fail
      go_loopw [10, 11] (fun v i wq => ∃ (b : Nat) (O : List Nat), i = .int .i64 (b : Int) ∧ first ≤ b ∧ (b = first ∨ b ≤ after) ∧ O.length ≤ n ∧ Hid (frL U n first (after - first) = O ++ frL U (n - O.length) b (after - b)) ∧ Hid (wq.ownsRow Wo.heap.size 3 1 v O.length (O.map fun k : Nat => Value.int .i64 (k : Int))) ∧ Hid (Below Wo.heap.size Wo wq)) (fun _ i _ => after - (intOf i).toNat)
      case atStart => exact ⟨first, [], rfl, Nat.le_refl _, .inl rfl, Nat.zero_le _, Lib.hid (by simp), Lib.hid (own_nil _ _ _ _), Below.refl _ _⟩
      case round =>
        obtain ⟨b, O, rfl, hfb, hk, hOn, hO, HO, Hb⟩ := hrel
        obtain ⟨A, cp, rfl, _, _⟩ := own_slice HO.out
        have HO : Hid (wr.ownsRow Wo.heap.size 3 1 (.slice A O.length cp) O.length (O.map fun k : Nat => Value.int .i64 (k : Int))) := HO
        have Hbw := Lib.hid (hb.out.trans (Hb.out.mono hb.out.size))
        obtain ⟨c2, c3, _, _⟩ := HC.out wr Hbw.out
        have HUn := Lib.hid (hu.out.kept (Hb.out.block _ hult))
        by_cases hlt : b < after
        · have hlt' : (b : Int) < (after : Int) := by omega
          have hm : after - b = (after - (b + 1)) + 1 := by omega
          by_cases hfull : O.length = n
          · subst hfull
            have hO' : frL U O.length first (after - first) = O := by rw [hO.out, Nat.sub_self, frL_zero, List.append_nil]
            have hO2 := Lib.hid hO'
            clear hO' hO
            go_wp2_with fail
            show Exit.noGoto _ Exit.ret _ _
            simp only [Exit.noGoto]
            go_ret
            exact ⟨_, U, rfl, hU.out, by rw [hO2.out]; exact own_down HO.out hb.out.size, Hbw.out⟩
          · have hq : ((O.length : Int) == (n : Int)) = false := beq_eq_false_iff_ne.2 (by omega)
            have hn1 : n - O.length = (n - O.length - 1) + 1 := by omega
            have hget := HUn.out.get 317 3 4 Tryz.underlying317 Tryz.underlying3 b (z := .bool false) (by rfl)
            by_cases hin : b ∈ U
            · rw [decide_eq_true hin] at hget
              have hO3 : Hid (frL U n first (after - first) = O ++ frL U (n - O.length) (b + 1) (after - (b + 1))) := Lib.hid (by rw [hO.out, hm, hn1, frL_in hin])
              clear hO hn1 hfull
              go_wp2_with fail
              go_roundw
              case rel => exact ⟨b + 1, O, by go_num, by omega, by omega, hOn, hO3, HO, Hb⟩
              case measure => simp [intOf]; omega
            · rw [decide_eq_false hin] at hget
              have hO3 : Hid (frL U n first (after - first) = (O ++ [b]) ++ frL U (n - (O ++ [b]).length) (b + 1) (after - (b + 1))) := Lib.hid (by rw [hO.out, hm, hn1, frL_out hin, List.length_append, List.append_assoc, Nat.sub_add_eq]; rfl)
              have hOn2 : (O ++ [b]).length ≤ n := by simp; omega
              have hOl : O.length < 1000000 := by omega
              clear hO hn1 hfull
              have hbs := Hb.out.size
              go_wp2_with (at_builtin; refine wpList_push _ rfl _ _ 29 rfl Wo.heap.size 3 i0 _ 1 8 Tryz.underlying29 hi hz0 hz1 hz2 rfl (by decide) _ O.length _ (by rfl) HO.out [.int .i64 (b : Int)] (by rfl) rfl (by simp [Value.oneCell']) (by unfold maxLen; omega) (by omega) Wo Hb.out hbs ?_; intro v8 w8 hown8 hb8)
              obtain ⟨A8, c8, rfl, _, _⟩ := own_slice hown8
              have HO8 := Lib.hid hown8
              have Hb8 := Lib.hid hb8
              clear hown8 hb8
              go_wp2_with fail
              go_roundw
              case rel => exact ⟨b + 1, O ++ [b], by go_num, by omega, by omega, hOn2, hO3, by simpa using HO8, Hb8⟩
              case measure => simp [intOf]; omega
        · have hlt' : ¬ (b : Int) < (after : Int) := by omega
          have hO' : frL U n first (after - first) = O := by rw [hO.out, show after - b = 0 from by omega, frL_none, List.append_nil]
          have hO2 := Lib.hid hO'
          clear hO' hO
          go_wp2_with fail
          go_ret
          exact ⟨_, U, rfl, hU.out, by rw [hO2.out]; exact own_down HO.out hb.out.size, Hbw.out⟩
    · refine Lib.hid ?_
      intro e wn he hsen hrn hlt' hgn hsn hen
      have he : e ∈ ents.toList := by simpa using he
      obtain ⟨p, q, A, cap, hval, hLb, hbl⟩ := HE.out e he
      have hult : w.heap.size < wr.heap.size := hu.out.lt
      have hbn : Below w.heap.size w wn := below_grown hb.out hgn (fun k hk => by injection hk with hk; omega)
      have hun : UsedM wn w.heap.size U := hu.out.kept (hgn.block w.heap.size hult (by intro q; injection q with q; omega))
      rw [hval] at hen ⊢
      have HRn := Lib.hid hrn
      have Hun := Lib.hid hun
      have Hbn := Lib.hid hbn
      have Hbl := Lib.hid hbl
      have Hlt := Lib.hid hlt'
      have Hleft := Lib.hid hrg.out.left_eq
      clear hrn hun hbn hbl hlt' hgn hsn hrg hu hb hval
      have HRw := Lib.hid (HRn.out.kept (World.grownBy_alloc wn (.cells #[.int .i64 p, .int .u64 q, .slice A (bl e).length cap] 179) none) (by simp) (by simp))
      have HUw := Lib.hid (Hun.out.kept (w' := wn.alloc (.cells #[.int .i64 p, .int .u64 q, .slice A (bl e).length cap] 179)) ((MapKept.heap_alloc wn _).2 _ Hun.out.lt))
      have Hbw : Hid (Below w.heap.size w (wn.alloc (.cells #[.int .i64 p, .int .u64 q, .slice A (bl e).length cap] 179))) := Hbn.out.alloc Hbn.out.size _
      clear HRn Hun Hbn
      obtain ⟨sn, hsn⟩ : ∃ sn, sn = seen.push e.born := ⟨_, rfl⟩
      rw [← hsn] at HRw Hlt
      have Hsn := Lib.hid hsn
      clear hsn
      have HL : Hid (∃ L, (bl e).length = L) := ⟨_, rfl⟩
      obtain ⟨L, hL⟩ := HL.out
      rw [hL] at hen HRw HUw Hbw hLb ⊢
      have hL := Lib.hid hL
      go_wp2_with fail
      go_loopw [9, 25] (fun _ i wq => ∃ (k : Nat) (V : List Nat), k ≤ L ∧ i = .int .i64 (k : Int) ∧ Hid (URng wq bm r ents clock sn) ∧ Hid (UsedM wq w.heap.size V) ∧ Hid (∀ x, x ∈ V ↔ x ∈ U ∨ x ∈ (bl e).take k) ∧ Hid (Below w.heap.size w wq)) (fun _ i _ => L - (intOf i).toNat)
      case atStart => exact ⟨0, U, Nat.zero_le _, rfl, HRw, HUw, Lib.hid (by simp), Hbw⟩
      case round =>
        obtain ⟨k, V, hk, rfl, HR, HUq, HV, Hb⟩ := hrel
        by_cases hlt : k < L
        · obtain ⟨g, off, rfl, hg, hc, hx⟩ := Hbl.out k (by rw [hL.out]; exact hlt)
          have hcw := (Hb.out.cell (p := ⟨g, off + k, none⟩) hg).trans hc
          have hV2 : ∀ y, y ∈ (bl e)[k]'(by rw [hL.out]; exact hlt) :: V ↔ y ∈ U ∨ y ∈ (bl e).take (k + 1) := fun y => by
            rw [List.mem_cons, HV.out y, List.take_succ_eq_append_getElem (by rw [hL.out]; exact hlt), List.mem_append, List.mem_singleton]
            constructor
            · rintro (h | h | h)
              · exact .inr (.inr h)
              · exact .inl h
              · exact .inr (.inl h)
            · rintro (h | h | h)
              · exact .inr (.inl h)
              · exact .inr (.inr h)
              · exact .inl h
          generalize (bl e)[k]'(by rw [hL.out]; exact hlt) = x at hcw hx hV2
          obtain ⟨w', hrun, hU', hgr, hsz⟩ := HUq.out.put 317 3 4 Tryz.underlying317 Tryz.underlying3 x
          have HR' := Lib.hid (HR.out.kept hgr (fun q => by injection q with q; omega) (fun q => by injection q with q; omega))
          have HU' := Lib.hid hU'
          have Hb' := Lib.hid (below_grown Hb.out hgr (fun k hk => by injection hk with hk; omega))
          have HV' := Lib.hid hV2
          have hk2 : (k : Int) < (L : Int) := by omega
          have hk0 : (0 : Int) ≤ (k : Int) := by omega
          clear hU' hgr hV2 hsz HR HUq Hb HV hc
          go_wp2_with fail
          go_roundw
          case rel => exact ⟨k + 1, x :: V, by omega, by go_num, HR', HU', HV', Hb'⟩
          case measure => simp [intOf]; omega
        · obtain rfl : k = L := by omega
          have hk2 : ¬ (k : Int) < (k : Int) := by omega
          have hse' := Lib.hid (hse.out.step hst he (V := V) (fun x => by rw [HV.out x, ← hL.out, List.take_length]))
          rw [← Hsn.out] at hse'
          have HR' := Lib.hid HR.out.left_eq
          go_wp2_with fail
          go_roundw
          case rel => exact ⟨sn, V, HR, HUq, hse', Hb⟩
          case measure => rw [Hleft.out, HR'.out]; exact Hlt.out
end Go.Proofs.YtcchekmejnhlmaaGreat
namespace Go.Proofs.YtcchekmejnhlmaaGreat
open Go.RowKit Go.ChangeMaps Go.MapKept
set_option linter.unusedVariables false
theorem frL_congr {U V : List Nat} (h : ∀ k, k ∈ U ↔ k ∈ V) : ∀ (m n a : Nat), frL U n a m = frL V n a m
  | 0, n, a => by rw [frL_none, frL_none]
  | m + 1, 0, a => rfl
  | m + 1, n + 1, a => by
    by_cases c : a ∈ U
    · rw [frL_in c, frL_in ((h a).1 c), frL_congr h m]
    · rw [frL_out c, frL_out (fun q => c ((h a).2 q)), frL_congr h m]
theorem FileBl.one {w : World} {v : Value} {l l' : List Nat} (h : FileBl w v l) (h' : FileBl w v l') : l = l' := by
  obtain ⟨p, q, A, cap, e, _, hb⟩ := h
  obtain ⟨p', q', A', cap', e', _, hb'⟩ := h'
  rw [e] at e'
  have e' := Value.agg.inj e'
  have e3 : Value.slice A l.length cap = Value.slice A' l'.length cap' := by
    have := congrArg (fun a : Array Value => a[2]?) e'
    simpa using this
  have hA := (Value.slice.inj e3).1
  have hl := (Value.slice.inj e3).2.1
  refine List.ext_getElem hl fun j h1 h2 => ?_
  obtain ⟨g, off, a1, _, a2, _⟩ := hb j h1
  obtain ⟨g', off', b1, _, b2, _⟩ := hb' j h2
  rw [a1, b1] at hA
  have := Option.some.inj hA
  have hg : g = g' := (Addr.mk.inj this).1
  have ho : off = off' := (Addr.mk.inj this).2.1
  subst hg
  subst ho
  rw [a2] at b2
  have := (Value.int.inj (Option.some.inj b2)).2
  omega
namespace Ev
noncomputable section
def memB (k : Nat) (l : List Nat) : Bool := List.rec false (fun x _ ih => cnd (Nat.beq x k) true ih) l
theorem memB_iff {k : Nat} : ∀ {l : List Nat}, memB k l = true ↔ k ∈ l
  | [] => ⟨fun h => (by cases h), fun h => (by cases h)⟩
  | x :: l => by
    show cnd (Nat.beq x k) true (memB k l) = true ↔ _
    cases hb : Nat.beq x k with
    | true => simp [nbeq_eq hb]
    | false =>
      have := Nat.ne_of_beq_eq_false hb
      simp only [cnd_false, List.mem_cons, memB_iff (l := l)]
      exact ⟨.inr, fun q => q.resolve_left fun e => this e.symm⟩
/-- the first n free ones, reckoned -/
def frN (U : List Nat) (m : Nat) : Nat → Nat → List Nat := Nat.rec (motive := fun _ => Nat → Nat → List Nat) (fun _ _ => []) (fun _ ih n a => Nat.rec [] (fun n' _ => cnd (memB a U) (ih (Nat.succ n') (Nat.add a 1)) (a :: ih n' (Nat.add a 1))) n) m
theorem frN_eq (U : List Nat) : ∀ (m n a : Nat), frN U m n a = frL U n a m
  | 0, n, a => by rw [frL_none]; rfl
  | m + 1, 0, a => rfl
  | m + 1, n + 1, a => by
    show cnd (memB a U) (frN U m (n + 1) (a + 1)) (a :: frN U m n (a + 1)) = _
    cases hb : memB a U with
    | true => rw [frL_in (memB_iff.1 hb), cnd_true, frN_eq U m]
    | false =>
      have : a ∉ U := fun q => by rw [memB_iff.2 q] at hb; cases hb
      rw [frL_out this, cnd_false, frN_eq U m]
def natL : List Sc → Option (List Nat)
  | [] => some []
  | .i .i64 (.ofNat k) :: r => cnd (Nat.blt k 4611686018427387904) (match natL r with | some l => some (k :: l) | none => none) none
  | _ :: _ => none
/-- a slice's numbers, and that there are not too many -/
def blV (blk : Sc) (H : HT) : Option (List Nat) := match slRd 1 blk H with
  | some xs => cnd (Nat.ble xs.length 1000000) (natL xs) none
  | none => none
def flB (H : HT) : List (Sc × E) → Option (List Nat)
  | [] => some []
  | (_, .a [.i .i64 _, .i .u64 _, blk]) :: r => (match blV blk H, flB H r with | some l, some m => some (l ++ m) | _, _ => none)
  | _ :: _ => none
theorem natL_ok {G : Gh} : ∀ {xs : List Sc} {vs : List Value} {l : List Nat}, All2 (Sc.ok G) xs vs → natL xs = some l → vs = l.map (fun k : Nat => Value.int .i64 (k : Int)) ∧ ∀ k ∈ l, k < 4611686018427387904
  | _, _, l, .nil, h => by
    have h : some [] = some l := h
    cases h; exact ⟨rfl, fun k hk => by cases hk⟩
  | _ :: _, _ :: _, l, .cons (a := x) (b := v) hp hr, h => by
    unfold natL at h
    split at h
    · cases ‹_ :: _ = []›
    · rename_i k r heq
      cases heq
      obtain ⟨h1, h⟩ := cond_some h
      split at h
      · rename_i l' hl
        cases h
        obtain ⟨i1, i2⟩ := natL_ok hr hl
        refine ⟨?_, fun j hj => ?_⟩
        · have hp : v = .int .i64 (k : Int) := hp
          rw [hp, i1]; rfl
        · rcases List.mem_cons.1 hj with rfl | hj
          · exact blt_true h1
          · exact i2 j hj
      · cases h
    · cases h
theorem blV_ok {G : Gh} {H : HT} {w : World} (hR : R G (hp H) w) {blk : Sc} {a b : Int} {l : List Nat} (h : blV blk H = some l) {v c : Value} (hv : v = .agg #[.int .i64 a, .int .u64 b, c]) (hc : Sc.ok G blk c) : FileBl w v l := by
  unfold blV at h
  split at h
  · rename_i xs hxs
    obtain ⟨h1, h⟩ := cond_some h
    obtain ⟨A, n, cap, vs, rfl, hall, hr⟩ := slRd_ok hR hxs hc
    obtain ⟨i1, i2⟩ := natL_ok hall h
    have hn : n = l.length := by
      have := hr.1
      rw [i1, List.length_map] at this; omega
    subst hn
    refine ⟨a, b, A, cap, hv, ?_, fun j hj => ?_⟩
    · have := ble_true h1
      rw [hall.length, i1, List.length_map] at this
      exact this
    · obtain ⟨g, off, e1, e2, e3⟩ := hr.2 (by omega)
      refine ⟨g, off, e1, e2, e3 j _ ?_, i2 _ (List.getElem_mem hj)⟩
      rw [i1, List.getElem?_map, List.getElem?_eq_getElem hj]; rfl
  · cases h
theorem flB_ok {G : Gh} {H : HT} {w : World} (hR : R G (hp H) w) : ∀ {es : List (Sc × E)} {ents : List MapEntry} {U : List Nat}, All2 (KvOk G) es ents → flB H es = some U → (∀ e ∈ ents, ∃ l, FileBl w e.val l ∧ ∀ k ∈ l, k ∈ U) ∧ ∀ k ∈ U, ∃ e ∈ ents, ∃ l, FileBl w e.val l ∧ k ∈ l
  | _, _, U, .nil, h => by
    have h : some [] = some U := h
    cases h
    exact ⟨fun e he => (by cases he), fun k hk => (by cases hk)⟩
  | _ :: _, _ :: _, U, .cons (a := p) (b := e0) hp hr, h => by
    unfold flB at h
    split at h
    · cases ‹_ :: _ = []›
    · rename_i x1 x a b blk r heq
      cases heq
      split at h
      · rename_i l m hl hm
        cases h
        obtain ⟨arr, hv, ha⟩ : ∃ arr : Array Value, e0.val = .agg arr ∧ All2 (Sc.ok G) [.i .i64 a, .i .u64 b, blk] arr.toList := hp.2
        obtain ⟨arr⟩ := arr
        cases ha with
        | cons a1 ha =>
        cases ha with
        | cons a2 ha =>
        cases ha with
        | cons a3 ha =>
        cases ha
        have a1 : _ = Value.int .i64 a := a1
        have a2 : _ = Value.int .u64 b := a2
        subst a1
        subst a2
        have hf := blV_ok hR hl hv a3
        obtain ⟨i1, i2⟩ := flB_ok hR hr hm
        refine ⟨fun e he => ?_, fun k hk => ?_⟩
        · rcases List.mem_cons.1 he with rfl | he
          · exact ⟨l, hf, fun k hk => List.mem_append_left _ hk⟩
          · obtain ⟨l', q1, q2⟩ := i1 e he
            exact ⟨l', q1, fun k hk => List.mem_append_right _ (q2 k hk)⟩
        · rcases List.mem_append.1 hk with hk | hk
          · exact ⟨e0, List.mem_cons_self .., l, hf, hk⟩
          · obtain ⟨e, q1, q2⟩ := i2 k hk
            exact ⟨e, List.mem_cons_of_mem _ q1, q2⟩
      · cases h
    · cases h
def frR (l : List Nat) (H : HT) (n : Nat) : Rs := match l with
  | [] => .no
  | k :: l => cnd (and (Nat.blt n HB) (Nat.ble (k :: l).length 32768)) (.ok (.c (.su n 0 (k :: l).length (k :: l).length 1)) (hset H n (mkRow ((k :: l).map scN) true)) (Nat.add n 1)) .no
def frM (m first after mid : Nat) (H : HT) (n : Nat) : Rs :=
  cnd (and (Nat.blt mid HB) (and (Nat.blt after 4611686018427387904) (Nat.blt m 1000000))) (match hget H mid with
    | .mp es => (match flB H es with | some U => frR (frN U (Nat.sub after first) m first) H n | none => .no)
    | _ => .no) .no
def frA (m : Nat) (a b c : Sc) (H : HT) (n : Nat) : Rs := match a, b, c with
  | .i .i64 (.ofNat first), .i .i64 (.ofNat after), .m mid => frM m first after mid H n
  | _, _, _ => .no
def sFree (args : List V) (H : HT) (n : Nat) : Rs := match args with
  | [.c (.p id off), .c (.i .i64 (.ofNat m))] => cnd (and (Nat.beq off 0) (Nat.blt id HB)) (match hget H id with
    | .row k x dep d t => cnd (Nat.ble 6 k) (frA m (tget dep d t 2) (tget dep d t 3) (tget dep d t 5) H n) .no
    | _ => .no) .no
  | _ => .no
theorem frR_mono {l : List Nat} {H H' : HT} {n n' : Nat} {v : V} (h : frR l H n = .ok v H' n') : n ≤ n' := by
  unfold frR at h
  split at h
  · cases h
  · have q := cnd_ok h
    clear h
    obtain ⟨_, h⟩ := q
    cases h; exact Nat.le_succ _
theorem sFree_ok : SumOk1 Tryz.prog 213 sFree := by
  intro args H n v H' n' h
  unfold sFree at h
  split at h
  · rename_i id off m
    have q := cnd_ok h
    clear h
    obtain ⟨hb, h⟩ := q
    rw [Bool.and_eq_true] at hb
    have hoff := nbeq_eq hb.1
    have hid := blt_true hb.2
    subst hoff
    split at h
    · rename_i k x dep d t hob
      have q := cnd_ok h
      clear h
      obtain ⟨hk, h⟩ := q
      have hk := ble_true hk
      have hpid : hp H id = .row k x dep d t := (hp_get hid).trans hob
      unfold frA at h
      split at h
      · rename_i first after mid h2 h3 h5
        unfold frM at h
        have q := cnd_ok h
        clear h
        obtain ⟨hb, h⟩ := q
        rw [Bool.and_eq_true, Bool.and_eq_true] at hb
        have hmid := blt_true hb.1
        have haf := blt_true hb.2.1
        have hm := blt_true hb.2.2
        split at h
        · rename_i es hes
          have hpm : hp H mid = .mp es := (hp_get hmid).trans hes
          split at h
          · rename_i U hU
            refine ⟨frR_mono h, fun G w cargs hR ha hf => ?_⟩
            obtain ⟨c, c', rfl, hc, hc'⟩ := cargs2 ha
            obtain ⟨b, sz, hg, rfl⟩ := hc
            have hc' : c' = .int .i64 (m : Int) := hc'
            subst hc'
            obtain ⟨b', sz', ob, g1, k1, o1⟩ := hR.1 id (by rw [hpid]; exact fun q => by cases q)
            rw [hg] at g1; cases g1
            rw [hpid] at o1
            obtain ⟨va, vel, vfz, rfl, s1, s2, s3, s4, s5, s6⟩ := o1
            obtain ⟨bm, szm, om, gm, km, o3⟩ := hR.1 mid (by rw [hpm]; exact fun q => by cases q)
            rw [hpm] at o3
            obtain ⟨ents, clock, rfl, hst, hall⟩ := o3
            have v2 : va.getD 2 undef = .int .i64 (first : Int) := by have := s6 2 (by omega); rw [h2] at this; exact this
            have v3 : va.getD 3 undef = .int .i64 (after : Int) := by have := s6 3 (by omega); rw [h3] at this; exact this
            have v5 : va.getD 5 undef = .map (some bm) := by
              have := s6 5 (by omega)
              rw [h5] at this
              obtain ⟨b2, sz2, q1, q2⟩ := this
              rw [gm] at q1; cases q1
              exact q2
            obtain ⟨f1, f2⟩ := flB_ok hR hall hU
            classical
            obtain ⟨bl, hbl⟩ : ∃ bl : MapEntry → List Nat, ∀ e ∈ ents.toList, FileBl w e.val (bl e) ∧ ∀ k ∈ bl e, k ∈ U := by
              refine ⟨fun e => if he : e ∈ ents.toList then Classical.choose (f1 e he) else [], fun e he => ?_⟩
              have := Classical.choose_spec (f1 e he)
              simp only [dif_pos he]
              exact this
            rw [frN_eq] at h
            refine (u_free b bm clock first after m va vel vfz ents bl w k1 (by omega) v2 v3 v5 km hst (fun e he => (hbl e he).1) haf hm).mono ?_
            rintro e w' ⟨v', U', rfl, hU', hrow, hbw⟩
            have hmem : ∀ k, k ∈ U' ↔ k ∈ U := fun k => by
              rw [hU' k]
              constructor
              · rintro ⟨e, he, hk⟩
                exact (hbl e he).2 k hk
              · intro hk
                obtain ⟨e, he, l, q1, q2⟩ := f2 k hk
                exact ⟨e, he, by rw [(hbl e he).1.one q1]; exact q2⟩
            rw [frL_congr hmem] at hrow
            have hrow : w'.ownsRow w.heap.size 3 1 v' (frL U m first (Nat.sub after first)).length ((frL U m first (Nat.sub after first)).map fun k : Nat => Value.int .i64 (k : Int)) := hrow
            generalize frL U m first (Nat.sub after first) = L at h hrow
            unfold frR at h
            split at h
            · cases h
            · rename_i k0 l0
              have q := cnd_ok h
              clear h
              obtain ⟨hb3, h⟩ := q
              rw [Bool.and_eq_true] at hb3
              have hn := blt_true hb3.1
              have hl := ble_true hb3.2
              cases h
              obtain ⟨G', r1, r2, r3⟩ := stp_own (xs := (k0 :: l0).map scN) hR hbw hn (hf n (Nat.le_refl _) (Nat.lt_succ_self _)) (by simpa using hl) hrow (by simp) (fun G' _ => All2.of_get _ _ (by simp) fun i h1 h2 => by simp only [List.getElem_map]; rfl)
              exact ⟨_, G', rfl, r1, r3⟩
          · cases h
        · cases h
      · cases h
    · cases h
  · cases h
end
end Ev
end Go.Proofs.YtcchekmejnhlmaaGreat
namespace Go.Proofs.YtcchekmejnhlmaaGreat
namespace Ev
open Go.RowKit
noncomputable section
set_option linter.unusedVariables false
theorem arr_lit (a : Array Value) : a = ((List.range a.size).map fun i => a.getD i undef).toArray := by
  apply Array.ext
  · simp
  · intro i h1 h2
    simp [h1]
end
end Ev
end Go.Proofs.YtcchekmejnhlmaaGreat
namespace Go.Proofs.YtcchekmejnhlmaaGreat
open Go.RowKit Go.ChangeMaps Go.MapKept
set_option linter.unusedVariables false
/-- the sum over the entries that have come -/
def seenSum (f : MapEntry → Nat) (seen : Array Nat) (l : List MapEntry) : Nat := (l.map fun e => if seen.contains e.born then f e else 0).sum
theorem seenSum_none (f : MapEntry → Nat) (l : List MapEntry) : seenSum f #[] l = 0 := by
  unfold seenSum
  induction l with
  | nil => rfl
  | cons x l ih => rw [List.map_cons, List.sum_cons, ih]; simp
theorem seenSum_other (f : MapEntry → Nat) (seen : Array Nat) (b : Nat) : ∀ l : List MapEntry, (∀ e ∈ l, e.born ≠ b) → seenSum f (seen.push b) l = seenSum f seen l
  | [], _ => rfl
  | x :: l, h => by
    have ih := seenSum_other f seen b l fun e he => h e (List.mem_cons_of_mem _ he)
    unfold seenSum at ih ⊢
    rw [List.map_cons, List.sum_cons, List.map_cons, List.sum_cons, ih, urng_contains_push]
    have : (x.born == b) = false := beq_eq_false_iff_ne.2 (h x (List.mem_cons_self ..))
    rw [this, Bool.or_false]
theorem seenSum_push (f : MapEntry → Nat) (seen : Array Nat) {e : MapEntry} : ∀ l : List MapEntry, (l.map (·.born)).Nodup → e ∈ l → seen.contains e.born = false → seenSum f (seen.push e.born) l = seenSum f seen l + f e
  | [], _, he, _ => by cases he
  | x :: l, hn, he, hs => by
    rw [List.map_cons, List.nodup_cons] at hn
    have e1 : ∀ s : Array Nat, seenSum f s (x :: l) = (if s.contains x.born then f x else 0) + seenSum f s l := fun s => by
      unfold seenSum; rw [List.map_cons, List.sum_cons]
    rw [e1, e1]
    rcases List.mem_cons.1 he with rfl | he
    · rw [seenSum_other f seen e.born l fun y hy q => hn.1 (by rw [← q]; exact List.mem_map.2 ⟨y, hy, rfl⟩), urng_contains_push, hs]
      simp; omega
    · have hne : x.born ≠ e.born := fun q => hn.1 (by rw [q]; exact List.mem_map.2 ⟨e, he, rfl⟩)
      have : (x.born == e.born) = false := beq_eq_false_iff_ne.2 hne
      rw [seenSum_push f seen l hn.2 he hs, urng_contains_push, this, Bool.or_false]
      omega
theorem seenSum_all (f : MapEntry → Nat) (seen : Array Nat) : ∀ l : List MapEntry, (∀ e ∈ l, seen.contains e.born = true) → seenSum f seen l = (l.map f).sum
  | [], _ => rfl
  | x :: l, h => by
    have ih := seenSum_all f seen l fun e he => h e (List.mem_cons_of_mem _ he)
    unfold seenSum at ih ⊢
    rw [List.map_cons, List.sum_cons, List.map_cons, List.sum_cons, ih, h x (List.mem_cons_self ..), if_pos rfl]
theorem seenSum_le (f : MapEntry → Nat) (seen : Array Nat) : ∀ l : List MapEntry, seenSum f seen l ≤ (l.map f).sum
  | [] => Nat.le_refl _
  | x :: l => by
    have ih := seenSum_le f seen l
    unfold seenSum at ih ⊢
    rw [List.map_cons, List.sum_cons, List.map_cons, List.sum_cons]
    split <;> omega
/-- a file's place in the table: its size is a number -/
def FileN (v : Value) (sz : Nat) : Prop := ∃ (q : Int) (A : Option Addr) (l cap : Nat), v = .agg #[.int .i64 (sz : Int), .int .u64 q, .slice A l cap]
noncomputable def cL' (c : Code) : Code := match c with | .seq a _ => a | c => c
noncomputable def cR' (c : Code) : Code := match c with | .seq _ b => b | c => c
noncomputable def putBody : Code := (Tryz.f155).body.getD .skip
noncomputable def putLoop : Code := cL' (cR' (cR' (cR' putBody)))
noncomputable def putRest : Code := cR' (cR' (cR' (cR' putBody)))
set_option maxRecDepth 100000 in
set_option maxHeartbeats 2000000 in
theorem put_loop (Q : Exit → Act → World → Prop) (ds) (x1 x2 x4 x6 x7 x8 x9 x10 x11 x12 x13 x14 x15 x16 x17 x18 x19 x20 x21 x22 x23 x24 x25 x26 x27 x28 x29 x30 x31 x32 x33 x34 x35 x36 x37 x38 x39 x40 x41 x42 x43 x44 x45 x46 x47 x48 x49 x50 x51 x52 x53 x54 x55 x56 x57 x58 x59 x60 x61 x62 x63 x64 x65 x66 x67 x68 x69 x70 x71 x72 x73 x74 x75 x76 x77 x78 x79 x80 x81 x82 x83 x84 x85 x86 x87 x88 x89 x90 x91 x92 x93 x94 x95 x96 x97 x98 x99 x100 x101 x102 x103 x104 x105 x106 x107 x108 x109 x110 : Value) (bv bm bx clock rng tot : Nat) (xa va : Array Value) (xel vel : TypeId) (xfz vfz : Nat × Nat) (ents : Array MapEntry) (kf sz : MapEntry → Nat) (fS : MapEntry → Nat) (w : World)
    (hbx : w.heap[bx]? = some (.cells xa xel xfz)) (hxs : 1 ≤ xa.size) (hx0 : xa.getD 0 undef = .int .i64 (rng : Int))
    (hv : w.heap[bv]? = some (.cells va vel vfz)) (hvs : 6 ≤ va.size) (h5 : va.getD 5 undef = .map (some bm))
    (hm : w.heap[bm]? = some (.map ents clock)) (hst : Stamped ents clock) (hes : ∀ e ∈ ents.toList, e.key = .int .i64 (kf e : Int) ∧ FileN e.val (sz e)) (hfS : ∀ e ∈ ents.toList, fS e = if kf e = rng then 0 else sz e + 64) (ht : tot ≤ 1000000000) (hsum : (ents.toList.map fS).sum ≤ 1000000000)
    (hQ : ∀ (y6 y7 y34 y35 y36 y37 y38 y39 y41 y42 y43 y44 y45 y46 y47 y48 y49 y50 y51 y52 : Value) (w' : World), (ents.toList = [] ∧ y6 = x6 ∧ y7 = x7 ∧ y47 = x47) ∨ (ents.toList ≠ [] ∧ y6.oneCell' = true ∧ y7.oneCell' = true ∧ y47.oneCell' = true) → y38.oneCell' = true → Below w.heap.size w w' → Q .normal { tmps := #[.pointer (some ⟨bv, 0, none⟩), x1, x2, .pointer (some ⟨bx, 0, none⟩), x4, .int .i64 ((tot + (ents.toList.map fS).sum : Nat) : Int), y6, y7, x8, x9, x10, x11, x12, x13, x14, x15, x16, x17, x18, x19, x20, x21, x22, x23, x24, x25, x26, x27, x28, x29, x30, x31, x32, x33, y34, y35, y36, y37, y38, y39, .bool false, y41, y42, y43, y44, y45, y46, y47, y48, y49, y50, y51, y52, x53, x54, x55, x56, x57, x58, x59, x60, x61, x62, x63, x64, x65, x66, x67, x68, x69, x70, x71, x72, x73, x74, x75, x76, x77, x78, x79, x80, x81, x82, x83, x84, x85, x86, x87, x88, x89, x90, x91, x92, x93, x94, x95, x96, x97, x98, x99, x100, x101, x102, x103, x104, x105, x106, x107, x108, x109, x110], defers := ds } w') :
    putLoop.wp Tryz.prog Q { tmps := #[.pointer (some ⟨bv, 0, none⟩), x1, x2, .pointer (some ⟨bx, 0, none⟩), x4, .int .i64 (tot : Int), x6, x7, x8, x9, x10, x11, x12, x13, x14, x15, x16, x17, x18, x19, x20, x21, x22, x23, x24, x25, x26, x27, x28, x29, x30, x31, x32, x33, x34, x35, x36, x37, x38, x39, x40, x41, x42, x43, x44, x45, x46, x47, x48, x49, x50, x51, x52, x53, x54, x55, x56, x57, x58, x59, x60, x61, x62, x63, x64, x65, x66, x67, x68, x69, x70, x71, x72, x73, x74, x75, x76, x77, x78, x79, x80, x81, x82, x83, x84, x85, x86, x87, x88, x89, x90, x91, x92, x93, x94, x95, x96, x97, x98, x99, x100, x101, x102, x103, x104, x105, x106, x107, x108, x109, x110], defers := ds } w := by
  have hxt : bx < w.heap.size := (Array.getElem?_eq_some_iff.1 hbx).1
  have hvt : bv < w.heap.size := (Array.getElem?_eq_some_iff.1 hv).1
  have hmt : bm < w.heap.size := (Array.getElem?_eq_some_iff.1 hm).1
  have cells : ∀ W : World, Below w.heap.size w W → W.cell? ⟨bx, 0, none⟩ = some (.int .i64 (rng : Int)) := fun W h => by
    rw [cell_getD ((h.block bx hxt).trans hbx) (by omega), hx0]
  have c5 : w.cell? ⟨bv, 5, none⟩ = some (.map (some bm)) := by rw [cell_getD hv (by omega), h5]
  have HC := Lib.hid cells
  have HE := Lib.hid hes
  have HF := Lib.hid hfS
  have HQ := Lib.hid hQ
  clear hbx hxs hx0 cells hes hfS hv hvs h5 hQ
  unfold putLoop putBody
  simp only [Tryz.f155, cL', cR', Option.getD_some]
  go_wp2_with (at_range; refine u_range rfl _ 177 3 179 rfl Tryz.underlying177 rfl hm hst ?_; intro w2 hrg hgr hs2; refine Hid.out ?_)
  have hb2 : Below w.heap.size w w2 := below_grown (Below.refl _ w) hgr (fun k hk => by cases hk)
  obtain ⟨r, hr⟩ : ∃ r, r = w.heap.size := ⟨_, rfl⟩
  rw [← hr] at hrg ⊢
  have hrw : w.heap.size ≤ r := by omega
  have HRg := Lib.hid hrg
  have Hb2 := Lib.hid hb2
  have Hhr := Lib.hid hr
  clear hrg hgr hb2 hr hs2 c5 hm
  refine Lib.hid ?_
  have HL := Lib.hid (show seenSum fS #[] ents.toList = 0 from seenSum_none _ _)
  obtain ⟨one, hone⟩ : ∃ one : Value → Value → Value → Array Nat → Prop, one = fun a b c seen => (seen = #[] ∧ a = x6 ∧ b = x7 ∧ c = x47) ∨ (ents.toList ≠ [] ∧ a.oneCell' = true ∧ b.oneCell' = true ∧ c.oneCell' = true) := ⟨_, rfl⟩
  have Hone := Lib.hid hone
  clear hone
  go_wp2_with fail
  go_loopw [5, 6, 7, 47] (fun i a b c wr => ∃ seen : Array Nat, i = .int .i64 ((tot + seenSum fS seen ents.toList : Nat) : Int) ∧ Hid (one a b c seen) ∧ Hid (URng wr bm r ents clock seen) ∧ Hid (Below w.heap.size w wr)) (fun _ _ _ _ wr => wr.rangeLeft bm r)
  case atStart => exact ⟨#[], by rw [HL.out]; rfl, Lib.hid (by rw [Hone.out]; exact .inl ⟨rfl, rfl, rfl, rfl⟩), HRg, Hb2⟩
  case round =>
    obtain ⟨seen, rfl, hon, hrg, hb⟩ := hrel
    go_wp2_with (at_next; refine u_next rfl _ rfl rfl hrg.out ?_ ?_)
    · refine Lib.hid ?_
      intro hall
      have htot : Hid (seenSum fS seen ents.toList = (ents.toList.map fS).sum) := Lib.hid (seenSum_all fS seen ents.toList fun e he => by simpa using hall e (by simpa using he))
      have hnone : Hid (seen = #[] → ents.toList = []) := Lib.hid fun h => by
        subst h
        cases hl : ents.toList with
        | nil => rfl
        | cons x l => have := hall x (by simpa using (show x ∈ ents.toList by rw [hl]; exact List.mem_cons_self ..)); simp at this
      clear hall
      go_wp2_with fail
      rw [← Int.natCast_add, htot.out]
      have hon' := hon.out
      rw [Hone.out] at hon'
      exact HQ.out _ _ _ _ _ _ _ _ _ _ _ _ _ _ _ _ _ _ _ _ wr (hon'.imp (fun ⟨h1, h2⟩ => ⟨hnone.out h1, h2⟩) (fun h => h)) rfl hb.out
    · refine Lib.hid ?_
      intro e wn he hsen hrn hlt' hgn hsn hen
      have he : e ∈ ents.toList := by simpa using he
      obtain ⟨hkey, q, A, l, cap, hval⟩ := HE.out e he
      have hbn : Below w.heap.size w wn := below_grown hb.out hgn (fun k hk => by injection hk with hk; omega)
      rw [hkey, hval] at hen ⊢
      have hsv : seen.contains e.born = false := by simpa using hsen
      have hpush := Lib.hid (seenSum_push fS seen ents.toList (((stamped_iff ents clock).1 hst).2.1) he hsv)
      have hle := seenSum_le fS (seen.push e.born) ents.toList
      have hfe := Lib.hid (HF.out e he)
      have HRn := Lib.hid hrn
      have Hbn := Lib.hid hbn
      have Hlt := Lib.hid hlt'
      have Hleft := Lib.hid hrg.out.left_eq
      clear hrn hbn hlt' hgn hsn hrg hb hval hkey hsen hsv
      have HRw := Lib.hid (HRn.out.kept (World.grownBy_alloc wn (.cells #[.int .i64 (sz e : Int), .int .u64 q, .slice A l cap] 179) none) (by simp) (by simp))
      have hbw : Below w.heap.size w (wn.alloc (.cells #[.int .i64 (sz e : Int), .int .u64 q, .slice A l cap] 179)) := Hbn.out.alloc Hbn.out.size _
      have hcx := HC.out _ hbw
      have Hbw := Lib.hid hbw
      clear hbw HRn Hbn
      obtain ⟨sn, hsn⟩ : ∃ sn, sn = seen.push e.born := ⟨_, rfl⟩
      rw [← hsn] at HRw Hlt hpush hle
      have Hsn := Lib.hid hsn
      have honn := Lib.hid (show ∀ a b c : Value, a.oneCell' = true → b.oneCell' = true → c.oneCell' = true → one a b c sn from fun a b c h1 h2 h3 => by rw [Hone.out]; exact .inr ⟨fun q => (by rw [q] at he; cases he), h1, h2, h3⟩)
      clear hsn
      by_cases hk : kf e = rng
      · have hkb : ((kf e : Int) != (rng : Int)) = false := by rw [hk]; simp
        have hS : Hid (seenSum fS sn ents.toList = seenSum fS seen ents.toList) := Lib.hid (by rw [hpush.out, hfe.out, if_pos hk]; rfl)
        clear hk
        go_wp2_with fail
        exact ⟨⟨sn, by rw [hS.out]; rfl, Lib.hid (honn.out _ _ _ rfl rfl rfl), HRw, Hbw⟩, by rw [Hleft.out, HRw.out.left_eq]; exact Hlt.out⟩
      · have hkb : ((kf e : Int) != (rng : Int)) = true := by simp; omega
        have hS : Hid (seenSum fS sn ents.toList = seenSum fS seen ents.toList + (sz e + 64)) := Lib.hid (by rw [hpush.out, hfe.out, if_neg hk])
        clear hk
        have hsz : sz e ≤ 1000000000 := by have := hS.out; omega
        have hs0 : seenSum fS seen ents.toList + (sz e + 64) ≤ 1000000000 := by have := hS.out; omega
        go_wp2_with fail
        exact ⟨⟨sn, by rw [hS.out]; congr 1; push_cast; omega, Lib.hid (honn.out _ _ _ rfl rfl rfl), HRw, Hbw⟩, by rw [Hleft.out, HRw.out.left_eq]; exact Hlt.out⟩
set_option maxRecDepth 100000 in
theorem put_act (tm : Array Value) (h : tm.size = 111) : tm = #[tm.getD 0 undef, tm.getD 1 undef, tm.getD 2 undef, tm.getD 3 undef, tm.getD 4 undef, tm.getD 5 undef, tm.getD 6 undef, tm.getD 7 undef, tm.getD 8 undef, tm.getD 9 undef, tm.getD 10 undef, tm.getD 11 undef, tm.getD 12 undef, tm.getD 13 undef, tm.getD 14 undef, tm.getD 15 undef, tm.getD 16 undef, tm.getD 17 undef, tm.getD 18 undef, tm.getD 19 undef, tm.getD 20 undef, tm.getD 21 undef, tm.getD 22 undef, tm.getD 23 undef, tm.getD 24 undef, tm.getD 25 undef, tm.getD 26 undef, tm.getD 27 undef, tm.getD 28 undef, tm.getD 29 undef, tm.getD 30 undef, tm.getD 31 undef, tm.getD 32 undef, tm.getD 33 undef, tm.getD 34 undef, tm.getD 35 undef, tm.getD 36 undef, tm.getD 37 undef, tm.getD 38 undef, tm.getD 39 undef, tm.getD 40 undef, tm.getD 41 undef, tm.getD 42 undef, tm.getD 43 undef, tm.getD 44 undef, tm.getD 45 undef, tm.getD 46 undef, tm.getD 47 undef, tm.getD 48 undef, tm.getD 49 undef, tm.getD 50 undef, tm.getD 51 undef, tm.getD 52 undef, tm.getD 53 undef, tm.getD 54 undef, tm.getD 55 undef, tm.getD 56 undef, tm.getD 57 undef, tm.getD 58 undef, tm.getD 59 undef, tm.getD 60 undef, tm.getD 61 undef, tm.getD 62 undef, tm.getD 63 undef, tm.getD 64 undef, tm.getD 65 undef, tm.getD 66 undef, tm.getD 67 undef, tm.getD 68 undef, tm.getD 69 undef, tm.getD 70 undef, tm.getD 71 undef, tm.getD 72 undef, tm.getD 73 undef, tm.getD 74 undef, tm.getD 75 undef, tm.getD 76 undef, tm.getD 77 undef, tm.getD 78 undef, tm.getD 79 undef, tm.getD 80 undef, tm.getD 81 undef, tm.getD 82 undef, tm.getD 83 undef, tm.getD 84 undef, tm.getD 85 undef, tm.getD 86 undef, tm.getD 87 undef, tm.getD 88 undef, tm.getD 89 undef, tm.getD 90 undef, tm.getD 91 undef, tm.getD 92 undef, tm.getD 93 undef, tm.getD 94 undef, tm.getD 95 undef, tm.getD 96 undef, tm.getD 97 undef, tm.getD 98 undef, tm.getD 99 undef, tm.getD 100 undef, tm.getD 101 undef, tm.getD 102 undef, tm.getD 103 undef, tm.getD 104 undef, tm.getD 105 undef, tm.getD 106 undef, tm.getD 107 undef, tm.getD 108 undef, tm.getD 109 undef, tm.getD 110 undef] := by
  have := Ev.arr_lit tm
  rw [h] at this
  exact this
end Go.Proofs.YtcchekmejnhlmaaGreat
namespace Go.Proofs.YtcchekmejnhlmaaGreat
open Go.RowKit
set_option linter.unusedVariables false
theorem pt3_of {w : World} {h : Nat} {n : ByteArray} {t v : Int} (hP : Blk w h 46 #[.string n, .int .i64 t, .int .i64 v]) :
    w.cell? ⟨h, 0, none⟩ = some (.string n) ∧ w.cell? ⟨h, 1, none⟩ = some (.int .i64 t) ∧ w.cell? ⟨h, 2, none⟩ = some (.int .i64 v) := ⟨hP.cell 0, hP.cell 1, hP.cell 2⟩
theorem pt_cells {w wr : World} {B b off k : Nat} {ps : List Pt.Point} (hlt : k < ps.length) (hc : ∀ j u, (ps.flatMap pointCells)[j]? = some u → w.cell? ⟨b, off + j, none⟩ = some u) (hk : ∀ p : Addr, p.block < B → wr.cell? p = w.cell? p) (hb : b < B) :
    wr.cell? ⟨b, off + k * 3, none⟩ = some (.string ps[k].1) ∧ wr.cell? ⟨b, off + k * 3 + 1, none⟩ = some (.int .i64 ps[k].2.1) ∧ wr.cell? ⟨b, off + k * 3 + 2, none⟩ = some (.int .i64 ps[k].2.2) := by
  refine ⟨?_, ?_, ?_⟩
  · rw [hk ⟨b, _, none⟩ hb]; have := hc (k * 3 + 0) (.string ps[k].1) (by rw [flat_at pointCells 3 (fun _ => rfl) ps k 0 hlt (by omega)]; rfl); rwa [← Nat.add_assoc] at this
  · rw [hk ⟨b, _, none⟩ hb]; have := hc (k * 3 + 1) (.int .i64 ps[k].2.1) (by rw [flat_at pointCells 3 (fun _ => rfl) ps k 1 hlt (by omega)]; rfl); rwa [← Nat.add_assoc] at this
  · rw [hk ⟨b, _, none⟩ hb]; have := hc (k * 3 + 2) (.int .i64 ps[k].2.2) (by rw [flat_at pointCells 3 (fun _ => rfl) ps k 2 hlt (by omega)]; rfl); rwa [← Nat.add_assoc] at this
end Go.Proofs.YtcchekmejnhlmaaGreat
