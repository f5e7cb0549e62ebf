/- Joined texts: TpMay2, EvP3, EvRoot. -/
import Derived.Test.YtcchekmejnhlmaaGreatK4
import Derived.Test.YtcchekmejnhlmaaGreatK5
/- Top: message.who and message.May, at the kinds that TopBusy's run sends. -/
namespace Go.Proofs.YtcchekmejnhlmaaGreat
open Go.RowKit
set_option linter.unusedVariables false

def Tp.Msg.fld (m : Tp.Msg) : Nat → Int
  | 0 => m.view | 1 => m.normal | 2 => m.at_ | 3 => m.commit | 4 => m.round | 5 => m.client | 6 => m.session | 7 => m.number | 8 => m.code | 9 => m.agg | _ => m.until_
def Tp.K.clientFrom : Tp.K → Bool
  | .req => true | _ => false
def Tp.K.clientTo : Tp.K → Bool
  | .rep => true | _ => false
def Tp.whoOk (c : Bool) (x : Int) : Prop := if c then 100 ≤ x ∧ x < 108 else 0 ≤ x ∧ x < 7
structure Tp.Ok (q : Tp.K) (m : Tp.Msg) : Prop where
  kind : m.kind = q.num
  frm : Tp.whoOk q.clientFrom m.frm
  to : Tp.whoOk q.clientTo m.to
  has : ∀ k : Nat, k < 11 → (k : Int) ∉ q.flds → m.fld k = 0
  low : ∀ k : Nat, k < 11 → q.low k ≤ m.fld k
  high : ∀ k : Nat, k < 11 → m.fld k ≤ Tp.high k
theorem Tp.K.fld_at (q : Tp.K) (k : Nat) (hk : k < q.flds.length) : ∃ j : Nat, q.flds[k] = (j : Int) ∧ j < 15 := by
  cases q
  · rcases (by simp [Tp.K.flds] at hk; omega : k = 0 ∨ k = 1 ∨ k = 2) with rfl | rfl | rfl
    · exact ⟨6, rfl, by omega⟩
    · exact ⟨7, rfl, by omega⟩
    · exact ⟨12, rfl, by omega⟩
  · rcases (by simp [Tp.K.flds] at hk; omega : k = 0 ∨ k = 1 ∨ k = 2 ∨ k = 3) with rfl | rfl | rfl | rfl
    · exact ⟨6, rfl, by omega⟩
    · exact ⟨7, rfl, by omega⟩
    · exact ⟨8, rfl, by omega⟩
    · exact ⟨2, rfl, by omega⟩
  · rcases (by simp [Tp.K.flds] at hk; omega : k = 0 ∨ k = 1 ∨ k = 2 ∨ k = 3 ∨ k = 4 ∨ k = 5 ∨ k = 6) with rfl | rfl | rfl | rfl | rfl | rfl | rfl
    · exact ⟨0, rfl, by omega⟩
    · exact ⟨2, rfl, by omega⟩
    · exact ⟨3, rfl, by omega⟩
    · exact ⟨5, rfl, by omega⟩
    · exact ⟨6, rfl, by omega⟩
    · exact ⟨7, rfl, by omega⟩
    · exact ⟨12, rfl, by omega⟩
  · rcases (by simp [Tp.K.flds] at hk; omega : k = 0 ∨ k = 1) with rfl | rfl
    · exact ⟨0, rfl, by omega⟩
    · exact ⟨2, rfl, by omega⟩
theorem reads1_cell {w : World} {B b n : Nat} {xs : List Value} {k : Nat} {u : Value} (h : Reads w B 1 (some ⟨b, 0, none⟩) n xs) (hk : k < n) (hu : xs[k]? = some u) : w.cell? ⟨b, k, none⟩ = some u := by
  obtain ⟨b', off, e, hb, hc⟩ := h.2 (by omega)
  injection e with e
  injection e with e1 e2 e3
  subst e1 e2
  have := hc k u hu
  rwa [Nat.zero_add] at this
/-- the array 'has' behind the first fields of a kind -/
def Tp.hasL (fs : List Int) : Array Value := ((List.range 15).map fun j : Nat => Value.bool (decide ((j : Int) ∈ fs))).toArray
theorem Tp.hasL_nil : Tp.hasL [] = #[.bool false, .bool false, .bool false, .bool false, .bool false, .bool false, .bool false, .bool false, .bool false, .bool false, .bool false, .bool false, .bool false, .bool false, .bool false] := by rfl
theorem Tp.hasL_at (fs : List Int) (j : Nat) (hj : j < 15) : (Tp.hasL fs)[j]? = some (.bool (decide ((j : Int) ∈ fs))) := by simp [Tp.hasL, hj]
theorem Tp.hasL_put (fs : List Int) (j : Nat) (hj : j < 15) : (Tp.hasL fs).setIfInBounds j (.bool true) = Tp.hasL (fs ++ [(j : Int)]) := by
  apply Array.ext_getElem?
  intro i
  rw [Array.getElem?_setIfInBounds]
  by_cases h : j = i
  · subst h
    rw [if_pos rfl, Tp.hasL_at _ _ hj, if_pos (by simpa [Tp.hasL] using hj)]
    simp
  · rw [if_neg h]
    by_cases hi : i < 15
    · rw [Tp.hasL_at _ _ hi, Tp.hasL_at _ _ hi]
      have : ((i : Int) ∈ fs ++ [(j : Int)]) ↔ (i : Int) ∈ fs := by simp; omega
      simp [this]
    · have l : ∀ fs, (Tp.hasL fs).size = 15 := fun _ => by simp [Tp.hasL]
      rw [Array.getElem?_eq_none (by rw [l]; omega), Array.getElem?_eq_none (by rw [l]; omega)]
section
variable {w : World}
set_option maxRecDepth 100000 in
set_option maxHeartbeats 2000000 in
theorem who_any (q : Tp.K) (m : Tp.Msg) (h : Tp.Ok q m) (g : Nat) (hB : Blk w g 39 (Tp.msgCells m).toArray) : Calls Tryz.prog 82 #[.pointer (some ⟨g, 0, none⟩)] w fun e w' => e = .returned (.bool true) ∧ w = w' := by
  have c0 : w.cell? ⟨g, 0, none⟩ = some (.int .i64 m.kind) := (hB.cell 0).trans rfl
  have c1 : w.cell? ⟨g, 1, none⟩ = some (.int .i64 m.frm) := (hB.cell 1).trans rfl
  have c2 : w.cell? ⟨g, 2, none⟩ = some (.int .i64 m.to) := (hB.cell 2).trans rfl
  rw [h.kind] at c0
  have hf := h.frm
  have ht := h.to
  clear h hB
  generalize m.frm = fr at *
  generalize m.to = to at *
  cases q
  all_goals
    simp only [Tp.whoOk, Tp.K.clientFrom, Tp.K.clientTo, Tp.K.num, if_true, Bool.false_eq_true, if_false] at hf ht c0
    go_enter Tryz.func82, Tryz.ntmps82
    go_wp2_with fail
    first
      | refine (msgClient_yes _ hf.1 hf.2).mono ?_
      | refine (msgNode_yes _ hf.1 hf.2).mono ?_
    rintro e w1 ⟨rfl, rfl⟩
    go_wp2_with fail
    first
      | refine (msgClient_yes _ ht.1 ht.2).mono ?_
      | refine (msgNode_yes _ ht.1 ht.2).mono ?_
    rintro e w1 ⟨rfl, rfl⟩
    go_wp2_with fail
    go_ret
    exact ⟨rfl, rfl⟩
set_option maxRecDepth 100000 in
set_option maxHeartbeats 2000000 in
theorem msgMay_any (q : Tp.K) (m : Tp.Msg) (h : Tp.Ok q m) : Calls Tryz.prog 46 #[Tp.msgV m] w fun e w' => e = .returned (.bool true) ∧ Below w.heap.size w w' := by
  have hB := Blk.new w 39 (Tp.msgCells m).toArray
  have hb1 : Below w.heap.size w (w.alloc (.cells (Tp.msgCells m).toArray 39)) := (Below.refl _ _).alloc (Nat.le_refl _) _
  have hk := h.kind
  have HF := Lib.hid (fields_any (w := w.alloc (.cells (Tp.msgCells m).toArray 39)) q)
  have HW : Hid (∀ W, Blk W w.heap.size 39 (Tp.msgCells m).toArray → Calls Tryz.prog 82 #[.pointer (some ⟨w.heap.size, 0, none⟩)] W fun e w' => e = .returned (.bool true) ∧ W = w') := fun W hb => who_any q m h _ hb
  have HB := Lib.hid hB
  have Hb1 := Lib.hid hb1
  clear hB hb1
  unfold Tp.msgV
  go_enter Tryz.func46, Tryz.ntmps46
  go_wp2_with fail
  rw [← hk]
  change Calls _ _ _ (w.alloc (.cells (Tp.msgCells m).toArray 39)) _
  generalize w.alloc (.cells (Tp.msgCells m).toArray 39) = w1 at *
  rw [hk]
  refine HF.out.mono ?_
  rintro e w2 ⟨b, rfl, hr, hb2⟩
  have HB2 := Lib.hid (HB.out.below hb2 (by have := HB.out.lt; omega))
  have Hb2 := Lib.hid (Hb1.out.trans (hb2.mono Hb1.out.size))
  have HR := Lib.hid hr
  clear hr hb2 HF Hb1 HB
  go_wp2_with fail
  refine (HW.out _ HB2.out).mono ?_
  rintro e w3 ⟨rfl, rfl⟩
  go_wp2_with fail
  rw [← Tp.hasL_nil]
  have hH := Blk.new w2 146 (Tp.hasL [])
  have HHs := Lib.hid hH
  have Hb3 := Lib.hid (Hb2.out.alloc Hb2.out.size (.cells (Tp.hasL []) 146))
  have HB3 := Lib.hid (HB2.out.alloc (.cells (Tp.hasL []) 146))
  have HR3 := Lib.hid (HR.out.alloc (Nat.le_refl _) (.cells (Tp.hasL []) 146))
  have hgh : w.heap.size < w2.heap.size := HB2.out.lt
  have HFl := Lib.hid (Tp.K.fld_at q)
  clear hH Hb2 HB2 HR HW
  generalize w2.heap.size = gh at *
  generalize w2.alloc (.cells (Tp.hasL []) 146) = w3 at *
  go_loopw [7, 26] (fun f i wr => ∃ k : Nat, k ≤ q.flds.length ∧ i = .int .i64 (k : Int) ∧ Hid (Blk wr gh 146 (Tp.hasL (q.flds.take k))) ∧ Hid (Blk wr w.heap.size 39 (Tp.msgCells m).toArray) ∧ Hid (Reads wr gh 1 (some ⟨b, 0, none⟩) q.flds.length (q.flds.map (Value.int .i64))) ∧ Hid (Below w.heap.size w wr)) (fun _ i _ => q.flds.length - (intOf i).toNat)
  case atStart => exact ⟨0, Nat.zero_le _, rfl, HHs, HB3, HR3, Hb3⟩
  case round =>
    obtain ⟨k, hk', rfl, HHs, HB3, HR3, Hb3⟩ := hrel
    by_cases hlt : k < q.flds.length
    · obtain ⟨j, hj, hj15⟩ := HFl.out k hlt
      have hc1 : wr.cell? ⟨b, k, none⟩ = some (.int .i64 (j : Int)) := reads1_cell HR3.out hlt (by rw [List.getElem?_map, List.getElem?_eq_getElem hlt, hj]; rfl)
      have hc2 : wr.cell? ⟨gh, j, none⟩ = some (.bool (decide ((j : Int) ∈ q.flds.take k))) := (HHs.out.cell j).trans (Tp.hasL_at _ _ hj15)
      have hf2 : wr.frozen? ⟨gh, j, none⟩ = false := HHs.out.frozen j
      have hlt' : (k : Int) < (q.flds.length : Int) := by omega
      have hj' : (j : Int) < 15 := by omega
      have HHn : Hid (Blk (wr.setCell ⟨gh, j, none⟩ (.bool true)) gh 146 (Tp.hasL (q.flds.take (k + 1)))) := by
        have := HHs.out.set_ j (.bool true)
        rw [Tp.hasL_put _ _ hj15] at this
        rw [List.take_succ_eq_append_getElem hlt, hj]
        exact this
      have HBn : Hid (Blk (wr.setCell ⟨gh, j, none⟩ (.bool true)) w.heap.size 39 (Tp.msgCells m).toArray) := HB3.out.far (by show w.heap.size ≠ gh; omega) _
      have HRn := Lib.hid (HR3.out.below ((Below.refl gh wr).setCell (p := ⟨gh, j, none⟩) (Nat.le_refl _) (.bool true)))
      have Hbn : Hid (Below w.heap.size w (wr.setCell ⟨gh, j, none⟩ (.bool true))) := Hb3.out.setCell (p := ⟨gh, j, none⟩) (by show w.heap.size ≤ gh; omega) _
      clear HHs HB3 HR3 Hb3
      have h7 : q.flds.length ≤ 7 := by cases q <;> decide
      go_wp2_with fail
      go_roundw
      case rel => exact ⟨k + 1, by omega, by go_num, HHn, HBn, HRn, Hbn⟩
      case measure => simp [intOf]; omega
    · have htk : q.flds.take k = q.flds := List.take_of_length_le (by omega)
      rw [htk] at HHs
      have hlt' : ¬ (k : Int) < (q.flds.length : Int) := by omega
      clear HR3 HFl htk
      have HFd : Hid (∀ k : Nat, k < 11 → wr.cell? ⟨w.heap.size, k + 3, none⟩ = some (.int .i64 (m.fld k))) := fun k hk => (HB3.out.cell (k + 3)).trans (by
        rcases (by omega : k = 0 ∨ k = 1 ∨ k = 2 ∨ k = 3 ∨ k = 4 ∨ k = 5 ∨ k = 6 ∨ k = 7 ∨ k = 8 ∨ k = 9 ∨ k = 10) with rfl | rfl | rfl | rfl | rfl | rfl | rfl | rfl | rfl | rfl | rfl <;> rfl)
      go_wp2_with fail
      go_loopw [8, 9, 10, 11, 33] (fun _ _ _ _ i wq => ∃ k : Nat, k ≤ 15 ∧ i = .int .i64 (k : Int) ∧ wr = wq) (fun _ _ _ _ i _ => 15 - (intOf i).toNat)
      case atStart => exact ⟨0, Nat.zero_le _, rfl, rfl⟩
      case round =>
        obtain ⟨k, hk15, rfl, rfl⟩ := hrel
        by_cases hlt : k < 15
        · have hlt' : (k : Int) < 15 := by omega
          by_cases h11 : k < 11
          · have HL := Lib.hid (limits_any (w := wr) q k h11)
            have hcf := HFd.out k h11
            have hck : wr.cell? ⟨w.heap.size, 0, none⟩ = some (.int .i64 q.num) := (HB3.out.cell 0).trans (by rw [← hk]; rfl)
            have hch : wr.cell? ⟨gh, k, none⟩ = some (.bool (decide ((k : Int) ∈ q.flds))) := (HHs.out.cell k).trans (Tp.hasL_at _ _ hlt)
            have dl : ¬ m.fld k < q.low k := by have := h.low k h11; omega
            have dh : ¬ Tp.high k < m.fld k := by have := h.high k h11; omega
            have dz : decide ((k : Int) ∈ q.flds) = false → m.fld k = 0 := fun e => h.has k h11 (of_decide_eq_false e)
            go_wp2_with fail
            refine (msgNumber_any _ k h11).mono ?_
            rintro e w4 ⟨rfl, rfl⟩
            go_wp2_with fail
            refine HL.out.mono ?_
            rintro e w4 ⟨rfl, rfl⟩
            cases hb : decide ((k : Int) ∈ q.flds)
            · rw [hb] at hch
              have dz' := dz hb
              clear dz hb
              generalize m.fld k = x at *
              generalize q.low k = lo at *
              generalize Tp.high k = hi at *
              subst dz'
              go_wp2_with fail
              go_roundw
              case rel => exact ⟨k + 1, by omega, by go_num, by first | rfl | trivial⟩
              case measure => simp [intOf]; omega
            · rw [hb] at hch
              clear dz hb
              generalize m.fld k = x at *
              generalize q.low k = lo at *
              generalize Tp.high k = hi at *
              go_wp2_with fail
              go_roundw
              case rel => exact ⟨k + 1, by omega, by go_num, by first | rfl | trivial⟩
              case measure => simp [intOf]; omega
          · go_wp2_with fail
            refine (msgNumber_nil _ k (by omega) hlt).mono ?_
            rintro e w4 ⟨rfl, rfl⟩
            go_wp2_with fail
            go_roundw
            case rel => exact ⟨k + 1, by omega, by go_num, by first | rfl | trivial⟩
            case measure => simp [intOf]; omega
        · have hlt' : ¬ (k : Int) < 15 := by omega
          have h11 : wr.cell? ⟨gh, 11, none⟩ = some (.bool false) := (HHs.out.cell 11).trans (by cases q <;> rfl)
          have h12 : wr.cell? ⟨gh, 12, none⟩ = some (.bool (decide ((12 : Int) ∈ q.flds))) := (HHs.out.cell 12).trans (Tp.hasL_at _ 12 (by omega))
          have h13 : wr.cell? ⟨gh, 13, none⟩ = some (.bool false) := (HHs.out.cell 13).trans (by cases q <;> rfl)
          have h14 : wr.cell? ⟨gh, 14, none⟩ = some (.bool false) := (HHs.out.cell 14).trans (by cases q <;> rfl)
          have m14 : wr.cell? ⟨w.heap.size, 14, none⟩ = some (.string ⟨#[]⟩) := (HB3.out.cell 14).trans rfl
          have m15 : wr.cell? ⟨w.heap.size, 15, none⟩ = some (.slice none 0 0) := (HB3.out.cell 15).trans rfl
          have m16 : wr.cell? ⟨w.heap.size, 16, none⟩ = some (.int .i64 0) := (HB3.out.cell 16).trans rfl
          have m17 : wr.cell? ⟨w.heap.size, 17, none⟩ = some (.string ⟨#[]⟩) := (HB3.out.cell 17).trans rfl
          have m18 : wr.cell? ⟨w.heap.size, 18, none⟩ = some (.slice none 0 0) := (HB3.out.cell 18).trans rfl
          have m19 : wr.cell? ⟨w.heap.size, 19, none⟩ = some (.string ⟨#[]⟩) := (HB3.out.cell 19).trans rfl
          clear HFd
          generalize decide ((12 : Int) ∈ q.flds) = b12 at *
          have e0 : Pt.batchB [] = true := rfl
          have HBt := batch_any none 0 [] wr 0 Reads.none_ (Nat.zero_le _) (by simp) (by simp)
          rw [e0] at HBt
          have HBt' := Lib.hid HBt
          clear HBt e0
          have hgl : gh < wr.heap.size := HHs.out.lt
          go_wp2_with fail
          refine HBt'.out.mono ?_
          rintro e w4 ⟨rfl, hb4⟩
          have hwl : w.heap.size < wr.heap.size := by omega
          rw [← hb4.cell (p := ⟨gh, _, none⟩) hgl] at h12 h13
          rw [← hb4.cell (p := ⟨w.heap.size, _, none⟩) hwl] at m15 m16 m17 m18
          have Hb4 := Lib.hid (Hb3.out.trans (hb4.mono Hb3.out.size))
          have HML := Lib.hid (mayLog_any 0 ⟨#[]⟩ none 0 [] w4 ⟨Reads.none_, by simp, by simp⟩ (by decide) (by simp))
          have hs4 := hb4.size
          clear hb4 HBt'
          cases b12
          all_goals
            go_wp2_with fail
            refine HML.out.mono ?_
            rintro e w5 ⟨rfl, hb5⟩
            have e5 : Sv.logB 0 ⟨#[]⟩ [] = true := by decide
            rw [e5]
            have hg5 : gh < w4.heap.size := by have := Hb4.out.size; have := hgl; have := hs4; omega
            have hw5 : w.heap.size < w4.heap.size := by omega
            rw [← hb5.cell (p := ⟨gh, _, none⟩) hg5] at h13
            rw [← hb5.cell (p := ⟨w.heap.size, _, none⟩) hw5] at m16 m17 m18
            have Hb5 := Lib.hid (Hb4.out.trans (hb5.mono Hb4.out.size))
            clear hb5
            go_wp2_with fail
            go_ret
            exact ⟨rfl, Hb5.out⟩
end
end Go.Proofs.YtcchekmejnhlmaaGreat
/- Ev: a summary: which messages may be, of those that bear numbers alone (requests, replies, prepares, acks). -/
namespace Go.Proofs.YtcchekmejnhlmaaGreat
namespace Ev
open Go.RowKit
noncomputable section
set_option linter.unusedVariables false

def zI (x : Int) : Bool := Int.rec (fun n => Nat.beq n 0) (fun _ => false) x
def cliB (x : Int) : Bool := Int.rec (fun n => and (Nat.ble 100 n) (Nat.blt n 108)) (fun _ => false) x
def nodB (x : Int) : Bool := Int.rec (fun n => Nat.blt n 7) (fun _ => false) x
def numJ (x : Int) : Bool := Int.rec (fun n => Nat.ble n 2147483647) (fun n => Nat.beq n 0) x
def codI (x : Int) : Bool := Int.rec (fun n => Nat.ble n 9) (fun _ => false) x
theorem zI_ok {x : Int} (h : zI x = true) : x = 0 := by
  cases x with
  | ofNat n => have := nbeq_eq (x := n) (y := 0) h; rw [this]; rfl
  | negSucc n => cases h
theorem cliB_ok {x : Int} (h : cliB x = true) : 100 ≤ x ∧ x < 108 := by
  cases x with
  | ofNat n =>
    have h : and (Nat.ble 100 n) (Nat.blt n 108) = true := h
    rw [Bool.and_eq_true] at h
    have h1 := ble_true h.1
    have h2 := blt_true h.2
    rw [Int.ofNat_eq_natCast]; omega
  | negSucc n => cases h
theorem nodB_ok {x : Int} (h : nodB x = true) : 0 ≤ x ∧ x < 7 := by
  cases x with
  | ofNat n => have := blt_true (a := n) (b := 7) h; rw [Int.ofNat_eq_natCast]; omega
  | negSucc n => cases h
theorem numJ_ok {x : Int} (h : numJ x = true) : -1 ≤ x ∧ x ≤ 2147483647 := by
  cases x with
  | ofNat n => have := ble_true (a := n) (b := 2147483647) h; rw [Int.ofNat_eq_natCast]; omega
  | negSucc n => have := nbeq_eq (x := n) (y := 0) h; rw [this]; decide
theorem codI_ok {x : Int} (h : codI x = true) : 0 ≤ x ∧ x ≤ 9 := by
  cases x with
  | ofNat n => have := ble_true (a := n) (b := 9) h; rw [Int.ofNat_eq_natCast]; omega
  | negSucc n => cases h
/-- numbers, each by its own test -/
def allI : List (Int → Bool) → List Sc → Bool
  | [], [] => true
  | p :: ps, .i .i64 x :: xs => and (p x) (allI ps xs)
  | _, _ => false
theorem allI_ok {G : Gh} : ∀ {ps : List (Int → Bool)} {xs : List Sc} {vs : List Value}, All2 (Sc.ok G) xs vs → allI ps xs = true → ∃ ns : List Int, vs = ns.map (Value.int .i64) ∧ All2 (fun (p : Int → Bool) n => p n = true) ps ns := by
  intro ps xs
  induction ps, xs using allI.induct with
  | case1 => intro vs h _; cases h; exact ⟨[], rfl, .nil⟩
  | case2 p ps x xs ih =>
    intro vs h hb
    cases h with
    | cons h1 h =>
    unfold allI at hb
    rw [Bool.and_eq_true] at hb
    obtain ⟨ns, rfl, hn⟩ := ih h hb.2
    obtain rfl : _ = Value.int .i64 x := h1
    exact ⟨x :: ns, rfl, .cons hb.1 hn⟩
  | case3 ps xs h1 h2 =>
    intro vs _ hb
    unfold allI at hb
    split at hb
    · exact absurd rfl (h1 rfl)
    · exact absurd rfl (h2 _ _ _ _ rfl)
    · cases hb
def predsK (k : Int) : List (Int → Bool) := match k with
  | 0 => [cliB, nodB, zI, zI, zI, zI, zI, zI, numI, numI, zI, zI, zI]
  | 1 => [nodB, cliB, zI, zI, numJ, zI, zI, zI, numI, numI, codI, zI, zI]
  | 4 => [nodB, nodB, numI, zI, numI, numI, zI, numI, numI, numI, zI, zI, zI]
  | 5 => [nodB, nodB, numI, zI, numI, zI, zI, zI, zI, zI, zI, zI, zI]
  | _ => [fun _ => false]
/-- no text, no batch, no log -/
def restB (xs : List Sc) : Bool := match xs with
  | [.s a _, .sn, .i .i64 b, .s c _, .sn, .s d _] => and (and (Nat.beq a 0) (zI b)) (and (Nat.beq c 0) (Nat.beq d 0))
  | _ => false
def mayB4 (xs : List Sc) : Bool := match xs with
  | .i .i64 k :: r => and (allI (predsK k) (r.take 13)) (restB (r.drop 13))
  | _ => false
theorem empty_str {G : Gh} {n m : Nat} {v : Value} (h : Sc.ok G (.s n m) v) (hn : n = 0) : v = .string ⟨#[]⟩ := by
  obtain ⟨⟨⟨l⟩⟩, rfl, h1, _⟩ := h
  rw [hn] at h1
  have : l = [] := List.eq_nil_of_length_eq_zero h1
  rw [this]
theorem restB_ok {G : Gh} {xs : List Sc} {vs : List Value} (h : All2 (Sc.ok G) xs vs) (hb : restB xs = true) : vs = [.string ⟨#[]⟩, .slice none 0 0, .int .i64 0, .string ⟨#[]⟩, .slice none 0 0, .string ⟨#[]⟩] := by
  unfold restB at hb
  split at hb
  · rename_i a _ b c _ d _
    simp only [Bool.and_eq_true] at hb
    obtain ⟨⟨b1, b2⟩, b3, b4⟩ := hb
    cases h with
    | cons h1 h =>
    cases h with
    | cons h2 h =>
    cases h with
    | cons h3 h =>
    cases h with
    | cons h4 h =>
    cases h with
    | cons h5 h =>
    cases h with
    | cons h6 h =>
    cases h
    rw [empty_str h1 (nbeq_eq b1), empty_str h4 (nbeq_eq b3), empty_str h6 (nbeq_eq b4)]
    have h3 : _ = Value.int .i64 b := h3
    rw [zI_ok b2] at h3
    have h2 : _ = Value.slice none 0 0 := h2
    have h5 : _ = Value.slice none 0 0 := h5
    rw [h2, h3, h5]
  · cases hb
theorem eleven (P : Nat → Prop) (h0 : P 0) (h1 : P 1) (h2 : P 2) (h3 : P 3) (h4 : P 4) (h5 : P 5) (h6 : P 6) (h7 : P 7) (h8 : P 8) (h9 : P 9) (h10 : P 10) : ∀ k, k < 11 → P k := by
  intro k hk
  rcases (by omega : k = 0 ∨ k = 1 ∨ k = 2 ∨ k = 3 ∨ k = 4 ∨ k = 5 ∨ k = 6 ∨ k = 7 ∨ k = 8 ∨ k = 9 ∨ k = 10) with rfl | rfl | rfl | rfl | rfl | rfl | rfl | rfl | rfl | rfl | rfl <;> assumption
theorem thirteen {ps : List (Int → Bool)} {p1 p2 p3 p4 p5 p6 p7 p8 p9 p10 p11 p12 p13 : Int → Bool} (e : ps = [p1, p2, p3, p4, p5, p6, p7, p8, p9, p10, p11, p12, p13]) {ns : List Int} (h : All2 (fun (p : Int → Bool) n => p n = true) ps ns) :
    ∃ n1 n2 n3 n4 n5 n6 n7 n8 n9 n10 n11 n12 n13, ns = [n1, n2, n3, n4, n5, n6, n7, n8, n9, n10, n11, n12, n13] ∧ p1 n1 = true ∧ p2 n2 = true ∧ p3 n3 = true ∧ p4 n4 = true ∧ p5 n5 = true ∧ p6 n6 = true ∧ p7 n7 = true ∧ p8 n8 = true ∧ p9 n9 = true ∧ p10 n10 = true ∧ p11 n11 = true ∧ p12 n12 = true ∧ p13 n13 = true := by
  subst e
  cases h with
  | cons h1 h =>
  cases h with
  | cons h2 h =>
  cases h with
  | cons h3 h =>
  cases h with
  | cons h4 h =>
  cases h with
  | cons h5 h =>
  cases h with
  | cons h6 h =>
  cases h with
  | cons h7 h =>
  cases h with
  | cons h8 h =>
  cases h with
  | cons h9 h =>
  cases h with
  | cons h10 h =>
  cases h with
  | cons h11 h =>
  cases h with
  | cons h12 h =>
  cases h with
  | cons h13 h =>
  cases h
  exact ⟨_, _, _, _, _, _, _, _, _, _, _, _, _, rfl, h1, h2, h3, h4, h5, h6, h7, h8, h9, h10, h11, h12, h13⟩
theorem mayB4_ok {G : Gh} {xs : List Sc} {vs : List Value} (h : All2 (Sc.ok G) xs vs) (hb : mayB4 xs = true) : ∃ (q : Tp.K) (m : Tp.Msg), Tp.Ok q m ∧ vs = Tp.msgCells m := by
  unfold mayB4 at hb
  split at hb
  · rename_i k r
    rw [Bool.and_eq_true] at hb
    cases h with
    | cons h1 h =>
    rename_i v0 us
    obtain rfl : v0 = Value.int .i64 k := h1
    obtain ⟨ns, e1, hn⟩ := allI_ok (h.take 13) hb.1
    have e2 := restB_ok (h.drop 13) hb.2
    have e3 : us = ns.map (Value.int .i64) ++ [.string ⟨#[]⟩, .slice none 0 0, .int .i64 0, .string ⟨#[]⟩, .slice none 0 0, .string ⟨#[]⟩] := by
      rw [← e1, ← e2, List.take_append_drop]
    clear e1 e2 hb h
    unfold predsK at hn
    split at hn
    · obtain ⟨n1, n2, n3, n4, n5, n6, n7, n8, n9, n10, n11, n12, n13, rfl, a1, a2, a3, a4, a5, a6, a7, a8, a9, a10, a11, a12, a13⟩ := thirteen rfl hn
      refine ⟨.req, ⟨0, n1, n2, n3, n4, n5, n6, n7, n8, n9, n10, n11, n12, n13⟩, ⟨rfl, cliB_ok a1, nodB_ok a2, ?_, ?_, ?_⟩, by rw [e3]; rfl⟩
      all_goals
        have a3 := zI_ok a3; have a4 := zI_ok a4; have a5 := zI_ok a5; have a6 := zI_ok a6; have a7 := zI_ok a7; have a8 := zI_ok a8; have a9 := numI_ok a9; have a10 := numI_ok a10; have a11 := zI_ok a11; have a12 := zI_ok a12; have a13 := zI_ok a13
        refine eleven _ ?_ ?_ ?_ ?_ ?_ ?_ ?_ ?_ ?_ ?_ ?_ <;> simp only [Tp.Msg.fld, Tp.K.flds, Tp.K.low, Tp.high] <;> first | omega | (intro _; assumption) | (intro q; exact absurd q (by decide))
    · obtain ⟨n1, n2, n3, n4, n5, n6, n7, n8, n9, n10, n11, n12, n13, rfl, a1, a2, a3, a4, a5, a6, a7, a8, a9, a10, a11, a12, a13⟩ := thirteen rfl hn
      refine ⟨.rep, ⟨1, n1, n2, n3, n4, n5, n6, n7, n8, n9, n10, n11, n12, n13⟩, ⟨rfl, nodB_ok a1, cliB_ok a2, ?_, ?_, ?_⟩, by rw [e3]; rfl⟩
      all_goals
        have a3 := zI_ok a3; have a4 := zI_ok a4; have a5 := numJ_ok a5; have a6 := zI_ok a6; have a7 := zI_ok a7; have a8 := zI_ok a8; have a9 := numI_ok a9; have a10 := numI_ok a10; have a11 := codI_ok a11; have a12 := zI_ok a12; have a13 := zI_ok a13
        refine eleven _ ?_ ?_ ?_ ?_ ?_ ?_ ?_ ?_ ?_ ?_ ?_ <;> simp only [Tp.Msg.fld, Tp.K.flds, Tp.K.low, Tp.high] <;> first | omega | (intro _; assumption) | (intro q; exact absurd q (by decide))
    · obtain ⟨n1, n2, n3, n4, n5, n6, n7, n8, n9, n10, n11, n12, n13, rfl, a1, a2, a3, a4, a5, a6, a7, a8, a9, a10, a11, a12, a13⟩ := thirteen rfl hn
      refine ⟨.pre, ⟨4, n1, n2, n3, n4, n5, n6, n7, n8, n9, n10, n11, n12, n13⟩, ⟨rfl, nodB_ok a1, nodB_ok a2, ?_, ?_, ?_⟩, by rw [e3]; rfl⟩
      all_goals
        have a3 := numI_ok a3; have a4 := zI_ok a4; have a5 := numI_ok a5; have a6 := numI_ok a6; have a7 := zI_ok a7; have a8 := numI_ok a8; have a9 := numI_ok a9; have a10 := numI_ok a10; have a11 := zI_ok a11; have a12 := zI_ok a12; have a13 := zI_ok a13
        refine eleven _ ?_ ?_ ?_ ?_ ?_ ?_ ?_ ?_ ?_ ?_ ?_ <;> simp only [Tp.Msg.fld, Tp.K.flds, Tp.K.low, Tp.high] <;> first | omega | (intro _; assumption) | (intro q; exact absurd q (by decide))
    · obtain ⟨n1, n2, n3, n4, n5, n6, n7, n8, n9, n10, n11, n12, n13, rfl, a1, a2, a3, a4, a5, a6, a7, a8, a9, a10, a11, a12, a13⟩ := thirteen rfl hn
      refine ⟨.ack, ⟨5, n1, n2, n3, n4, n5, n6, n7, n8, n9, n10, n11, n12, n13⟩, ⟨rfl, nodB_ok a1, nodB_ok a2, ?_, ?_, ?_⟩, by rw [e3]; rfl⟩
      all_goals
        have a3 := numI_ok a3; have a4 := zI_ok a4; have a5 := numI_ok a5; have a6 := zI_ok a6; have a7 := zI_ok a7; have a8 := zI_ok a8; have a9 := zI_ok a9; have a10 := zI_ok a10; have a11 := zI_ok a11; have a12 := zI_ok a12; have a13 := zI_ok a13
        refine eleven _ ?_ ?_ ?_ ?_ ?_ ?_ ?_ ?_ ?_ ?_ ?_ <;> simp only [Tp.Msg.fld, Tp.K.flds, Tp.K.low, Tp.high] <;> first | omega | (intro _; assumption) | (intro q; exact absurd q (by decide))
    · cases hn with
      | cons h1 _ => cases h1
  · cases hb
def sMay4 (args : List V) (H : HT) (n : Nat) : Rs := match args with
  | [.a xs] => cnd (mayB4 xs) (.ok (.c (.b true)) H n) .no
  | _ => .no
theorem sMay4_ok : SumOk1 Tryz.prog 46 sMay4 := by
  intro args H n v H' n' h
  unfold sMay4 at h
  split at h
  · rename_i xs
    have q := cnd_ok h
    clear h
    obtain ⟨hb, h⟩ := q
    cases h
    refine ⟨Nat.le_refl _, fun G w cargs hR ha hf => ?_⟩
    obtain ⟨c, rfl, ⟨arr⟩, rfl, hc⟩ := cargs1 ha
    obtain ⟨q, m, hq, he⟩ := mayB4_ok hc hb
    have he : arr = Tp.msgCells m := he
    subst he
    refine (msgMay_any q m hq (w := w)).mono ?_
    rintro e w' ⟨rfl, hb'⟩
    exact ⟨_, G, rfl, stp_below hR hb', rfl⟩
  · cases h
end
end Ev
end Go.Proofs.YtcchekmejnhlmaaGreat
/- Ev: all that stands below the tables. -/
namespace Go.Proofs.YtcchekmejnhlmaaGreat
end Go.Proofs.YtcchekmejnhlmaaGreat
