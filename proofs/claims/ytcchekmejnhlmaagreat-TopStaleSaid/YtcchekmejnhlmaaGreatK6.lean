/- Joined texts: TpMay2, TpMayG, TpMayH, EvPut, TpHeld, TpRow, TpRept, EvRep, EvRoot. -/
import Derived.Test.YtcchekmejnhlmaaGreatK1
import Derived.Test.YtcchekmejnhlmaaGreatK4
import Derived.Test.YtcchekmejnhlmaaGreatK5
import Derived.Test.YtcchekmejnhlmaaGreatProg
import Derived.Deep.RegionHeld3
import Derived.Deep.MidRow
import Derived.Laws.ResultCell
/- Top: message.who and message.May, at the kinds that TopBusy's run sends. -/
namespace Go.Proofs.YtcchekmejnhlmaaGreat
open Go.RowKit
set_option linter.unusedVariables false

def Tp.Msg.fld (m : Tp.Msg) : Nat → Int
  | 0 => m.view | 1 => m.normal | 2 => m.at_ | 3 => m.commit | 4 => m.round | 5 => m.client | 6 => m.session | 7 => m.number | 8 => m.code | 9 => m.agg | _ => m.until_
def Tp.K.clientFrom : Tp.K → Bool
  | .req => true | _ => false
def Tp.K.clientTo : Tp.K → Bool
  | .rep => true | _ => false
def Tp.whoOk (c : Bool) (x : Int) : Prop := if c then 100 ≤ x ∧ x < 108 else 0 ≤ x ∧ x < 7
structure Tp.Ok (q : Tp.K) (m : Tp.Msg) : Prop where
  kind : m.kind = q.num
  frm : Tp.whoOk q.clientFrom m.frm
  to : Tp.whoOk q.clientTo m.to
  has : ∀ k : Nat, k < 11 → (k : Int) ∉ q.flds → m.fld k = 0
  low : ∀ k : Nat, k < 11 → q.low k ≤ m.fld k
  high : ∀ k : Nat, k < 11 → m.fld k ≤ Tp.high k
theorem Tp.K.fld_at (q : Tp.K) (k : Nat) (hk : k < q.flds.length) : ∃ j : Nat, q.flds[k] = (j : Int) ∧ j < 15 := by
  cases q
  · rcases (by simp [Tp.K.flds] at hk; omega : k = 0 ∨ k = 1 ∨ k = 2) with rfl | rfl | rfl
    · exact ⟨6, rfl, by omega⟩
    · exact ⟨7, rfl, by omega⟩
    · exact ⟨12, rfl, by omega⟩
  · rcases (by simp [Tp.K.flds] at hk; omega : k = 0 ∨ k = 1 ∨ k = 2 ∨ k = 3) with rfl | rfl | rfl | rfl
    · exact ⟨6, rfl, by omega⟩
    · exact ⟨7, rfl, by omega⟩
    · exact ⟨8, rfl, by omega⟩
    · exact ⟨2, rfl, by omega⟩
  · rcases (by simp [Tp.K.flds] at hk; omega : k = 0 ∨ k = 1 ∨ k = 2 ∨ k = 3 ∨ k = 4 ∨ k = 5 ∨ k = 6) with rfl | rfl | rfl | rfl | rfl | rfl | rfl
    · exact ⟨0, rfl, by omega⟩
    · exact ⟨2, rfl, by omega⟩
    · exact ⟨3, rfl, by omega⟩
    · exact ⟨5, rfl, by omega⟩
    · exact ⟨6, rfl, by omega⟩
    · exact ⟨7, rfl, by omega⟩
    · exact ⟨12, rfl, by omega⟩
  · rcases (by simp [Tp.K.flds] at hk; omega : k = 0 ∨ k = 1) with rfl | rfl
    · exact ⟨0, rfl, by omega⟩
    · exact ⟨2, rfl, by omega⟩
theorem reads1_cell {w : World} {B b n : Nat} {xs : List Value} {k : Nat} {u : Value} (h : Reads w B 1 (some ⟨b, 0, none⟩) n xs) (hk : k < n) (hu : xs[k]? = some u) : w.cell? ⟨b, k, none⟩ = some u := by
  obtain ⟨b', off, e, hb, hc⟩ := h.2 (by omega)
  injection e with e
  injection e with e1 e2 e3
  subst e1 e2
  have := hc k u hu
  rwa [Nat.zero_add] at this
/-- the array 'has' behind the first fields of a kind -/
def Tp.hasL (fs : List Int) : Array Value := ((List.range 15).map fun j : Nat => Value.bool (decide ((j : Int) ∈ fs))).toArray
theorem Tp.hasL_nil : Tp.hasL [] = #[.bool false, .bool false, .bool false, .bool false, .bool false, .bool false, .bool false, .bool false, .bool false, .bool false, .bool false, .bool false, .bool false, .bool false, .bool false] := by rfl
theorem Tp.hasL_at (fs : List Int) (j : Nat) (hj : j < 15) : (Tp.hasL fs)[j]? = some (.bool (decide ((j : Int) ∈ fs))) := by simp [Tp.hasL, hj]
theorem Tp.hasL_put (fs : List Int) (j : Nat) (hj : j < 15) : (Tp.hasL fs).setIfInBounds j (.bool true) = Tp.hasL (fs ++ [(j : Int)]) := by
  apply Array.ext_getElem?
  intro i
  rw [Array.getElem?_setIfInBounds]
  by_cases h : j = i
  · subst h
    rw [if_pos rfl, Tp.hasL_at _ _ hj, if_pos (by simpa [Tp.hasL] using hj)]
    simp
  · rw [if_neg h]
    by_cases hi : i < 15
    · rw [Tp.hasL_at _ _ hi, Tp.hasL_at _ _ hi]
      have : ((i : Int) ∈ fs ++ [(j : Int)]) ↔ (i : Int) ∈ fs := by simp; omega
      simp [this]
    · have l : ∀ fs, (Tp.hasL fs).size = 15 := fun _ => by simp [Tp.hasL]
      rw [Array.getElem?_eq_none (by rw [l]; omega), Array.getElem?_eq_none (by rw [l]; omega)]
section
variable {w : World}
set_option maxRecDepth 100000 in
set_option maxHeartbeats 2000000 in
theorem who_any (q : Tp.K) (m : Tp.Msg) (h : Tp.Ok q m) (g : Nat) (hB : Blk w g 39 (Tp.msgCells m).toArray) : Calls Tryz.prog 82 #[.pointer (some ⟨g, 0, none⟩)] w fun e w' => e = .returned (.bool true) ∧ w = w' := by
  have c0 : w.cell? ⟨g, 0, none⟩ = some (.int .i64 m.kind) := (hB.cell 0).trans rfl
  have c1 : w.cell? ⟨g, 1, none⟩ = some (.int .i64 m.frm) := (hB.cell 1).trans rfl
  have c2 : w.cell? ⟨g, 2, none⟩ = some (.int .i64 m.to) := (hB.cell 2).trans rfl
  rw [h.kind] at c0
  have hf := h.frm
  have ht := h.to
  clear h hB
  generalize m.frm = fr at *
  generalize m.to = to at *
  cases q
  all_goals
    simp only [Tp.whoOk, Tp.K.clientFrom, Tp.K.clientTo, Tp.K.num, if_true, Bool.false_eq_true, if_false] at hf ht c0
    go_enter Tryz.func82, Tryz.ntmps82
    go_wp2_with fail
    first
      | refine (msgClient_yes _ hf.1 hf.2).mono ?_
      | refine (msgNode_yes _ hf.1 hf.2).mono ?_
    rintro e w1 ⟨rfl, rfl⟩
    go_wp2_with fail
    first
      | refine (msgClient_yes _ ht.1 ht.2).mono ?_
      | refine (msgNode_yes _ ht.1 ht.2).mono ?_
    rintro e w1 ⟨rfl, rfl⟩
    go_wp2_with fail
    go_ret
    exact ⟨rfl, rfl⟩
set_option maxRecDepth 100000 in
set_option maxHeartbeats 2000000 in
theorem msgMay_any (q : Tp.K) (m : Tp.Msg) (h : Tp.Ok q m) : Calls Tryz.prog 46 #[Tp.msgV m] w fun e w' => e = .returned (.bool true) ∧ Below w.heap.size w w' := by
  have hB := Blk.new w 39 (Tp.msgCells m).toArray
  have hb1 : Below w.heap.size w (w.alloc (.cells (Tp.msgCells m).toArray 39)) := (Below.refl _ _).alloc (Nat.le_refl _) _
  have hk := h.kind
  have HF := Lib.hid (fields_any (w := w.alloc (.cells (Tp.msgCells m).toArray 39)) q)
  have HW : Hid (∀ W, Blk W w.heap.size 39 (Tp.msgCells m).toArray → Calls Tryz.prog 82 #[.pointer (some ⟨w.heap.size, 0, none⟩)] W fun e w' => e = .returned (.bool true) ∧ W = w') := fun W hb => who_any q m h _ hb
  have HB := Lib.hid hB
  have Hb1 := Lib.hid hb1
  clear hB hb1
  unfold Tp.msgV
  go_enter Tryz.func46, Tryz.ntmps46
  go_wp2_with fail
  rw [← hk]
  change Calls _ _ _ (w.alloc (.cells (Tp.msgCells m).toArray 39)) _
  generalize w.alloc (.cells (Tp.msgCells m).toArray 39) = w1 at *
  rw [hk]
  refine HF.out.mono ?_
  rintro e w2 ⟨b, rfl, hr, hb2⟩
  have HB2 := Lib.hid (HB.out.below hb2 (by have := HB.out.lt; omega))
  have Hb2 := Lib.hid (Hb1.out.trans (hb2.mono Hb1.out.size))
  have HR := Lib.hid hr
  clear hr hb2 HF Hb1 HB
  go_wp2_with fail
  refine (HW.out _ HB2.out).mono ?_
  rintro e w3 ⟨rfl, rfl⟩
  go_wp2_with fail
  rw [← Tp.hasL_nil]
  have hH := Blk.new w2 146 (Tp.hasL [])
  have HHs := Lib.hid hH
  have Hb3 := Lib.hid (Hb2.out.alloc Hb2.out.size (.cells (Tp.hasL []) 146))
  have HB3 := Lib.hid (HB2.out.alloc (.cells (Tp.hasL []) 146))
  have HR3 := Lib.hid (HR.out.alloc (Nat.le_refl _) (.cells (Tp.hasL []) 146))
  have hgh : w.heap.size < w2.heap.size := HB2.out.lt
  have HFl := Lib.hid (Tp.K.fld_at q)
  clear hH Hb2 HB2 HR HW
  generalize w2.heap.size = gh at *
  generalize w2.alloc (.cells (Tp.hasL []) 146) = w3 at *
  go_loopw [7, 26] (fun f i wr => ∃ k : Nat, k ≤ q.flds.length ∧ i = .int .i64 (k : Int) ∧ Hid (Blk wr gh 146 (Tp.hasL (q.flds.take k))) ∧ Hid (Blk wr w.heap.size 39 (Tp.msgCells m).toArray) ∧ Hid (Reads wr gh 1 (some ⟨b, 0, none⟩) q.flds.length (q.flds.map (Value.int .i64))) ∧ Hid (Below w.heap.size w wr)) (fun _ i _ => q.flds.length - (intOf i).toNat)
  case atStart => exact ⟨0, Nat.zero_le _, rfl, HHs, HB3, HR3, Hb3⟩
  case round =>
    obtain ⟨k, hk', rfl, HHs, HB3, HR3, Hb3⟩ := hrel
    by_cases hlt : k < q.flds.length
    · obtain ⟨j, hj, hj15⟩ := HFl.out k hlt
      have hc1 : wr.cell? ⟨b, k, none⟩ = some (.int .i64 (j : Int)) := reads1_cell HR3.out hlt (by rw [List.getElem?_map, List.getElem?_eq_getElem hlt, hj]; rfl)
      have hc2 : wr.cell? ⟨gh, j, none⟩ = some (.bool (decide ((j : Int) ∈ q.flds.take k))) := (HHs.out.cell j).trans (Tp.hasL_at _ _ hj15)
      have hf2 : wr.frozen? ⟨gh, j, none⟩ = false := HHs.out.frozen j
      have hlt' : (k : Int) < (q.flds.length : Int) := by omega
      have hj' : (j : Int) < 15 := by omega
      have HHn : Hid (Blk (wr.setCell ⟨gh, j, none⟩ (.bool true)) gh 146 (Tp.hasL (q.flds.take (k + 1)))) := by
        have := HHs.out.set_ j (.bool true)
        rw [Tp.hasL_put _ _ hj15] at this
        rw [List.take_succ_eq_append_getElem hlt, hj]
        exact this
      have HBn : Hid (Blk (wr.setCell ⟨gh, j, none⟩ (.bool true)) w.heap.size 39 (Tp.msgCells m).toArray) := HB3.out.far (by show w.heap.size ≠ gh; omega) _
      have HRn := Lib.hid (HR3.out.below ((Below.refl gh wr).setCell (p := ⟨gh, j, none⟩) (Nat.le_refl _) (.bool true)))
      have Hbn : Hid (Below w.heap.size w (wr.setCell ⟨gh, j, none⟩ (.bool true))) := Hb3.out.setCell (p := ⟨gh, j, none⟩) (by show w.heap.size ≤ gh; omega) _
      clear HHs HB3 HR3 Hb3
      have h7 : q.flds.length ≤ 7 := by cases q <;> decide
      go_wp2_with fail
      go_roundw
      case rel => exact ⟨k + 1, by omega, by go_num, HHn, HBn, HRn, Hbn⟩
      case measure => simp [intOf]; omega
    · have htk : q.flds.take k = q.flds := List.take_of_length_le (by omega)
      rw [htk] at HHs
      have hlt' : ¬ (k : Int) < (q.flds.length : Int) := by omega
      clear HR3 HFl htk
      have HFd : Hid (∀ k : Nat, k < 11 → wr.cell? ⟨w.heap.size, k + 3, none⟩ = some (.int .i64 (m.fld k))) := fun k hk => (HB3.out.cell (k + 3)).trans (by
        rcases (by omega : k = 0 ∨ k = 1 ∨ k = 2 ∨ k = 3 ∨ k = 4 ∨ k = 5 ∨ k = 6 ∨ k = 7 ∨ k = 8 ∨ k = 9 ∨ k = 10) with rfl | rfl | rfl | rfl | rfl | rfl | rfl | rfl | rfl | rfl | rfl <;> rfl)
      go_wp2_with fail
      go_loopw [8, 9, 10, 11, 33] (fun _ _ _ _ i wq => ∃ k : Nat, k ≤ 15 ∧ i = .int .i64 (k : Int) ∧ wr = wq) (fun _ _ _ _ i _ => 15 - (intOf i).toNat)
      case atStart => exact ⟨0, Nat.zero_le _, rfl, rfl⟩
      case round =>
        obtain ⟨k, hk15, rfl, rfl⟩ := hrel
        by_cases hlt : k < 15
        · have hlt' : (k : Int) < 15 := by omega
          by_cases h11 : k < 11
          · have HL := Lib.hid (limits_any (w := wr) q k h11)
            have hcf := HFd.out k h11
            have hck : wr.cell? ⟨w.heap.size, 0, none⟩ = some (.int .i64 q.num) := (HB3.out.cell 0).trans (by rw [← hk]; rfl)
            have hch : wr.cell? ⟨gh, k, none⟩ = some (.bool (decide ((k : Int) ∈ q.flds))) := (HHs.out.cell k).trans (Tp.hasL_at _ _ hlt)
            have dl : ¬ m.fld k < q.low k := by have := h.low k h11; omega
            have dh : ¬ Tp.high k < m.fld k := by have := h.high k h11; omega
            have dz : decide ((k : Int) ∈ q.flds) = false → m.fld k = 0 := fun e => h.has k h11 (of_decide_eq_false e)
            go_wp2_with fail
            refine (msgNumber_any _ k h11).mono ?_
            rintro e w4 ⟨rfl, rfl⟩
            go_wp2_with fail
            refine HL.out.mono ?_
            rintro e w4 ⟨rfl, rfl⟩
            cases hb : decide ((k : Int) ∈ q.flds)
            · rw [hb] at hch
              have dz' := dz hb
              clear dz hb
              generalize m.fld k = x at *
              generalize q.low k = lo at *
              generalize Tp.high k = hi at *
              subst dz'
              go_wp2_with fail
              go_roundw
              case rel => exact ⟨k + 1, by omega, by go_num, by first | rfl | trivial⟩
              case measure => simp [intOf]; omega
            · rw [hb] at hch
              clear dz hb
              generalize m.fld k = x at *
              generalize q.low k = lo at *
              generalize Tp.high k = hi at *
              go_wp2_with fail
              go_roundw
              case rel => exact ⟨k + 1, by omega, by go_num, by first | rfl | trivial⟩
              case measure => simp [intOf]; omega
          · go_wp2_with fail
            refine (msgNumber_nil _ k (by omega) hlt).mono ?_
            rintro e w4 ⟨rfl, rfl⟩
            go_wp2_with fail
            go_roundw
            case rel => exact ⟨k + 1, by omega, by go_num, by first | rfl | trivial⟩
            case measure => simp [intOf]; omega
        · have hlt' : ¬ (k : Int) < 15 := by omega
          have h11 : wr.cell? ⟨gh, 11, none⟩ = some (.bool false) := (HHs.out.cell 11).trans (by cases q <;> rfl)
          have h12 : wr.cell? ⟨gh, 12, none⟩ = some (.bool (decide ((12 : Int) ∈ q.flds))) := (HHs.out.cell 12).trans (Tp.hasL_at _ 12 (by omega))
          have h13 : wr.cell? ⟨gh, 13, none⟩ = some (.bool false) := (HHs.out.cell 13).trans (by cases q <;> rfl)
          have h14 : wr.cell? ⟨gh, 14, none⟩ = some (.bool false) := (HHs.out.cell 14).trans (by cases q <;> rfl)
          have m14 : wr.cell? ⟨w.heap.size, 14, none⟩ = some (.string ⟨#[]⟩) := (HB3.out.cell 14).trans rfl
          have m15 : wr.cell? ⟨w.heap.size, 15, none⟩ = some (.slice none 0 0) := (HB3.out.cell 15).trans rfl
          have m16 : wr.cell? ⟨w.heap.size, 16, none⟩ = some (.int .i64 0) := (HB3.out.cell 16).trans rfl
          have m17 : wr.cell? ⟨w.heap.size, 17, none⟩ = some (.string ⟨#[]⟩) := (HB3.out.cell 17).trans rfl
          have m18 : wr.cell? ⟨w.heap.size, 18, none⟩ = some (.slice none 0 0) := (HB3.out.cell 18).trans rfl
          have m19 : wr.cell? ⟨w.heap.size, 19, none⟩ = some (.string ⟨#[]⟩) := (HB3.out.cell 19).trans rfl
          clear HFd
          generalize decide ((12 : Int) ∈ q.flds) = b12 at *
          have e0 : Pt.batchB [] = true := rfl
          have HBt := batch_any none 0 [] wr 0 Reads.none_ (Nat.zero_le _) (by simp) (by simp)
          rw [e0] at HBt
          have HBt' := Lib.hid HBt
          clear HBt e0
          have hgl : gh < wr.heap.size := HHs.out.lt
          go_wp2_with fail
          refine HBt'.out.mono ?_
          rintro e w4 ⟨rfl, hb4⟩
          have hwl : w.heap.size < wr.heap.size := by omega
          rw [← hb4.cell (p := ⟨gh, _, none⟩) hgl] at h12 h13
          rw [← hb4.cell (p := ⟨w.heap.size, _, none⟩) hwl] at m15 m16 m17 m18
          have Hb4 := Lib.hid (Hb3.out.trans (hb4.mono Hb3.out.size))
          have HML := Lib.hid (mayLog_any 0 ⟨#[]⟩ none 0 [] w4 ⟨Reads.none_, by simp, by simp⟩ (by decide) (by simp))
          have hs4 := hb4.size
          clear hb4 HBt'
          cases b12
          all_goals
            go_wp2_with fail
            refine HML.out.mono ?_
            rintro e w5 ⟨rfl, hb5⟩
            have e5 : Sv.logB 0 ⟨#[]⟩ [] = true := by decide
            rw [e5]
            have hg5 : gh < w4.heap.size := by have := Hb4.out.size; have := hgl; have := hs4; omega
            have hw5 : w.heap.size < w4.heap.size := by omega
            rw [← hb5.cell (p := ⟨gh, _, none⟩) hg5] at h13
            rw [← hb5.cell (p := ⟨w.heap.size, _, none⟩) hw5] at m16 m17 m18
            have Hb5 := Lib.hid (Hb4.out.trans (hb5.mono Hb4.out.size))
            clear hb5
            go_wp2_with fail
            go_ret
            exact ⟨rfl, Hb5.out⟩
end
end Go.Proofs.YtcchekmejnhlmaaGreat
/- message.May at every kind of message. -/
namespace Go.Proofs.YtcchekmejnhlmaaGreat
open Go.RowKit
set_option linter.unusedVariables false

def Mg.flds (k : Nat) : List Int := [[6, 7, 12], [6, 7, 8, 2], [7, 9, 11, 2, 10], [7, 8, 2, 4], [0, 2, 3, 5, 6, 7, 12], [0, 2], [0, 2, 3], [0], [0, 1, 3, 13], [0, 3, 13], [0, 2], [0, 3, 13], [0, 4], [0, 4], [2], [2], [2, 14]].getD k []
def Mg.low (k j : Nat) : Int := if k = 1 ∧ j = 2 then -1 else if (k = 2 ∨ k = 3) ∧ (j = 2 ∨ j = 10) then -2147483648 else 0
theorem Mg.fld_all : ∀ k, k < 17 → (Mg.flds k).all (fun x => decide (0 ≤ x) && decide (x < 15)) = true := by decide
theorem Mg.fld_len : ∀ k, k < 17 → (Mg.flds k).length ≤ 7 := by decide
theorem Mg.fld_at {k : Nat} (hk : k < 17) (i : Nat) (hi : i < (Mg.flds k).length) : ∃ j : Nat, (Mg.flds k)[i] = (j : Int) ∧ j < 15 := by
  have h := List.all_eq_true.1 (Mg.fld_all k hk) _ (List.getElem_mem hi)
  rw [Bool.and_eq_true, decide_eq_true_eq, decide_eq_true_eq] at h
  exact ⟨((Mg.flds k)[i]).toNat, by omega, by omega⟩
section
variable {w : World}
set_option maxRecDepth 100000 in
theorem limits_rd (x : Int) (hx : ((x == 1) = false ∧ (x == 2) = true) ∨ ((x == 1) = false ∧ (x == 2) = false ∧ (x == 3) = true)) (k : Int) (hk : (k == 8) = false ∧ (k == 9) = false ∧ ((k == 2) = true ∨ ((k == 2) = false ∧ (k == 10) = true))) : Calls Tryz.prog 84 #[.int .i64 x, .int .i64 k] w fun e w' => e = .returned (.tuple #[.int .i64 (-2147483648), .int .i64 2147483647]) ∧ w = w' := by
  obtain ⟨h8, h9, hk⟩ := hk
  rcases hx with ⟨hx1, hx⟩ | ⟨hx1, hx, hx'⟩ <;> rcases hk with hk | ⟨hk, hk'⟩
  all_goals
    go_enter Tryz.func84, Tryz.ntmps84
    go_wp2_with fail
    go_ret2
    exact ⟨rfl, rfl⟩
set_option maxRecDepth 100000 in
theorem limits_rd' (x : Int) (hx : (x == 1) = false) (k : Int) (hk : (k == 8) = false ∧ (k == 9) = false ∧ (k == 2) = false ∧ (k == 10) = false) : Calls Tryz.prog 84 #[.int .i64 x, .int .i64 k] w fun e w' => e = .returned (.tuple #[.int .i64 0, .int .i64 2147483647]) ∧ w = w' := by
  obtain ⟨h8, h9, h2, h10⟩ := hk
  go_enter Tryz.func84, Tryz.ntmps84
  go_wp2_with fail
  go_ret2
  exact ⟨rfl, rfl⟩
theorem limits_gen (k j : Nat) (hk : k < 17) (hj : j < 11) : Calls Tryz.prog 84 #[.int .i64 (k : Int), .int .i64 (j : Int)] w fun e w' => e = .returned (.tuple #[.int .i64 (Mg.low k j), .int .i64 (Tp.high j)]) ∧ w = w' := by
  by_cases h8 : j = 8
  · subst h8
    have e : Mg.low k 8 = 0 := by unfold Mg.low; rw [if_neg (by omega), if_neg (by omega)]
    rw [e]
    exact limits_8 _
  by_cases h9 : j = 9
  · subst h9
    have e : Mg.low k 9 = 0 := by unfold Mg.low; rw [if_neg (by omega), if_neg (by omega)]
    rw [e]
    exact limits_9 _
  rw [Tp.high_at j h8 h9]
  by_cases k1 : k = 1
  · subst k1
    by_cases h2 : j = 2
    · subst h2
      exact limits_rep
    · have e : Mg.low 1 j = 0 := by unfold Mg.low; rw [if_neg (by omega), if_neg (by omega)]
      rw [e]
      refine limits_rep' _ (nat_beq_no h8) (nat_beq_no h9) ?_
      by_cases h10 : j = 10
      · exact .inl ⟨nat_beq_no h2, nat_beq_yes h10⟩
      · exact .inr ⟨nat_beq_no h2, nat_beq_no h10⟩
  by_cases k23 : k = 2 ∨ k = 3
  · have hx : (((k : Int) == 1) = false ∧ ((k : Int) == 2) = true) ∨ (((k : Int) == 1) = false ∧ ((k : Int) == 2) = false ∧ ((k : Int) == 3) = true) := by
      rcases k23 with rfl | rfl
      · exact .inl ⟨rfl, rfl⟩
      · exact .inr ⟨rfl, rfl, rfl⟩
    by_cases h2 : j = 2
    · have e : Mg.low k j = -2147483648 := by unfold Mg.low; rw [if_neg (by omega), if_pos (by omega)]
      rw [e]
      exact limits_rd _ hx _ ⟨nat_beq_no h8, nat_beq_no h9, .inl (nat_beq_yes h2)⟩
    by_cases h10 : j = 10
    · have e : Mg.low k j = -2147483648 := by unfold Mg.low; rw [if_neg (by omega), if_pos (by omega)]
      rw [e]
      exact limits_rd _ hx _ ⟨nat_beq_no h8, nat_beq_no h9, .inr ⟨nat_beq_no h2, nat_beq_yes h10⟩⟩
    · have e : Mg.low k j = 0 := by unfold Mg.low; rw [if_neg (by omega), if_neg (by omega)]
      rw [e]
      exact limits_rd' _ (nat_beq_no k1) _ ⟨nat_beq_no h8, nat_beq_no h9, nat_beq_no h2, nat_beq_no h10⟩
  · have e : Mg.low k j = 0 := by unfold Mg.low; rw [if_neg (by omega), if_neg (by omega)]
    rw [e]
    refine limits_at _ _ (nat_beq_no h8) (nat_beq_no h9) (nat_beq_no k1) (nat_beq_no (m := 2) (fun q => k23 (.inl q))) (nat_beq_no (m := 3) (fun q => k23 (.inr q))) ?_
    by_cases h2 : j = 2
    · exact .inl (nat_beq_yes h2)
    by_cases h10 : j = 10
    · exact .inr (.inl ⟨nat_beq_no h2, nat_beq_yes h10⟩)
    · exact .inr (.inr ⟨nat_beq_no h2, nat_beq_no h10⟩)
/-! ### who -/
def Mg.cliFrom (k : Nat) : Bool := decide (k = 0) || decide (k = 2)
def Mg.cliTo (k : Nat) : Bool := decide (k = 1) || decide (k = 3)
set_option maxRecDepth 100000 in
set_option maxHeartbeats 2000000 in
theorem who_gen (k : Nat) (fr to : Int) (g : Nat) (c0 : w.cell? ⟨g, 0, none⟩ = some (.int .i64 (k : Int))) (c1 : w.cell? ⟨g, 1, none⟩ = some (.int .i64 fr)) (c2 : w.cell? ⟨g, 2, none⟩ = some (.int .i64 to)) (hf : Tp.whoOk (Mg.cliFrom k) fr) (ht : Tp.whoOk (Mg.cliTo k) to) :
    Calls Tryz.prog 82 #[.pointer (some ⟨g, 0, none⟩)] w fun e w' => e = .returned (.bool true) ∧ w = w' := by
  have hc : (k = 0 ∨ k = 2 ∨ k = 1 ∨ k = 3) ∨ (((k : Int) == 0) = false ∧ ((k : Int) == 2) = false ∧ ((k : Int) == 1) = false ∧ ((k : Int) == 3) = false) := by
    by_cases q : k = 0 ∨ k = 2 ∨ k = 1 ∨ k = 3
    · exact .inl q
    · exact .inr ⟨nat_beq_no (m := 0) (by omega), nat_beq_no (m := 2) (by omega), nat_beq_no (m := 1) (by omega), nat_beq_no (m := 3) (by omega)⟩
  rcases hc with (rfl | rfl | rfl | rfl) | ⟨q0, q2, q1, q3⟩
  case inr =>
    have e1 : Mg.cliFrom k = false := by unfold Mg.cliFrom; simp at q0 q2 ⊢; omega
    have e2 : Mg.cliTo k = false := by unfold Mg.cliTo; simp at q1 q3 ⊢; omega
    rw [e1] at hf
    rw [e2] at ht
    simp only [Tp.whoOk, Bool.false_eq_true, if_false] at hf ht
    go_enter Tryz.func82, Tryz.ntmps82
    go_wp2_with fail
    refine (msgNode_yes _ hf.1 hf.2).mono ?_
    rintro e w1 ⟨rfl, rfl⟩
    go_wp2_with fail
    refine (msgNode_yes _ ht.1 ht.2).mono ?_
    rintro e w1 ⟨rfl, rfl⟩
    go_wp2_with fail
    go_ret
    exact ⟨rfl, rfl⟩
  all_goals
    simp [Tp.whoOk, Mg.cliFrom, Mg.cliTo] at hf ht
    go_enter Tryz.func82, Tryz.ntmps82
    go_wp2_with fail
    first
      | refine (msgClient_yes _ hf.1 hf.2).mono ?_
      | refine (msgNode_yes _ hf.1 hf.2).mono ?_
    rintro e w1 ⟨rfl, rfl⟩
    go_wp2_with fail
    first
      | refine (msgClient_yes _ ht.1 ht.2).mono ?_
      | refine (msgNode_yes _ ht.1 ht.2).mono ?_
    rintro e w1 ⟨rfl, rfl⟩
    go_wp2_with fail
    go_ret
    exact ⟨rfl, rfl⟩
end
end Go.Proofs.YtcchekmejnhlmaaGreat
/- message.May at every kind of message: the walk. -/
namespace Go.Proofs.YtcchekmejnhlmaaGreat
open Go.RowKit
set_option linter.unusedVariables false

/-- a message as it lies in a value: its numbers, its series, its batch, its log, its text -/
def Mg.cells (m : Tp.Msg) (ser : ByteArray) (A : Option Addr) (n cap : Nat) (base : Int) (snap : ByteArray) (A' : Option Addr) (n' cap' : Nat) (txt : ByteArray) : List Value :=
  [.int .i64 m.kind, .int .i64 m.frm, .int .i64 m.to, .int .i64 m.view, .int .i64 m.normal, .int .i64 m.at_, .int .i64 m.commit, .int .i64 m.round, .int .i64 m.client, .int .i64 m.session, .int .i64 m.number, .int .i64 m.code, .int .i64 m.agg, .int .i64 m.until_, .string ser, .slice A n cap, .int .i64 base, .string snap, .slice A' n' cap', .string txt]
structure Mg.Ok (k : Nat) (m : Tp.Msg) (ser : ByteArray) (nb : Nat) (base : Int) (ne : Nat) (txt : ByteArray) : Prop where
  lt : k < 17
  kind : m.kind = (k : Int)
  frm : Tp.whoOk (Mg.cliFrom k) m.frm
  to : Tp.whoOk (Mg.cliTo k) m.to
  has : ∀ j : Nat, j < 11 → (j : Int) ∉ Mg.flds k → m.fld j = 0
  low : ∀ j : Nat, j < 11 → Mg.low k j ≤ m.fld j
  high : ∀ j : Nat, j < 11 → m.fld j ≤ Tp.high j
  ser1 : (11 : Int) ∈ Mg.flds k → Pt.nameB ser = true
  ser0 : (11 : Int) ∉ Mg.flds k → ser = ⟨#[]⟩
  bat0 : (12 : Int) ∉ Mg.flds k → nb = 0
  log0 : (13 : Int) ∉ Mg.flds k → base = 0 ∧ ne = 0
  txt1 : txt.size ≤ 65536
  txt0 : (14 : Int) ∉ Mg.flds k → txt = ⟨#[]⟩
section
variable {w : World}
set_option maxRecDepth 100000 in
set_option maxHeartbeats 4000000 in
theorem msgMay_gen (k : Nat) (m : Tp.Msg) (ser : ByteArray) (A : Option Addr) (cap : Nat) (ps : List Pt.Point) (base : Int) (snap : ByteArray) (A' : Option Addr) (cap' : Nat) (es : List Ent) (txt : ByteArray) (h : Mg.Ok k m ser ps.length base es.length txt)
    (hF : ∀ W : World, Calls Tryz.prog 81 #[.int .i64 (k : Int)] W (FieldsPost W (Mg.flds k)))
    (hr : Reads w w.heap.size 3 A ps.length (ps.flatMap pointCells)) (hp : Pt.batchB ps = true) (hp8 : ps.length ≤ 8) (hwf : ∀ p ∈ ps, Pt.wf p) (hl : LogOk w A' es) (hlb : Sv.logB base snap es = true) (hsn : snap.size ≤ maxLen) (hes : es.length ≤ 4096) :
    Calls Tryz.prog 46 #[.agg (Mg.cells m ser A ps.length cap base snap A' es.length cap' txt).toArray] w fun e w' => e = .returned (.bool true) ∧ Below w.heap.size w w' := by
  have hB := Blk.new w 39 (Mg.cells m ser A ps.length cap base snap A' es.length cap' txt).toArray
  have hb1 : Below w.heap.size w (w.alloc (.cells (Mg.cells m ser A ps.length cap base snap A' es.length cap' txt).toArray 39)) := (Below.refl _ _).alloc (Nat.le_refl _) _
  have hk := h.kind
  have hk17 := h.lt
  have HF := Lib.hid (hF (w.alloc (.cells (Mg.cells m ser A ps.length cap base snap A' es.length cap' txt).toArray 39)))
  have HW : Hid (∀ W, Blk W w.heap.size 39 (Mg.cells m ser A ps.length cap base snap A' es.length cap' txt).toArray → Calls Tryz.prog 82 #[.pointer (some ⟨w.heap.size, 0, none⟩)] W fun e w' => e = .returned (.bool true) ∧ W = w') := fun W hb => who_gen k m.frm m.to _ ((hb.cell 0).trans (by show some (Value.int .i64 m.kind) = _; rw [hk])) ((hb.cell 1).trans rfl) ((hb.cell 2).trans rfl) h.frm h.to
  have HBt : Hid (∀ W, Below w.heap.size w W → Calls Tryz.prog 86 #[.slice A ps.length cap] W fun e w' => e = .returned (.bool true) ∧ Below W.heap.size W w') := fun W hb => by
    have := batch_any A cap ps W w.heap.size (hr.below hb) hb.size (by omega) hwf
    rw [hp] at this
    exact this
  have HML : Hid (∀ W, Below w.heap.size w W → Calls Tryz.prog 87 #[.agg #[.int .i64 base, .string snap, .slice A' es.length cap']] W fun e w' => e = .returned (.bool true) ∧ Below W.heap.size W w') := fun W hb => by
    have := mayLog_any base snap A' cap' es W (hl.below hb) hsn (by omega)
    rw [hlb] at this
    exact this
  have HB := Lib.hid hB
  have Hb1 := Lib.hid hb1
  have HLim := Lib.hid (fun (W : World) (j : Nat) (hj : j < 11) => limits_gen (w := W) k j hk17 hj)
  have h7 := Mg.fld_len k hk17
  have HFl := Lib.hid (fun i hi => Mg.fld_at hk17 i hi)
  clear hB hb1 hr hwf hl hF hlb hp
  go_enter Tryz.func46, Tryz.ntmps46
  unfold Mg.cells
  go_wp2_with fail
  rw [hk]
  change Calls _ _ _ (w.alloc (.cells #[.int .i64 (k : Int), .int .i64 m.frm, .int .i64 m.to, .int .i64 m.view, .int .i64 m.normal, .int .i64 m.at_, .int .i64 m.commit, .int .i64 m.round, .int .i64 m.client, .int .i64 m.session, .int .i64 m.number, .int .i64 m.code, .int .i64 m.agg, .int .i64 m.until_, .string ser, .slice A ps.length cap, .int .i64 base, .string snap, .slice A' es.length cap', .string txt] 39)) _
  rw [← hk]
  change Calls _ _ _ (w.alloc (.cells (Mg.cells m ser A ps.length cap base snap A' es.length cap' txt).toArray 39)) _
  generalize w.alloc (.cells (Mg.cells m ser A ps.length cap base snap A' es.length cap' txt).toArray 39) = w1 at *
  rw [hk]
  refine HF.out.mono ?_
  rintro e w2 ⟨b, rfl, hr, hb2⟩
  have HB2 := Lib.hid (HB.out.below hb2 (by have := HB.out.lt; omega))
  have Hb2 := Lib.hid (Hb1.out.trans (hb2.mono Hb1.out.size))
  have HR := Lib.hid hr
  clear hr hb2 HF Hb1 HB
  go_wp2_with fail
  refine (HW.out _ HB2.out).mono ?_
  rintro e w3 ⟨rfl, rfl⟩
  go_wp2_with fail
  rw [← Tp.hasL_nil]
  have hH := Blk.new w2 146 (Tp.hasL [])
  have HHs := Lib.hid hH
  have Hb3 := Lib.hid (Hb2.out.alloc Hb2.out.size (.cells (Tp.hasL []) 146))
  have HB3 := Lib.hid (HB2.out.alloc (.cells (Tp.hasL []) 146))
  have HR3 := Lib.hid (HR.out.alloc (Nat.le_refl _) (.cells (Tp.hasL []) 146))
  have hgh : w.heap.size < w2.heap.size := HB2.out.lt
  clear hH Hb2 HB2 HR HW
  generalize w2.heap.size = gh at *
  generalize w2.alloc (.cells (Tp.hasL []) 146) = w3 at *
  go_loopw [7, 26] (fun f i wr => ∃ n : Nat, n ≤ (Mg.flds k).length ∧ i = .int .i64 (n : Int) ∧ Hid (Blk wr gh 146 (Tp.hasL ((Mg.flds k).take n))) ∧ Hid (Blk wr w.heap.size 39 (Mg.cells m ser A ps.length cap base snap A' es.length cap' txt).toArray) ∧ Hid (Reads wr gh 1 (some ⟨b, 0, none⟩) (Mg.flds k).length ((Mg.flds k).map (Value.int .i64))) ∧ Hid (Below w.heap.size w wr)) (fun _ i _ => (Mg.flds k).length - (intOf i).toNat)
  case atStart => exact ⟨0, Nat.zero_le _, rfl, HHs, HB3, HR3, Hb3⟩
  case round =>
    obtain ⟨n, hn', rfl, HHs, HB3, HR3, Hb3⟩ := hrel
    by_cases hlt : n < (Mg.flds k).length
    · obtain ⟨j, hj, hj15⟩ := HFl.out n hlt
      have hc1 : wr.cell? ⟨b, n, none⟩ = some (.int .i64 (j : Int)) := reads1_cell HR3.out hlt (by rw [List.getElem?_map, List.getElem?_eq_getElem hlt, hj]; rfl)
      have hc2 : wr.cell? ⟨gh, j, none⟩ = some (.bool (decide ((j : Int) ∈ (Mg.flds k).take n))) := (HHs.out.cell j).trans (Tp.hasL_at _ _ hj15)
      have hf2 : wr.frozen? ⟨gh, j, none⟩ = false := HHs.out.frozen j
      have hlt' : (n : Int) < ((Mg.flds k).length : Int) := by omega
      have hj' : (j : Int) < 15 := by omega
      have HHn : Hid (Blk (wr.setCell ⟨gh, j, none⟩ (.bool true)) gh 146 (Tp.hasL ((Mg.flds k).take (n + 1)))) := by
        have := HHs.out.set_ j (.bool true)
        rw [Tp.hasL_put _ _ hj15] at this
        rw [List.take_succ_eq_append_getElem hlt, hj]
        exact this
      have HBn : Hid (Blk (wr.setCell ⟨gh, j, none⟩ (.bool true)) w.heap.size 39 (Mg.cells m ser A ps.length cap base snap A' es.length cap' txt).toArray) := HB3.out.far (by show w.heap.size ≠ gh; omega) _
      have HRn := Lib.hid (HR3.out.below ((Below.refl gh wr).setCell (p := ⟨gh, j, none⟩) (Nat.le_refl _) (.bool true)))
      have Hbn : Hid (Below w.heap.size w (wr.setCell ⟨gh, j, none⟩ (.bool true))) := Hb3.out.setCell (p := ⟨gh, j, none⟩) (by show w.heap.size ≤ gh; omega) _
      clear HHs HB3 HR3 Hb3
      go_wp2_with fail
      go_roundw
      case rel => exact ⟨n + 1, by omega, by go_num, HHn, HBn, HRn, Hbn⟩
      case measure => simp [intOf]; omega
    · have htk : (Mg.flds k).take n = Mg.flds k := List.take_of_length_le (by omega)
      rw [htk] at HHs
      have hlt' : ¬ (n : Int) < ((Mg.flds k).length : Int) := by omega
      clear HR3 HFl htk
      have HFd : Hid (∀ j : Nat, j < 11 → wr.cell? ⟨w.heap.size, j + 3, none⟩ = some (.int .i64 (m.fld j))) := fun j hj => (HB3.out.cell (j + 3)).trans (by
        rcases (by omega : j = 0 ∨ j = 1 ∨ j = 2 ∨ j = 3 ∨ j = 4 ∨ j = 5 ∨ j = 6 ∨ j = 7 ∨ j = 8 ∨ j = 9 ∨ j = 10) with rfl | rfl | rfl | rfl | rfl | rfl | rfl | rfl | rfl | rfl | rfl <;> rfl)
      go_wp2_with fail
      go_loopw [8, 9, 10, 11, 33] (fun _ _ _ _ i wq => ∃ n : Nat, n ≤ 15 ∧ i = .int .i64 (n : Int) ∧ wr = wq) (fun _ _ _ _ i _ => 15 - (intOf i).toNat)
      case atStart => exact ⟨0, Nat.zero_le _, rfl, rfl⟩
      case round =>
        obtain ⟨n', hn15, rfl, rfl⟩ := hrel
        by_cases hlt : n' < 15
        · have hlt' : (n' : Int) < 15 := by omega
          by_cases h11 : n' < 11
          · have HL := Lib.hid (HLim.out wr n' h11)
            have hcf := HFd.out n' h11
            have hck : wr.cell? ⟨w.heap.size, 0, none⟩ = some (.int .i64 (k : Int)) := (HB3.out.cell 0).trans (by rw [← hk]; rfl)
            have hch : wr.cell? ⟨gh, n', none⟩ = some (.bool (decide ((n' : Int) ∈ Mg.flds k))) := (HHs.out.cell n').trans (Tp.hasL_at _ _ hlt)
            have dl : ¬ m.fld n' < Mg.low k n' := by have := h.low n' h11; omega
            have dh : ¬ Tp.high n' < m.fld n' := by have := h.high n' h11; omega
            have dz : decide ((n' : Int) ∈ Mg.flds k) = false → m.fld n' = 0 := fun e => h.has n' h11 (of_decide_eq_false e)
            go_wp2_with fail
            refine (msgNumber_any _ n' h11).mono ?_
            rintro e w4 ⟨rfl, rfl⟩
            go_wp2_with fail
            refine HL.out.mono ?_
            rintro e w4 ⟨rfl, rfl⟩
            cases hb : decide ((n' : Int) ∈ Mg.flds k)
            · rw [hb] at hch
              have dz' := dz hb
              clear dz hb
              generalize m.fld n' = x at *
              generalize Mg.low k n' = lo at *
              generalize Tp.high n' = hi at *
              subst dz'
              go_wp2_with fail
              go_roundw
              case rel => exact ⟨n' + 1, by omega, by go_num, by first | rfl | trivial⟩
              case measure => simp [intOf]; omega
            · rw [hb] at hch
              clear dz hb
              generalize m.fld n' = x at *
              generalize Mg.low k n' = lo at *
              generalize Tp.high n' = hi at *
              go_wp2_with fail
              go_roundw
              case rel => exact ⟨n' + 1, by omega, by go_num, by first | rfl | trivial⟩
              case measure => simp [intOf]; omega
          · go_wp2_with fail
            refine (msgNumber_nil _ n' (by omega) hlt).mono ?_
            rintro e w4 ⟨rfl, rfl⟩
            go_wp2_with fail
            go_roundw
            case rel => exact ⟨n' + 1, by omega, by go_num, by first | rfl | trivial⟩
            case measure => simp [intOf]; omega
        · have hlt' : ¬ (n' : Int) < 15 := by omega
          have h11 : wr.cell? ⟨gh, 11, none⟩ = some (.bool (decide ((11 : Int) ∈ Mg.flds k))) := (HHs.out.cell 11).trans (Tp.hasL_at _ 11 (by omega))
          have h12 : wr.cell? ⟨gh, 12, none⟩ = some (.bool (decide ((12 : Int) ∈ Mg.flds k))) := (HHs.out.cell 12).trans (Tp.hasL_at _ 12 (by omega))
          have h13 : wr.cell? ⟨gh, 13, none⟩ = some (.bool (decide ((13 : Int) ∈ Mg.flds k))) := (HHs.out.cell 13).trans (Tp.hasL_at _ 13 (by omega))
          have h14 : wr.cell? ⟨gh, 14, none⟩ = some (.bool (decide ((14 : Int) ∈ Mg.flds k))) := (HHs.out.cell 14).trans (Tp.hasL_at _ 14 (by omega))
          have m14 : wr.cell? ⟨w.heap.size, 14, none⟩ = some (.string ser) := (HB3.out.cell 14).trans rfl
          have m15 : wr.cell? ⟨w.heap.size, 15, none⟩ = some (.slice A ps.length cap) := (HB3.out.cell 15).trans rfl
          have m16 : wr.cell? ⟨w.heap.size, 16, none⟩ = some (.int .i64 base) := (HB3.out.cell 16).trans rfl
          have m17 : wr.cell? ⟨w.heap.size, 17, none⟩ = some (.string snap) := (HB3.out.cell 17).trans rfl
          have m18 : wr.cell? ⟨w.heap.size, 18, none⟩ = some (.slice A' es.length cap') := (HB3.out.cell 18).trans rfl
          have m19 : wr.cell? ⟨w.heap.size, 19, none⟩ = some (.string txt) := (HB3.out.cell 19).trans rfl
          have s1 : decide ((11 : Int) ∈ Mg.flds k) = true → Pt.nameB ser = true := fun e => h.ser1 (of_decide_eq_true e)
          have s0 : decide ((11 : Int) ∈ Mg.flds k) = false → ser = ⟨#[]⟩ := fun e => h.ser0 (of_decide_eq_false e)
          have t0 : decide ((14 : Int) ∈ Mg.flds k) = false → txt = ⟨#[]⟩ := fun e => h.txt0 (of_decide_eq_false e)
          have b0 : decide ((12 : Int) ∈ Mg.flds k) = false → ps.length = 0 := fun e => h.bat0 (of_decide_eq_false e)
          have l0 : decide ((13 : Int) ∈ Mg.flds k) = false → base = 0 ∧ es.length = 0 := fun e => h.log0 (of_decide_eq_false e)
          have ts := h.txt1
          have hgl : gh < wr.heap.size := HHs.out.lt
          clear HFd HHs HB3 HLim h hk
          generalize decide ((11 : Int) ∈ Mg.flds k) = b11 at *
          generalize decide ((12 : Int) ∈ Mg.flds k) = b12 at *
          generalize decide ((13 : Int) ∈ Mg.flds k) = b13 at *
          generalize decide ((14 : Int) ∈ Mg.flds k) = b14 at *
          have hwl : w.heap.size < wr.heap.size := by omega
          have tsz : ¬ (65536 : Int) < (txt.size : Int) := by omega
          have e0 : ((⟨#[]⟩ : ByteArray).toList == (⟨#[]⟩ : ByteArray).toList) = true := by simp
          have z0 : ((⟨#[]⟩ : ByteArray).size : Int) = 0 := rfl
          have Hs1 := Lib.hid s1
          have Hb0 := Lib.hid b0
          have Hl0 := Lib.hid l0
          clear s1 b0 l0
          cases b11 <;> cases b14
          all_goals
            try obtain rfl := s0 rfl
            try obtain rfl := t0 rfl
            clear s0 t0 ts
            go_wp2_with fail
            first
              | (refine (name_any _ _).mono ?_
                 rintro e w0 ⟨rfl, hw0⟩
                 subst hw0
                 have hnm : Pt.nameB ser = true := Hs1.out (by trivial)
                 rw [hnm]
                 go_wp2_with fail)
              | skip
            refine (HBt.out wr Hb3.out).mono ?_
            rintro e w4 ⟨rfl, hb4⟩
            rw [← hb4.cell (p := ⟨gh, _, none⟩) hgl] at h12 h13
            rw [← hb4.cell (p := ⟨w.heap.size, _, none⟩) hwl] at m15 m16 m17 m18
            have Hb4 := Lib.hid (Hb3.out.trans (hb4.mono Hb3.out.size))
            have hg4 : gh < w4.heap.size := by have := hb4.size; omega
            have hw4 : w.heap.size < w4.heap.size := by omega
            clear hb4
            have hnb : b12 = false → ¬ (0 : Int) < (ps.length : Int) := fun e => by have := Hb0.out e; omega
            have nl : ¬ (ps.length : Int) < 0 := by omega
            cases b12
            all_goals
              try have hnb' := hnb rfl
              clear hnb
              go_wp2_with fail
              refine (HML.out w4 Hb4.out).mono ?_
              rintro e w5 ⟨rfl, hb5⟩
              rw [← hb5.cell (p := ⟨gh, _, none⟩) hg4] at h13
              rw [← hb5.cell (p := ⟨w.heap.size, _, none⟩) hw4] at m16 m17 m18
              have Hb5 := Lib.hid (Hb4.out.trans (hb5.mono Hb4.out.size))
              clear hb5
              cases b13
              · have g1 : (base == 0) = true := beq_iff_eq.2 (Hl0.out (by trivial)).1
                have g2 : ((es.length : Int) == 0) = true := beq_iff_eq.2 (by have := (Hl0.out (by trivial)).2; omega)
                go_wp2_with fail
                go_ret
                exact ⟨rfl, Hb5.out⟩
              · go_wp2_with fail
                go_ret
                exact ⟨rfl, Hb5.out⟩
end
end Go.Proofs.YtcchekmejnhlmaaGreat
/- Ev: cell.put and vault.high: a number in eight bytes, the highest first. -/
namespace Go.Proofs.YtcchekmejnhlmaaGreat
open Go.RowKit
set_option linter.unusedVariables false

/-- how the eight bytes stand when k of them are written -/
def put8 (x k : Nat) : List UInt8 := (List.range 8).map fun p => if 8 ≤ p + k then UInt8.ofNat (x / 256 ^ (7 - p) % 256) else 0
theorem put8_len (x k : Nat) : (put8 x k).length = 8 := by simp [put8]
theorem put8_zero (x : Nat) : put8 x 0 = List.replicate 8 0 := by rfl
theorem put8_step (x k : Nat) (hk : k < 8) : (put8 x k).set (7 - k) (UInt8.ofNat (x / 256 ^ k % 256)) = put8 x (k + 1) := by
  rcases (by omega : k = 0 ∨ k = 1 ∨ k = 2 ∨ k = 3 ∨ k = 4 ∨ k = 5 ∨ k = 6 ∨ k = 7) with rfl | rfl | rfl | rfl | rfl | rfl | rfl | rfl <;> rfl
def beN : Nat → Nat → List UInt8
  | 0, _ => []
  | n + 1, x => beN n (x / 256) ++ [UInt8.ofNat (x % 256)]
theorem beN_pk : ∀ n x, Ev.pk (beN n x) = x % 256 ^ n
  | 0, x => by rw [beN, Nat.pow_zero, Nat.mod_one]; rfl
  | n + 1, x => by
    have e : Ev.pk [UInt8.ofNat (x % 256)] = x % 256 := by
      rw [Ev.pk_cons]; show 1 * _ + Ev.pk [] = _
      rw [Nat.one_mul, UInt8.toNat_ofNat', Nat.mod_mod]; rfl
    rw [beN, Ev.pk_append, beN_pk n, e, Nat.pow_succ, Nat.mul_comm (256 ^ n) 256, Nat.mod_mul]
    show 256 ^ 1 * _ + _ = _
    rw [Nat.pow_one, Nat.add_comm]
theorem put8_be (x : Nat) : put8 x 8 = beN 8 x := by
  have e : put8 x 8 = [UInt8.ofNat (x / 256 ^ 7 % 256), UInt8.ofNat (x / 256 ^ 6 % 256), UInt8.ofNat (x / 256 ^ 5 % 256), UInt8.ofNat (x / 256 ^ 4 % 256), UInt8.ofNat (x / 256 ^ 3 % 256), UInt8.ofNat (x / 256 ^ 2 % 256), UInt8.ofNat (x / 256 ^ 1 % 256), UInt8.ofNat (x / 256 ^ 0 % 256)] := rfl
  rw [e]
  simp [beN, Nat.div_div_eq_div_mul]
theorem put8_pk (x : Nat) (hx : x < 18446744073709551616) : Ev.pk (put8 x 8) = x := by
  rw [put8_be, beN_pk]
  exact Nat.mod_eq_of_lt hx
theorem x_made_bytes (n : Nat) : madeCells (Value.int .u8 0).cells (n * 1) = ((List.replicate n (0 : UInt8)).map byteV).toArray := by
  apply Array.ext_getElem?
  intro i
  simp only [madeCells, Value.cells, Nat.mul_one]
  by_cases h : i < n
  · simp [h, Nat.mod_one]; rfl
  · simp [h]
theorem x_own_bytes (W : World) (ys : List UInt8) (h : ys.length ≤ maxLen) : (W.alloc (.cells (ys.map byteV).toArray 5)).ownsRow W.heap.size 5 1 (.slice (some ⟨W.heap.size, 0, none⟩) ys.length ys.length) ys.length (ys.map byteV) :=
  ⟨by simp, .inr ⟨W.heap.size, ys.length, (ys.map byteV).toArray, rfl, Nat.le_refl _, heap_alloc_new W _, Nat.le_refl _, h, by simp, by rw [Nat.mul_one]; exact List.take_of_length_le (by simp)⟩⟩
theorem x_make_bytes (n : Nat) (hn : n ≤ 1000000) (W : World) : (Instr.makeSlice 127 (.int .i64 (n : Int)) (.int .i64 (n : Int))).run Tryz.prog W = .ok (.slice (some ⟨W.heap.size, 0, none⟩) n n) (W.alloc (.cells ((List.replicate n (0 : UInt8)).map byteV).toArray 5)) := by
  obtain ⟨i0, hi, hz0, hz1, hz2⟩ := info_parts info_u8
  have := run_make_rowN (P := Tryz.prog) 127 5 i0 _ Tryz.underlying127 hi hz0 .i64 .i64 n n (Nat.le_refl _) (by rw [hz2]; omega) (by omega) W
  rw [hz1, x_made_bytes] at this
  exact this
section
variable {w : World}
theorem putX_round {wr : World} {x k : Nat} (HO : Hid (wr.ownsRow w.heap.size 5 1 (.slice (some ⟨w.heap.size, 0, none⟩) 8 8) 8 ((put8 x k).map byteV))) (Hb : Hid (Below w.heap.size w wr)) (hk : k < 8) (i : Value) (hi : i = .int .i64 ((k + 1 : Nat) : Int)) (j : Nat) (hj : j = 7 - k) (z : Int) (hz : z = ((x / 256 ^ k % 256 : Nat) : Int)) :
    ∃ (k : Nat), k ≤ 8 ∧ i = .int .i64 (k : Int) ∧ Hid ((wr.setCell ⟨w.heap.size, j, none⟩ (.int .u8 z)).ownsRow w.heap.size 5 1 (.slice (some ⟨w.heap.size, 0, none⟩) 8 8) 8 ((put8 x k).map byteV)) ∧ Hid (Below w.heap.size w (wr.setCell ⟨w.heap.size, j, none⟩ (.int .u8 z))) := by
  refine ⟨k + 1, by omega, hi, ?_, Hb.out.setCell (p := ⟨w.heap.size, j, none⟩) (Nat.le_refl _) _⟩
  show World.ownsRow _ _ _ _ _ _ _
  have e : Value.int .u8 z = byteV (UInt8.ofNat (x / 256 ^ k % 256)) := by
    rw [hz]
    show _ = Value.int .u8 ((UInt8.ofNat (x / 256 ^ k % 256)).toNat : Int)
    rw [UInt8.toNat_ofNat', Nat.mod_mod]
  rw [e, ← put8_step x k hk, List.map_set, hj]
  exact own_set HO.out (7 - k) (byteV (UInt8.ofNat (x / 256 ^ k % 256)))
set_option maxRecDepth 100000 in
set_option maxHeartbeats 2000000 in
theorem cellPutX (x : Nat) (hx : x < 18446744073709551616) : Calls Tryz.prog 167 #[.int .u64 (x : Int), .int .i64 8] w fun e w' => e = .returned (.string ⟨(put8 x 8).toArray⟩) ∧ Below w.heap.size w w' := by
  have hmk := x_make_bytes 8 (by omega) w
  rw [show ((8 : Nat) : Int) = 8 from rfl] at hmk
  have hO := x_own_bytes w (List.replicate 8 0) (by simp [maxLen])
  have hbe : Below w.heap.size w (w.alloc (.cells ((List.replicate 8 (0 : UInt8)).map byteV).toArray 5)) := (Below.refl _ _).alloc (Nat.le_refl _) _
  rw [List.length_replicate] at hO
  have HO : Hid ((w.alloc (.cells ((List.replicate 8 (0 : UInt8)).map byteV).toArray 5)).ownsRow w.heap.size 5 1 (.slice (some ⟨w.heap.size, 0, none⟩) 8 8) 8 ((put8 x 0).map byteV)) := by
    rw [put8_zero]
    exact Lib.hid hO
  have Hbe := Lib.hid hbe
  clear hO hbe
  generalize ((List.replicate 8 (0 : UInt8)).map byteV).toArray = cs at *
  go_enter Tryz.func167, Tryz.ntmps167
  go_wp2_with fail
  go_loopw [6, 11] (fun _ i wr => ∃ (k : Nat), k ≤ 8 ∧ i = .int .i64 (k : Int) ∧ Hid (wr.ownsRow w.heap.size 5 1 (.slice (some ⟨w.heap.size, 0, none⟩) 8 8) 8 ((put8 x k).map byteV)) ∧ Hid (Below w.heap.size w wr)) (fun _ i _ => 8 - (intOf i).toNat)
  case atStart => exact ⟨0, Nat.zero_le _, rfl, HO, Hbe⟩
  case round =>
    obtain ⟨k, hk, rfl, HO, Hb⟩ := hrel
    have hl := put8_len x k
    by_cases hlt : k < 8
    · have hcell : ∀ j, j < 8 → ∃ v, wr.cell? ⟨w.heap.size, j, none⟩ = some v := fun j hj => ⟨_, own_cell HO.out (u := byteV ((put8 x k)[j]'(by omega))) (by rw [List.getElem?_map, List.getElem?_eq_getElem (by omega)]; rfl)⟩
      obtain ⟨v, hv⟩ := hcell (7 - k) (by omega)
      have fz := own_frozen HO.out (7 - k)
      rcases (by omega : k = 0 ∨ k = 1 ∨ k = 2 ∨ k = 3 ∨ k = 4 ∨ k = 5 ∨ k = 6 ∨ k = 7) with rfl | rfl | rfl | rfl | rfl | rfl | rfl | rfl
      · go_wp2_with fail
        refine ⟨?_, by simp [intOf]⟩
        exact putX_round HO Hb (by omega) _ rfl 7 rfl _ (by simp only [Nat.reducePow]; omega)
      · go_wp2_with fail
        refine ⟨?_, by simp [intOf]⟩
        exact putX_round HO Hb (by omega) _ rfl 6 rfl _ (by simp only [Nat.reducePow]; omega)
      · go_wp2_with fail
        refine ⟨?_, by simp [intOf]⟩
        exact putX_round HO Hb (by omega) _ rfl 5 rfl _ (by simp only [Nat.reducePow]; omega)
      · go_wp2_with fail
        refine ⟨?_, by simp [intOf]⟩
        exact putX_round HO Hb (by omega) _ rfl 4 rfl _ (by simp only [Nat.reducePow]; omega)
      · go_wp2_with fail
        refine ⟨?_, by simp [intOf]⟩
        exact putX_round HO Hb (by omega) _ rfl 3 rfl _ (by simp only [Nat.reducePow]; omega)
      · go_wp2_with fail
        refine ⟨?_, by simp [intOf]⟩
        exact putX_round HO Hb (by omega) _ rfl 2 rfl _ (by simp only [Nat.reducePow]; omega)
      · go_wp2_with fail
        refine ⟨?_, by simp [intOf]⟩
        exact putX_round HO Hb (by omega) _ rfl 1 rfl _ (by simp only [Nat.reducePow]; omega)
      · go_wp2_with fail
        refine ⟨?_, by simp [intOf]⟩
        exact putX_round HO Hb (by omega) _ rfl 0 rfl _ (by simp only [Nat.reducePow]; omega)
    · have hk8 : ¬ (k : Int) < 8 := by omega
      obtain rfl : k = 8 := by omega
      have hconv := conv_own HO.out hl
      go_wp2_with fail
      go_ret
      exact ⟨rfl, Hb.out⟩
set_option maxRecDepth 100000 in
set_option maxHeartbeats 2000000 in
theorem vaultHighX (x : Nat) (hx : x < 18446744073709551616) : Calls Tryz.prog 197 #[.int .u64 (x : Int), .int .i64 8] w fun e w' => e = .returned (.string ⟨(put8 x 8).toArray⟩) ∧ Below w.heap.size w w' := by
  have hmk := x_make_bytes 8 (by omega) w
  rw [show ((8 : Nat) : Int) = 8 from rfl] at hmk
  have hO := x_own_bytes w (List.replicate 8 0) (by simp [maxLen])
  have hbe : Below w.heap.size w (w.alloc (.cells ((List.replicate 8 (0 : UInt8)).map byteV).toArray 5)) := (Below.refl _ _).alloc (Nat.le_refl _) _
  rw [List.length_replicate] at hO
  have HO : Hid ((w.alloc (.cells ((List.replicate 8 (0 : UInt8)).map byteV).toArray 5)).ownsRow w.heap.size 5 1 (.slice (some ⟨w.heap.size, 0, none⟩) 8 8) 8 ((put8 x 0).map byteV)) := by
    rw [put8_zero]
    exact Lib.hid hO
  have Hbe := Lib.hid hbe
  clear hO hbe
  generalize ((List.replicate 8 (0 : UInt8)).map byteV).toArray = cs at *
  go_enter Tryz.func197, Tryz.ntmps197
  go_wp2_with fail
  go_loopw [6, 11] (fun _ i wr => ∃ (k : Nat), k ≤ 8 ∧ i = .int .i64 (k : Int) ∧ Hid (wr.ownsRow w.heap.size 5 1 (.slice (some ⟨w.heap.size, 0, none⟩) 8 8) 8 ((put8 x k).map byteV)) ∧ Hid (Below w.heap.size w wr)) (fun _ i _ => 8 - (intOf i).toNat)
  case atStart => exact ⟨0, Nat.zero_le _, rfl, HO, Hbe⟩
  case round =>
    obtain ⟨k, hk, rfl, HO, Hb⟩ := hrel
    have hl := put8_len x k
    by_cases hlt : k < 8
    · have hcell : ∀ j, j < 8 → ∃ v, wr.cell? ⟨w.heap.size, j, none⟩ = some v := fun j hj => ⟨_, own_cell HO.out (u := byteV ((put8 x k)[j]'(by omega))) (by rw [List.getElem?_map, List.getElem?_eq_getElem (by omega)]; rfl)⟩
      obtain ⟨v, hv⟩ := hcell (7 - k) (by omega)
      have fz := own_frozen HO.out (7 - k)
      rcases (by omega : k = 0 ∨ k = 1 ∨ k = 2 ∨ k = 3 ∨ k = 4 ∨ k = 5 ∨ k = 6 ∨ k = 7) with rfl | rfl | rfl | rfl | rfl | rfl | rfl | rfl
      · go_wp2_with fail
        refine ⟨?_, by simp [intOf]⟩
        exact putX_round HO Hb (by omega) _ rfl 7 rfl _ (by simp only [Nat.reducePow]; omega)
      · go_wp2_with fail
        refine ⟨?_, by simp [intOf]⟩
        exact putX_round HO Hb (by omega) _ rfl 6 rfl _ (by simp only [Nat.reducePow]; omega)
      · go_wp2_with fail
        refine ⟨?_, by simp [intOf]⟩
        exact putX_round HO Hb (by omega) _ rfl 5 rfl _ (by simp only [Nat.reducePow]; omega)
      · go_wp2_with fail
        refine ⟨?_, by simp [intOf]⟩
        exact putX_round HO Hb (by omega) _ rfl 4 rfl _ (by simp only [Nat.reducePow]; omega)
      · go_wp2_with fail
        refine ⟨?_, by simp [intOf]⟩
        exact putX_round HO Hb (by omega) _ rfl 3 rfl _ (by simp only [Nat.reducePow]; omega)
      · go_wp2_with fail
        refine ⟨?_, by simp [intOf]⟩
        exact putX_round HO Hb (by omega) _ rfl 2 rfl _ (by simp only [Nat.reducePow]; omega)
      · go_wp2_with fail
        refine ⟨?_, by simp [intOf]⟩
        exact putX_round HO Hb (by omega) _ rfl 1 rfl _ (by simp only [Nat.reducePow]; omega)
      · go_wp2_with fail
        refine ⟨?_, by simp [intOf]⟩
        exact putX_round HO Hb (by omega) _ rfl 0 rfl _ (by simp only [Nat.reducePow]; omega)
    · have hk8 : ¬ (k : Int) < 8 := by omega
      obtain rfl : k = 8 := by omega
      have hconv := conv_own HO.out hl
      go_wp2_with fail
      go_ret
      exact ⟨rfl, Hb.out⟩
end
namespace Ev
noncomputable section
def sPut8 (args : List V) (H : HT) (n : Nat) : Rs := match args with
  | [.c (.i .u64 (.ofNat x)), .c (.i .i64 (.ofNat m))] => cnd (and (Nat.beq m 8) (Nat.blt x 18446744073709551616)) (.ok (.c (.s 8 x)) H n) .no
  | _ => .no
theorem sPut8_of {fid : Nat} (hc : ∀ (x : Nat) (w : World), x < 18446744073709551616 → Calls Tryz.prog fid #[.int .u64 (x : Int), .int .i64 8] w fun e w' => e = .returned (.string ⟨(put8 x 8).toArray⟩) ∧ Below w.heap.size w w') : SumOk1 Tryz.prog fid sPut8 := by
  intro args H n v H' n' h
  unfold sPut8 at h
  split at h
  · rename_i x m
    have q := cnd_ok h
    clear h
    obtain ⟨hb, h⟩ := q
    rw [Bool.and_eq_true] at hb
    have e := nbeq_eq hb.1
    have hx := blt_true hb.2
    subst e
    cases h
    refine ⟨Nat.le_refl _, fun G w cargs hR ha hf => ?_⟩
    obtain ⟨c, d, rfl, h1, h2⟩ := cargs2 ha
    have h1 : c = .int .u64 (x : Int) := h1
    have h2 : d = .int .i64 8 := h2
    subst h1
    subst h2
    refine (hc x w hx).mono ?_
    rintro e w' ⟨rfl, hb'⟩
    exact ⟨_, G, rfl, stp_below hR hb', ⟨_, rfl, by simp [put8_len], put8_pk x hx⟩⟩
  · cases h
theorem sPut_ok : SumOk1 Tryz.prog 167 sPut8 := sPut8_of fun x w hx => cellPutX x hx
theorem sHigh_ok : SumOk1 Tryz.prog 197 sPut8 := sPut8_of fun x w hx => vaultHighX x hx
end
end Ev
end Go.Proofs.YtcchekmejnhlmaaGreat
/- A region that draws its order, walked under a condition on the world that the last stores need not keep (after the kit's wpAnyH; here some operations are let off: those that wait for every load). -/
namespace Go.Proofs.YtcchekmejnhlmaaGreat
open Go.RowKit
set_option linter.unusedVariables false

section
variable {P : Program} {ops : Array Oper} {Q : Exit → Act → World → Prop} {md : Region.Mode} {S : World → Prop} {L : List Nat}
def wpAnyK (P : Program) (md : Region.Mode) (ops : Array Oper) (Q : Exit → Act → World → Prop) (S : World → Prop) (L : List Nat) : Nat → Array Bool → Act → World → Prop
  | 0, listed, a, w => Region.ready md ops listed = [] ∧ Q .normal a w
  | fuel + 1, listed, a, w =>
    (Region.ready md ops listed = [] → Q .normal a w) ∧
    ∀ i ∈ Region.ready md ops listed, wpOp P ops Q i (fun a' w' => (L.contains i = false → S w') ∧ wpAnyK P md ops Q S L fuel (listed.setIfInBounds i true) a' w') a w
theorem wpAny_of_K : ∀ (fuel : Nat) (listed : Array Bool) (a : Act) (w : World), wpAnyK P md ops Q S L fuel listed a w → wpAny P md ops Q fuel listed a w
  | 0, _, _, _, h => h
  | fuel + 1, _, _, _, h => ⟨h.1, fun i hi => wpOp_mono (fun a' w' h' => wpAny_of_K fuel _ a' w' h'.2) (h.2 i hi)⟩
/-- m waits for i -/
def waits (md : Region.Mode) (ops : Array Oper) : Nat → Nat → Nat → Bool
  | 0, _, _ => false
  | n + 1, m, i => match ops[m]? with
    | none => false
    | some o => o.after.toList.any fun e => Region.binds md e && (e.on == i || waits md ops n e.on i)
def Closed (md : Region.Mode) (ops : Array Oper) (listed : Array Bool) : Prop := ∀ (j : Nat) (o : Oper), ops[j]? = some o → listed.getD j false = true → ∀ e ∈ o.after, Region.binds md e = true → listed.getD e.on false = true
def closedB (md : Region.Mode) (ops : Array Oper) (listed : Array Bool) : Bool := (List.range ops.size).all fun j => match ops[j]? with
  | none => true
  | some o => !listed.getD j false || o.after.toList.all fun e => !Region.binds md e || listed.getD e.on false
theorem closed_of {listed : Array Bool} (h : closedB md ops listed = true) : Closed md ops listed := by
  intro j o ho hl e he hb
  unfold closedB at h
  rw [List.all_eq_true] at h
  have hj : j < ops.size := by
    rcases Nat.lt_or_ge j ops.size with q | q
    · exact q
    · rw [Array.getElem?_eq_none q] at ho; cases ho
  have h1 := h j (List.mem_range.2 hj)
  rw [ho] at h1
  simp only at h1
  rw [hl, Bool.not_true, Bool.false_or, List.all_eq_true] at h1
  have h2 := h1 e (Array.mem_toList_iff.2 he)
  rwa [hb, Bool.not_true, Bool.false_or] at h2
theorem closed_set {listed : Array Bool} {j : Nat} (h : Closed md ops listed) (hj : j ∈ Region.ready md ops listed) : Closed md ops (listed.setIfInBounds j true) := by
  intro m o ho hl e he hb
  by_cases hm : j = m
  · subst hm
    obtain ⟨_, o', ho', hall⟩ := mem_ready.1 hj
    rw [ho] at ho'
    cases ho'
    exact getD_set_true (hall e he hb)
  · rw [getD_set_ne false hm] at hl
    exact getD_set_true (h m o ho hl e he hb)
theorem waits_not {listed : Array Bool} {i : Nat} (hc : Closed md ops listed) (hi : listed.getD i false = false) : ∀ (n m : Nat) (o : Oper), ops[m]? = some o → (∀ e ∈ o.after, Region.binds md e = true → listed.getD e.on false = true) → waits md ops n m i = true → False
  | 0, _, _, _, _, h => by cases h
  | n + 1, m, o, ho, hall, h => by
    unfold waits at h
    rw [ho] at h
    simp only [List.any_eq_true] at h
    obtain ⟨e, he, hb⟩ := h
    rw [Bool.and_eq_true, Bool.or_eq_true] at hb
    have hl := hall e (Array.mem_toList_iff.1 he) hb.1
    rcases hb.2 with q | q
    · rw [beq_iff_eq] at q
      rw [q, hi] at hl
      cases hl
    · cases ho2 : ops[e.on]? with
      | none => cases n <;> simp [waits, ho2] at q
      | some o2 => exact waits_not hc hi n e.on o2 ho2 (hc e.on o2 ho2 hl) q
theorem wpAnyK_first {i : Nat} {oi : Oper} {v : Value} (hi : ops[i]? = some oi) (hsel : ∀ (j : Nat) (o : Oper) cs b, ops[j]? = some o → o.op ≠ .select cs b)
    (hQ : ∀ c a w, Q (.panic c) (a.put oi.dst v) w → Q (.panic c) a w) (hL : ∀ k, L.contains k = true → waits md ops ops.size k i = true) :
    ∀ (fuel : Nat) (listed : Array Bool) (a : Act) (w : World),
      (∀ j oj, ops[j]? = some oj → j ≠ i → listed.getD j true = false → (∀ e ∈ oj.after, Region.binds md e = true → e.on ≠ i) → oi.apart ops oj = true) →
      Closed md ops listed → i ∈ Region.ready md ops listed → YieldsIf P ops S oi v a → S w →
      wpAnyK P md ops Q S L fuel (listed.setIfInBounds i true) (a.put oi.dst v) w → wpAnyK P md ops Q S L (fuel + 1) listed a w := by
  intro fuel
  induction fuel with
  | zero =>
    intro listed a w _ _ hr hy hS H
    refine ⟨fun h => (by rw [h] at hr; cases hr), fun j hj => ?_⟩
    by_cases hji : j = i
    · subst hji; exact hy.wpOp hi hS ⟨fun _ => hS, H⟩
    · have := ready_mono hj hji
      rw [H.1] at this
      cases this
  | succ fuel ih =>
    intro listed a w hfree hc hr hy hS H
    refine ⟨fun h => (by rw [h] at hr; cases hr), fun j hj => ?_⟩
    by_cases hji : j = i
    · subst hji; exact hy.wpOp hi hS ⟨fun _ => hS, H⟩
    · have h1 := H.2 j (ready_mono hj hji)
      obtain ⟨hjun, oj, hoj, hall⟩ := mem_ready.1 hj
      have hif : listed.getD i false = false := by
        have h0 := (mem_ready.1 hr).1
        rcases Nat.lt_or_ge i listed.size with h' | h'
        · simp [h'] at h0 ⊢; exact h0
        · simp [Array.getElem?_eq_none h']
      have hjL : L.contains j = false := by
        cases hjc : L.contains j with
        | false => rfl
        | true => exact (waits_not hc hif _ j oj hoj hall (hL j hjc)).elim
      have hnot : ∀ e ∈ oj.after, Region.binds md e = true → e.on ≠ i := fun e he hb heq => by
        have h1 := hall e he hb
        rw [heq, hif] at h1
        cases h1
      have h2 := wpOp_putIf hoj (hfree j oj hoj hji hjun hnot) (fun cs b => hsel i oi cs b hi) (fun cs b => hsel j oj cs b hoj) hQ hy h1
      have hfree' : ∀ k ok, ops[k]? = some ok → k ≠ i → (listed.setIfInBounds j true).getD k true = false →
          (∀ e ∈ ok.after, Region.binds md e = true → e.on ≠ i) → oi.apart ops ok = true := fun k ok hk hki hun hno => by
        refine hfree k ok hk hki ?_ hno
        by_cases hjk : j = k
        · subst hjk; exact hjun
        · rw [getD_set_ne true hjk] at hun; exact hun
      refine wpOp_mono (fun a' w' h3 => ⟨h3.2.1, ih (listed.setIfInBounds j true) a' w' hfree' (closed_set hc hj) (ready_mono hr (Ne.symm hji)) h3.1 (h3.2.1 hjL) ?_⟩) h2
      rw [Array.setIfInBounds_comm _ _ hji]
      exact h3.2.2
theorem wpAnyK_take {i : Nat} {oi : Oper} {v : Value} {fuel : Nat} {listed : Array Bool} {a : Act} {w : World} (hi : ops[i]? = some oi)
    (hs : (Region.noSelect ops && Region.free md ops listed i && (Region.ready md ops listed).contains i && closedB md ops listed && L.all fun k => waits md ops ops.size k i) = true)
    (hQ : ∀ c a w, Q (.panic c) (a.put oi.dst v) w → Q (.panic c) a w) (hy : YieldsIf P ops S oi v a) (hS : S w)
    (h : wpAnyK P md ops Q S L fuel (listed.setIfInBounds i true) (a.put oi.dst v) w) : wpAnyK P md ops Q S L (fuel + 1) listed a w := by
  simp only [Bool.and_eq_true] at hs
  obtain ⟨⟨⟨⟨h1, h2⟩, h3⟩, h4⟩, h5⟩ := hs
  exact wpAnyK_first hi (Region.noSelect_spec h1) hQ (fun k hk => List.all_eq_true.1 h5 k (by simpa using hk)) fuel listed a w (Region.free_spec hi h2) (closed_of h4) (by simpa using h3) hy hS h
/-- the one operation that may come up now -/
theorem wpAnyK_op {i : Nat} {o : Oper} {fuel : Nat} {listed : Array Bool} {a : Act} {w : World} (hr : Region.ready md ops listed = [i]) (ho : ops[i]? = some o)
    (h : ∀ K' : Act → World → Prop, Shut (∀ a w, (L.contains i = false → S w) → ((L.contains i = false → S w) → wpAnyK P md ops Q S L fuel (listed.setIfInBounds i true) a w) → K' a w) → if Region.wanted o (yielded ops a.tmps) = true then Oper.wp P o a w K' Q else K' (a.put o.dst undef) w) : wpAnyK P md ops Q S L (fuel + 1) listed a w := by
  refine ⟨fun h0 => (by rw [hr] at h0; cases h0), fun j hj => ?_⟩
  rw [hr] at hj
  obtain rfl : j = i := by simpa using hj
  exact wpOp_step ho (fun K' hK => h K' (fun a w hS hW => hK a w ⟨hS, hW hS⟩))
theorem wpAnyK_done {listed : Array Bool} {a : Act} {w : World} (hr : Region.ready md ops listed = []) (h : Q .normal a w) :
    ∀ fuel, wpAnyK P md ops Q S L fuel listed a w
  | 0 => ⟨hr, h⟩
  | _ + 1 => ⟨fun _ => h, by rw [hr]; simp⟩
theorem wp_region_K (L : List Nat) {id : Nat} {a : Act} {w : World} (hm : P.follows .mixedOrders = true) (hS : S w.drew)
    (h : S w.drew → wpAnyK P .any ops Q S L ops.size (Array.replicate ops.size false) a w.drew) : (Code.region id ops true).wp P Q a w :=
  wp_region_any hm (wpAny_of_K _ _ _ _ (h hS))
end
end Go.Proofs.YtcchekmejnhlmaaGreat
/- Whole structs loaded and stored by the block that they lie in. -/
namespace Go.Proofs.YtcchekmejnhlmaaGreat
open Go.RowKit
set_option linter.unusedVariables false

section
variable {w w' : World} {g g' : Nat} {t t' : TypeId} {cs cs' : Array Value}
theorem Blk.rangeOf (h : Blk w g t cs) (o n : Nat) (vs : List Value) (hv : (cs.toList.drop o).take n = vs) : w.rangeAt g o vs := by
  intro j v hj
  subst hv
  rw [h.cell]
  have hjn : j < n := by
    have := (List.getElem?_eq_some_iff.1 hj).1
    rw [List.length_take] at this; omega
  rw [List.getElem?_take_of_lt hjn, List.getElem?_drop] at hj
  rw [← Array.getElem?_toList]; exact hj
theorem Blk.thereOf (h : Blk w g t cs) (o n : Nat) (hn : o + n ≤ cs.size) : w.there g o n := fun j hj => by
  refine ⟨?_, h.frozen _⟩
  rw [h.cell, Array.getElem?_eq_getElem (by omega)]; rfl
theorem Blk.setCells (vs : List Value) : ∀ {w : World} {cs : Array Value} (h : Blk w g t cs) (o : Nat), Blk (w.setCells g o vs) g t (setL cs.toList o vs).toArray := by
  induction vs with
  | nil => intro w cs h o; simpa [World.setCells, setL] using h
  | cons v r ih =>
    intro w cs h o
    have := ih (h.set_ o v) (o + 1)
    simpa [World.setCells, setL] using this
theorem Only.setG {g : Nat} {w w1 : World} (h : Only (fun k => k = g) w w1) (i : Nat) (u : Value) : Only (fun k => k = g) w (w1.setCell ⟨g, i, none⟩ u) := h.setCell (p := ⟨g, i, none⟩) (fun _ => rfl) u
theorem only1 (g : Nat) (w : World) : Only (fun k => k = g) w w := Only.refl _ _
theorem own_drewT {w : World} {base : Nat} {e : TypeId} {size n : Nat} {v : Value} {xs : List Value} (h : w.ownsRow base e size v n xs) : w.drew.ownsRow base e size v n xs := h
end
section
variable {P : Program} {ops : Array Oper} {rest : List Oper} {o : Oper} {a : Act} {w : World} {Q : Exit → Act → World → Prop} {K : Act → World → Prop} {S : World → Prop}
theorem wpList_load_blk (hgd : o.guard = none) (ty : TypeId) (x : Operand) (ho : o.op = .load ty x)
    (g : Nat) (hx : a.eval x = .pointer (some ⟨g, 0, none⟩)) (t : TypeId) (cs : Array Value) (d : TypeDesc) (hg : Blk w g t cs)
    (hu : P.underlying ty = some d) (hd : (match d with | .struct _ | .array _ _ => true | _ => false) = true) (hi : (P.info? ty).map (·.size) = some cs.size)
    (h : wpList P ops Q rest (a.put o.dst (.agg cs)) w) : wpList P ops Q (o :: rest) a w :=
  wpList_load_row hgd ty x ho g hx t cs (0, 0) d hg hu hd hi h
theorem wpList_load_part (hgd : o.guard = none) (ty : TypeId) (x : Operand) (ho : o.op = .load ty x)
    (g off : Nat) (hx : a.eval x = .pointer (some ⟨g, off, none⟩)) (t : TypeId) (cs : Array Value) (vs : List Value) (d : TypeDesc) (hg : Blk w g t cs) (hv : (cs.toList.drop off).take vs.length = vs)
    (hu : P.underlying ty = some d) (hd : d.isRow = true) (hi : (P.info? ty).map (·.size) = some vs.length)
    (h : wpList P ops Q rest (a.put o.dst (.agg vs.toArray)) w) : wpList P ops Q (o :: rest) a w :=
  wpList_load_mid hgd ty x ho g off hx vs d (hg.rangeOf off _ vs hv) hu hd hi h
theorem wpList_store_blk (hgd : o.guard = none) (ty : TypeId) (x y : Operand) (ho : o.op = .store ty x y)
    (g off : Nat) (cells : Array Value) (hx : a.eval x = .pointer (some ⟨g, off, none⟩)) (hy : a.eval y = .agg cells) (t : TypeId) (cs : Array Value) (hg : Blk w g t cs)
    (hn : off + cells.size ≤ cs.size) (hi : (P.info? ty).map (·.size) = some cells.size) (h1 : cells.all (·.oneCell') = true)
    (h : ∀ w', Blk w' g t (setL cs.toList off cells.toList).toArray → Only (fun k => k = g) w w' → w'.heap.size = w.heap.size → wpList P ops Q rest (a.put o.dst undef) w') : wpList P ops Q (o :: rest) a w :=
  wpList_store_mid hgd ty x y ho g off cells hx hy (hg.thereOf off _ hn) hi h1 (h _ (hg.setCells cells.toList off) (only_setCells _ _ _) (size_setCells _ _ _))
theorem wpList_store_all (hgd : o.guard = none) (ty : TypeId) (x y : Operand) (ho : o.op = .store ty x y)
    (g : Nat) (cells : Array Value) (hx : a.eval x = .pointer (some ⟨g, 0, none⟩)) (hy : a.eval y = .agg cells) (t : TypeId) (cs : Array Value) (hg : Blk w g t cs)
    (hn : cells.size = cs.size) (hi : (P.info? ty).map (·.size) = some cells.size) (h1 : cells.all (·.oneCell') = true)
    (h : ∀ w', Blk w' g t cells → Only (fun k => k = g) w w' → w'.heap.size = w.heap.size → wpList P ops Q rest (a.put o.dst undef) w') : wpList P ops Q (o :: rest) a w :=
  wpList_store_blk hgd ty x y ho g 0 cells hx hy t cs hg (by omega) hi h1 fun w' hB => h w' (by
    have e : setL cs.toList 0 cells.toList = cells.toList := by
      rw [setL_eq _ _ _ (by simp; omega)]
      simp [hn]
    rw [e] at hB
    simpa using hB)
theorem yields_load_blk (hw : Region.wanted o (yielded ops a.tmps) = true) (ty : TypeId) (x : Operand) (ho : o.op = .load ty x)
    (g off : Nat) (hx : a.eval x = .pointer (some ⟨g, off, none⟩)) (t : TypeId) (cs : Array Value) (vs : List Value) (d : TypeDesc) (hS : ∀ w, S w → Blk w g t cs) (hv : (cs.toList.drop off).take vs.length = vs)
    (hu : P.underlying ty = some d) (hd : d.isRow = true) (hi : (P.info? ty).map (·.size) = some vs.length) : YieldsIf P ops S o (.agg vs.toArray) a :=
  yieldsIf_load_mid hw ty x ho g off hx vs d (fun w h => (hS w h).rangeOf off _ vs hv) hu hd hi
theorem step_store_blk {E : Prop} (hgd : o.guard = none) (ty : TypeId) (x y : Operand) (ho : o.op = .store ty x y)
    (g off : Nat) (cells : Array Value) (hx : a.eval x = .pointer (some ⟨g, off, none⟩)) (hy : a.eval y = .agg cells) (t : TypeId) (cs : Array Value) (hg : Blk w g t cs)
    (hn : off + cells.size ≤ cs.size) (hi : (P.info? ty).map (·.size) = some cells.size) (h1 : cells.all (·.oneCell') = true)
    (h : ∀ w', Blk w' g t (setL cs.toList off cells.toList).toArray → Only (fun k => k = g) w w' → w'.heap.size = w.heap.size → K (a.put o.dst undef) w') : if Region.wanted o (yielded ops a.tmps) = true then Oper.wp P o a w K Q else E := by
  have hw : Region.wanted o (yielded ops a.tmps) = true := by simp [Region.wanted, hgd]
  rw [if_pos hw]
  exact wp_store_mid ty x y ho g off cells hx hy (hg.thereOf off _ hn) hi h1 (h _ (hg.setCells cells.toList off) (only_setCells _ _ _) (size_setCells _ _ _))
theorem setL_all {cs cells : Array Value} (hn : cells.size = cs.size) : (setL cs.toList 0 cells.toList).toArray = cells := by
  have e : setL cs.toList 0 cells.toList = cells.toList := by
    rw [setL_eq _ _ _ (by simp; omega)]
    simp [hn]
  rw [e]
theorem step_store_all {E : Prop} (hgd : o.guard = none) (ty : TypeId) (x y : Operand) (ho : o.op = .store ty x y)
    (g : Nat) (cells : Array Value) (hx : a.eval x = .pointer (some ⟨g, 0, none⟩)) (hy : a.eval y = .agg cells) (t : TypeId) (cs : Array Value) (hg : Blk w g t cs)
    (hn : cells.size = cs.size) (hi : (P.info? ty).map (·.size) = some cells.size) (h1 : cells.all (·.oneCell') = true)
    (h : ∀ w', Blk w' g t cells → Only (fun k => k = g) w w' → w'.heap.size = w.heap.size → K (a.put o.dst undef) w') : if Region.wanted o (yielded ops a.tmps) = true then Oper.wp P o a w K Q else E :=
  step_store_blk hgd ty x y ho g 0 cells hx hy t cs hg (by omega) hi h1 fun w' hB => h w' (by rw [setL_all hn] at hB; exact hB)
/-- one struct result that lies in memory -/
theorem results_blk {fn : Func} {p : Tmp} {ty : TypeId} (h : fn.results = #[.cell p ty]) {tmps : Array Value} {g : Nat} {t : TypeId} {cs : Array Value} (hg : Blk w g t cs)
    (hp : tmps.getD p undef = .pointer (some ⟨g, 0, none⟩)) (d : TypeDesc)
    (hu : P.underlying ty = some d) (hd : (match d with | .struct _ | .array _ _ => true | _ => false) = true) (hi : (P.info? ty).map (·.size) = some cs.size) :
    (results fn tmps).run P w = .ok (.agg cs) w := results_cell_row h tmps w g t cs (0, 0) d hp hg hu hd hi
theorem results_blk_tmp {fn : Func} {p u : Tmp} {ty : TypeId} (h : fn.results = #[.cell p ty, .tmp u]) {tmps : Array Value} {g : Nat} {t : TypeId} {cs : Array Value} (hg : Blk w g t cs)
    (hp : tmps.getD p undef = .pointer (some ⟨g, 0, none⟩)) (v : Value) (hv : tmps.getD u undef = v) (d : TypeDesc)
    (hu : P.underlying ty = some d) (hd : (match d with | .struct _ | .array _ _ => true | _ => false) = true) (hi : (P.info? ty).map (·.size) = some cs.size) :
    (results fn tmps).run P w = .ok (.tuple #[.agg cs, v]) w := by
  rw [results_cell_tmp h, hp, hv]
  simp [asAddr, run_loadVar_row w g t ty cs (0, 0) d hg hu hd hi]
end
end Go.Proofs.YtcchekmejnhlmaaGreat
/- slices.Repeat of one text, math/bits.Mul. -/
namespace Go.Proofs.YtcchekmejnhlmaaGreat
open Go.RowKit
set_option linter.unusedVariables false

section
variable {w w' : World}
set_option maxRecDepth 100000 in
theorem mul64_4096 (w : World) : Calls Tryz.prog 195 #[.int .u64 1, .int .u64 4096] w fun e w' => e = .returned (.tuple #[.int .u64 0, .int .u64 4096]) ∧ w = w' := by
  go_enter Tryz.func195, Tryz.ntmps195
  go_wp2_with fail
  go_ret2
  exact ⟨rfl, rfl⟩
set_option maxRecDepth 100000 in
theorem mul_4096 (w : World) : Calls Tryz.prog 135 #[.int .u64 1, .int .u64 4096] w fun e w' => e = .returned (.tuple #[.int .u64 0, .int .u64 4096]) ∧ w = w' := by
  go_enter Tryz.func135, Tryz.ntmps135
  go_wp2_with fail
  refine (mul64_4096 _).mono ?_
  rintro e w2 ⟨rfl, rfl⟩
  go_wp2_with fail
  go_ret2
  exact ⟨rfl, rfl⟩
/-- a row of texts of which the first p are s -/
def Tp.zrow (s : ByteArray) (N p : Nat) : Array Value := (List.replicate p (Value.string s) ++ List.replicate (N - p) (Value.string ⟨#[]⟩)).toArray
theorem Tp.zrow_size (s : ByteArray) {N p : Nat} (h : p ≤ N) : (Tp.zrow s N p).size = N := by simp [Tp.zrow]; omega
theorem Tp.zrow_next (s : ByteArray) {N p q : Nat} (h : p + q ≤ N) : ((Tp.zrow s N p).toList.take p ++ List.replicate q (Value.string s) ++ (Tp.zrow s N p).toList.drop (p + q)).toArray = Tp.zrow s N (p + q) := by
  unfold Tp.zrow
  congr 1
  show (List.replicate p (Value.string s) ++ List.replicate (N - p) (Value.string ⟨#[]⟩)).take p ++ List.replicate q (Value.string s) ++ (List.replicate p (Value.string s) ++ List.replicate (N - p) (Value.string ⟨#[]⟩)).drop (p + q) = _
  rw [List.take_append_of_le_length (by simp), List.take_of_length_le (by simp), List.drop_append, List.drop_of_length_le (by simp), List.nil_append, List.length_replicate, List.drop_replicate, show p + q - p = q from by omega, List.replicate_append_replicate, show N - p - q = N - (p + q) from by omega]
theorem Tp.zrow_at (s : ByteArray) {N p j : Nat} (h : j < p) (hp : p ≤ N) : (Tp.zrow s N p)[j]? = some (Value.string s) := by
  unfold Tp.zrow
  rw [List.getElem?_toArray, List.getElem?_append_left (by simpa using h), List.getElem?_replicate, if_pos h]
theorem info_str : (Tryz.prog.info? 9).map (fun i => (i.zero, i.size, i.bytes)) = some (some (.string ⟨#[]⟩), 1, 16) := by kernel_rfl
theorem only_setRow {S : Nat → Prop} {w0 : World} {g : Nat} (h : Only S w0 w) (hg : g < w0.heap.size → S g) (cs : Array Value) : Only S w0 (w.setRow g cs) :=
  ⟨h.os, h.tape, h.output, by rw [setRow_size]; exact h.size, fun k hk hs => (setRow_other w g k cs (fun q => hs (by rw [q] at hk ⊢; exact hg hk))).trans (h.block k hk hs)⟩
theorem below_row {B g : Nat} {w0 : World} (h : Below B w0 w) (hg : B ≤ g) (cs : Array Value) : Below B w0 (w.setRow g cs) :=
  ⟨h.os, h.tape, h.output, by rw [setRow_size]; exact h.size, fun k hk => (setRow_other w g k cs (by omega)).trans (h.block k hk)⟩
theorem made_texts (s : ByteArray) (n : Nat) : madeCells (Value.cells (.string ⟨#[]⟩)) (n * 1) = Tp.zrow s n 0 := by
  unfold Tp.zrow madeCells
  simp only [List.replicate, List.nil_append, Nat.sub_zero, Nat.mul_one]
  apply Array.ext
  · simp
  · intro i h1 h2
    simp [Value.cells, Nat.mod_one]
theorem make_texts (s : ByteArray) (n : Nat) (hn : n ≤ 1000000) (W : World) : (Instr.makeSlice 128 (.int .i64 (n : Int)) (.int .i64 (n : Int))).run Tryz.prog W = .ok (.slice (some ⟨W.heap.size, 0, none⟩) n n) (W.alloc (.cells (Tp.zrow s n 0) 9)) := by
  obtain ⟨i0, hi, hz0, hz1, hz2⟩ := info_parts info_str
  have := run_make_rowN (P := Tryz.prog) 128 9 i0 _ Tryz.underlying128 hi hz0 .i64 .i64 n n (Nat.le_refl _) (by rw [hz2]; omega) (by omega) W
  rw [hz1, made_texts s] at this
  exact this
set_option maxRecDepth 100000 in
theorem copy_texts {W : World} {g p q N : Nat} {s : ByteArray} (h : Blk W g 9 (Tp.zrow s N p)) (hp : p + q ≤ N) (dL dC sL sC : Nat) (a : Addr) (hq : q = Nat.min sL dL) (ha : ∀ j, j < q → W.cell? (a.add j) = some (.string s)) (ty : TypeId) :
    (Builtin.copy_ #[128, 128] ty #[.slice (some ⟨g, p, none⟩) dL dC, .slice (some a) sL sC]).run Tryz.prog W = .ok (.int .i64 (q : Int)) (W.setRow g (Tp.zrow s N (p + q))) := by
  have e : (Tryz.prog.info? 9).map (·.size) = some 1 := by kernel_rfl
  have := run_copy_row (P := Tryz.prog) W 128 128 ty 9 g p dL dC a sL sC (Tp.zrow s N p) 9 (List.replicate q (Value.string s)) Tryz.underlying128 e h (by simp [hq]) (fun j v hv => by
    rw [List.getElem?_replicate] at hv
    split at hv
    · rename_i hj
      injection hv with hv
      rw [← hv]; exact ha j hj
    · cases hv) (by rw [Tp.zrow_size s (by omega)]; simp; omega) (fun v hv => by rw [List.mem_replicate] at hv; rw [hv.2]; rfl)
  rw [List.length_replicate, Tp.zrow_next s hp] at this
  exact this
set_option maxRecDepth 100000 in
theorem repeat_any {gx cx : Nat} (s : ByteArray) (N : Nat) (hN : N = 4096) (hx : w.cell? ⟨gx, 0, none⟩ = some (.string s)) (hgx : gx < w.heap.size) : Calls Tryz.prog 72 #[.slice (some ⟨gx, 0, none⟩) 1 cx, .int .i64 (N : Int)] w fun e w' => e = .returned (.slice (some ⟨w.heap.size, 0, none⟩) N N) ∧ Blk w' w.heap.size 9 (Tp.zrow s N N) ∧ Below w.heap.size w w' := by
  have hu : IntKind.u64.wrap (N : Int) = (N : Int) := IntWalk.u64_in _ (by omega)
  have hi : IntKind.i64.wrap (N : Int) = (N : Int) := IntWalk.i64_in _ (by omega)
  have hM := Lib.hid (fun (W : World) => show Calls Tryz.prog 135 #[.int .u64 1, .int .u64 (N : Int)] W fun e w' => e = .returned (.tuple #[.int .u64 0, .int .u64 (N : Int)]) ∧ W = w' from by rw [hN]; exact mul_4096 W)
  have hmk := make_texts s N (by omega)
  have h0 : (0 : Int) ≤ (N : Int) := by omega
  have hb : ¬ 9223372036854775807 < (N : Int) := by omega
  have hB := Lib.hid (Blk.new w 9 (Tp.zrow s N 0))
  have hX := Lib.hid (fun (W : World) (h : Below w.heap.size w W) => (h.cell (p := ⟨gx, 0, none⟩) hgx).trans hx)
  have HN := Lib.hid hN
  clear hN
  go_enter Tryz.func72, Tryz.ntmps72
  go_wp2_with fail
  refine (hM.out _).mono ?_
  rintro e w2 ⟨rfl, rfl⟩
  go_wp2_with fail
  have hcp := copy_texts hB.out (p := 0) (q := 1) (by have := HN.out; omega) N N 1 cx ⟨gx, 0, none⟩ (by have := HN.out; simp [Nat.min_def]; omega) (fun j hj => by
    obtain rfl : j = 0 := by omega
    exact hX.out _ (Below.alloc (Below.refl _ _) (Nat.le_refl _) _)) 3
  have hB1 : Hid (Blk ((w.alloc (.cells (Tp.zrow s N 0) 9)).setRow w.heap.size (Tp.zrow s N (0 + 1))) w.heap.size 9 (Tp.zrow s N 1)) := Lib.hid (setRow_heap _ _ _ _ _ _ hB.out)
  have hL1 : Hid (Below w.heap.size w ((w.alloc (.cells (Tp.zrow s N 0) 9)).setRow w.heap.size (Tp.zrow s N (0 + 1)))) := Lib.hid (below_row (Below.alloc (Below.refl _ _) (Nat.le_refl _) _) (Nat.le_refl _) _)
  refine Lib.hid ?_
  go_wp2_with fail
  clear hcp hmk hx
  go_loopw [8] (fun n wr => ∃ p : Nat, 1 ≤ p ∧ p ≤ N ∧ n = .int .i64 (p : Int) ∧ Hid (Blk wr w.heap.size 9 (Tp.zrow s N p)) ∧ Hid (Below w.heap.size w wr)) (fun n _ => N - (intOf n).toNat)
  case atStart => exact ⟨1, by omega, by have := HN.out; omega, rfl, hB1, hL1⟩
  case round =>
    obtain ⟨p, hp1, hpN, rfl, hb, hl⟩ := hrel
    rcases Nat.lt_or_ge p N with hlt | hge
    · have hlt' : (p : Int) < (N : Int) := by omega
      have hle' : (p : Int) ≤ (N : Int) := by omega
      have hp0 : (0 : Int) ≤ (p : Int) := by omega
      have hNp : ¬ N = p := by omega
      obtain ⟨q, hq⟩ : ∃ q : Nat, q = Nat.min p (N - p) := ⟨_, rfl⟩
      have hq0 : 0 < q := by rw [hq]; simp [Nat.min_def]; split <;> omega
      have hqp : q ≤ p := by rw [hq]; exact Nat.min_le_left _ _
      have hqN : p + q ≤ N := by have := Nat.min_le_right p (N - p); have : q ≤ N - p := by rw [hq]; exact this
                                 omega
      have HCP := Lib.hid (copy_texts (dL := N - p) (sL := p) (dC := N - p) (sC := N) (a := ⟨w.heap.size, 0, none⟩) hb.out.drew hqN hq (fun j hj => by rw [add_mk, Nat.zero_add]; exact (hb.out.drew.cell j).trans (Tp.zrow_at s (by omega) (by omega))) 3)
      have hw1 : IntKind.i64.wrap ((p : Int) + (q : Int)) = ((p + q : Nat) : Int) := by rw [IntWalk.i64_in _ (by have := HN.out; omega)]; omega
      have HB2 : Hid (Blk (wr.drew.setRow w.heap.size (Tp.zrow s N (p + q))) w.heap.size 9 (Tp.zrow s N (p + q))) := Lib.hid (setRow_heap _ _ _ _ _ _ hb.out.drew)
      have HL2 : Hid (Below w.heap.size w (wr.drew.setRow w.heap.size (Tp.zrow s N (p + q)))) := Lib.hid (below_row hl.out.drew (Nat.le_refl _) _)
      clear hq
      go_wp2_with fail
      refine wp_region_K (S := (fun _ => True)) [] (by kernel_rfl) ?_ (fun hHeld => ?_)
      · trivial
      ((refine wpAnyK_take (i := 0) (oi := ⟨some 38, _, _, _, _, _⟩) (v := ?_) rfl (by kernel_rfl) (fun _ _ _ h => h) (Or.inl ⟨by rfl, ?_⟩) (by assumption) ?_); rotate_left 1; (focus (intro w hSw; (try dsimp only at hSw); go_simp; (try with_reducible rfl); done)); (try simp only [Act.put, List.setIfInBounds_toArray, List.set_cons_zero, List.set_cons_succ]))
      ((refine wpAnyK_take (i := 1) (oi := ⟨some 39, _, _, _, _, _⟩) (v := ?_) rfl (by kernel_rfl) (fun _ _ _ h => h) (Or.inl ⟨by rfl, ?_⟩) (by assumption) ?_); rotate_left 1; (focus (intro w hSw; (try dsimp only at hSw); go_simp; (try with_reducible rfl); done)); (try simp only [Act.put, List.setIfInBounds_toArray, List.set_cons_zero, List.set_cons_succ]))
      ((refine wpAnyK_take (i := 2) (oi := ⟨some 40, _, _, _, _, _⟩) (v := ?_) rfl (by kernel_rfl) (fun _ _ _ h => h) (Or.inl ⟨by rfl, ?_⟩) (by assumption) ?_); rotate_left 1; (focus (intro w hSw; (try dsimp only at hSw); go_simp; (try with_reducible rfl); done)); (try simp only [Act.put, List.setIfInBounds_toArray, List.set_cons_zero, List.set_cons_succ]))
      ((refine wpAnyK_take (i := 3) (oi := ⟨some 41, _, _, _, _, _⟩) (v := ?_) rfl (by kernel_rfl) (fun _ _ _ h => h) (Or.inl ⟨by rfl, ?_⟩) (by assumption) ?_); rotate_left 1; (focus (intro w hSw; (try dsimp only at hSw); go_simp; (try with_reducible rfl); done)); (try simp only [Act.put, List.setIfInBounds_toArray, List.set_cons_zero, List.set_cons_succ]))
      ((refine wpAnyK_take (i := 4) (oi := ⟨some 42, _, _, _, _, _⟩) (v := ?_) rfl (by kernel_rfl) (fun _ _ _ h => h) (Or.inl ⟨by rfl, ?_⟩) (by assumption) ?_); rotate_left 1; (focus (intro w hSw; (try dsimp only at hSw); go_simp; (try with_reducible rfl); done)); (try simp only [Act.put, List.setIfInBounds_toArray, List.set_cons_zero, List.set_cons_succ]))
      ((refine wpAnyK_take (i := 5) (oi := ⟨some 43, _, _, _, _, _⟩) (v := ?_) rfl (by kernel_rfl) (fun _ _ _ h => h) (Or.inl ⟨by rfl, ?_⟩) (by assumption) ?_); rotate_left 1; (focus (intro w hSw; (try dsimp only at hSw); go_simp; (try with_reducible rfl); done)); (try simp only [Act.put, List.setIfInBounds_toArray, List.set_cons_zero, List.set_cons_succ]))
      ((refine wpAnyK_take (i := 6) (oi := ⟨some 44, _, _, _, _, _⟩) (v := ?_) rfl (by kernel_rfl) (fun _ _ _ h => h) (Or.inl ⟨by rfl, ?_⟩) (by assumption) ?_); rotate_left 1; (focus (intro w hSw; (try dsimp only at hSw); go_simp; (try with_reducible rfl); done)); (try simp only [Act.put, List.setIfInBounds_toArray, List.set_cons_zero, List.set_cons_succ]))
      refine wpAnyK_op (i := 7) (o := ⟨some 45, _, _, _, _, _⟩) (by kernel_rfl) rfl (fun K' hK => ?_)
      (refine step_copy_at (o := ⟨some 45, _, _, _, _, _⟩) rfl (.tmp 41) (.tmp 44) 128 128 rfl _ _ (by rfl) (by rfl) HCP.out ?_)
      refine hK.out _ _ (fun _ => ?_) (fun hHeld' => ?_)
      · trivial
      have hHeld := hHeld' rfl
      clear hK K'
      try simp only [Act.put, List.setIfInBounds_toArray, List.set_cons_zero, List.set_cons_succ]
      ((refine wpAnyK_take (i := 8) (oi := ⟨some 46, _, _, _, _, _⟩) (v := ?_) rfl (by kernel_rfl) (fun _ _ _ h => h) (Or.inl ⟨by rfl, ?_⟩) (by assumption) ?_); rotate_left 1; (focus (intro w hSw; (try dsimp only at hSw); go_simp; (try with_reducible rfl); done)); (try simp only [Act.put, List.setIfInBounds_toArray, List.set_cons_zero, List.set_cons_succ]))
      ((refine wpAnyK_take (i := 9) (oi := ⟨some 8, _, _, _, _, _⟩) (v := ?_) rfl (by kernel_rfl) (fun _ _ _ h => h) (Or.inl ⟨by rfl, ?_⟩) (by assumption) ?_); rotate_left 1; (focus (intro w hSw; (try dsimp only at hSw); go_simp; (try with_reducible rfl); done)); (try simp only [Act.put, List.setIfInBounds_toArray, List.set_cons_zero, List.set_cons_succ]))
      refine wpAnyK_done (by kernel_rfl) ?_ _
      go_roundw
      case rel =>
        repeat' (first | exact ⟨⟨p + q, by omega, hqN, by first | rfl | (simp only [hw1]; rfl), HB2, HL2⟩, rfl⟩ | apply Exists.intro)
      case measure => simp [intOf]; omega
    · obtain rfl : p = N := by omega
      have hlt' : ¬ (p : Int) < (p : Int) := by omega
      go_wp2_with fail
      go_ret
      exact ⟨rfl, hb.out, hl.out⟩
end
end Go.Proofs.YtcchekmejnhlmaaGreat
/- Ev: slices.Repeat of one text: its summary is so. -/
namespace Go.Proofs.YtcchekmejnhlmaaGreat
namespace Ev
open Go.RowKit
noncomputable section
set_option linter.unusedVariables false

def repO (x : Sc) (H : HT) (n : Nat) : Rs := match x with
  | .s l m => cnd (Nat.blt n HB) (.ok (.c (.sk n 0 4096 4096 1)) (hset H n (.row 4096 false 4 (.s l m) .z)) (Nat.add n 1)) .no
  | _ => .no
def sRep (args : List V) (H : HT) (n : Nat) : Rs := match args with
  | [.c (.sk id off len cap es), .c (.i .i64 (.ofNat k))] => cnd (and (and (Nat.beq off 0) (Nat.beq len 1)) (and (Nat.beq k 4096) (Nat.blt id HB))) (match hget H id with
    | .row m x dep d t => cnd (Nat.blt 0 m) (repO (tget dep d t 0) H n) .no
    | _ => .no) .no
  | _ => .no
set_option maxRecDepth 100000 in
theorem sRep_ok : SumOk1 Tryz.prog 72 sRep := by
  intro args H n v H' n' h
  unfold sRep at h
  split at h
  · rename_i id off len cap es k
    have q := cnd_ok h
    clear h
    obtain ⟨hb, h⟩ := q
    rw [Bool.and_eq_true, Bool.and_eq_true, Bool.and_eq_true] at hb
    have e1 := nbeq_eq hb.1.1
    have e2 := nbeq_eq hb.1.2
    have e3 := nbeq_eq hb.2.1
    have hid := blt_true hb.2.2
    subst e1
    subst e2
    split at h
    · rename_i m x dep d t hob
      have q := cnd_ok h
      clear h
      obtain ⟨hm, h⟩ := q
      have hm := blt_true hm
      have hpid : hp H id = .row m x dep d t := (hp_get hid).trans hob
      unfold repO at h
      split at h
      · rename_i l mm hs
        have q := cnd_ok h
        clear h
        obtain ⟨hn, h⟩ := q
        have hn := blt_true hn
        cases h
        refine ⟨Nat.le_succ _, fun G w cargs hR ha hf => ?_⟩
        obtain ⟨c, c2, rfl, h1, h2⟩ := cargs2 ha
        obtain ⟨b, sz, hg, rfl, _⟩ := h1
        have h2 : c2 = .int .i64 (k : Int) := h2
        subst h2
        obtain ⟨b', sz', arr, el, fz, hg', L⟩ := hR.lies (id := id) hpid
        rw [hg] at hg'; cases hg'
        have hc := cell_at (off := 0) L.hb (by have := L.le; have := L.size; omega)
        have hv := L.cell 0 hm
        rw [hs] at hv
        obtain ⟨s, hv, s1, s2⟩ := hv
        rw [hv] at hc
        have hlt := hR.lt (by rw [hpid]; exact fun q => by cases q) hg
        refine (repeat_any (cx := cap) s k e3 hc hlt).mono ?_
        rintro e w' ⟨rfl, hB, hb'⟩
        have hG : G n = none := hf n (Nat.le_refl _) (Nat.lt_succ_self _)
        have hsz : (Tp.zrow s k k).size = 4096 := by rw [Tp.zrow_size s (by omega)]; exact e3
        subst e3
        refine ⟨_, gset G n (w.heap.size, 4096), rfl, stp_one hR hb' hn hG (Nat.le_refl _) hB _ ⟨_, _, _, rfl, hsz, Nat.le_refl _, fun _ => rfl, by decide, fun i hi => by simp, fun i hi => ?_⟩, ⟨w.heap.size, 4096, by simp [gset], rfl, Nat.le_refl _, by omega⟩⟩
        rw [tget_z]
        have := Tp.zrow_at s (N := 4096) (p := 4096) (j := i) (by omega) (by omega)
        rw [Array.getD_eq_getD_getElem?, this]
        exact ⟨s, rfl, s1, s2⟩
      · cases h
    · cases h
  · cases h
end
end Ev
end Go.Proofs.YtcchekmejnhlmaaGreat
/- Ev: all that stands below the tables. -/
namespace Go.Proofs.YtcchekmejnhlmaaGreat
end Go.Proofs.YtcchekmejnhlmaaGreat
