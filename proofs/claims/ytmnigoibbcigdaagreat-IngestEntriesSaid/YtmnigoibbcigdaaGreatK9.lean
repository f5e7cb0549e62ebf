/- Joined texts: SgTail, SgPut, IgStep, SgPush, ClTexts3, ClTexts4, ClGet, SgPutGo. -/
import Derived.Test.YtmnigoibbcigdaaGreatK3
import Derived.Test.YtmnigoibbcigdaaGreatK7
import Derived.Test.YtmnigoibbcigdaaGreatK8
import Derived.Test.YtmnigoibbcigdaaGreatProg
import Derived.Deep.RegionHeld3
import Derived.Deep.AppendLies
/- A hash as eight bytes: plain, and the walks through segment.Tail and the reference's Eight. -/
namespace Go.Proofs.YtmnigoibbcigdaaGreat.Sg
open Go.Proofs.YtmnigoibbcigdaaGreat
set_option linter.unusedVariables false

def tailAt (x j : Nat) : UInt8 := UInt8.ofNat (x / 256 ^ (7 - j) % 256)
def tailL (x : Nat) : List UInt8 := (List.range 8).map (tailAt x)
def tailB (x : Nat) : ByteArray := ⟨(tailL x).toArray⟩
def tailCell (x k j : Nat) : Value := if 8 ≤ j + k then .int .u8 ((tailAt x j).toNat : Int) else .int .u8 0
def tailRow (x k : Nat) : Array Value := ((List.range 8).map (tailCell x k)).toArray
theorem tail_low (x k : Nat) : (x : Int) / 2 ^ (8 * k) % 256 = ((x / 256 ^ k % 256 : Nat) : Int) := by
  have e2 : ((256 ^ k : Nat) : Int) = 2 ^ (8 * k) := by
    rw [show (256 : Nat) ^ k = 2 ^ (8 * k) from by rw [Nat.pow_mul]]
    exact Int.natCast_pow 2 (8 * k)
  rw [← e2, ← Int.natCast_ediv]; omega
theorem tailRow_size (x k : Nat) : (tailRow x k).size = 8 := by simp [tailRow]
theorem tailRow_at (x k j : Nat) (h : j < 8) : (tailRow x k)[j]? = some (tailCell x k j) := by simp [tailRow, h]
theorem tailRow_zero (x : Nat) : tailRow x 0 = #[.int .u8 0, .int .u8 0, .int .u8 0, .int .u8 0, .int .u8 0, .int .u8 0, .int .u8 0, .int .u8 0] := by
  simp [tailRow, tailCell, List.range, List.range.loop]
theorem tailRow_next (x k : Nat) (hk : k < 8) : (tailRow x k).setIfInBounds (7 - k) (.int .u8 ((x / 256 ^ k % 256 : Nat) : Int)) = tailRow x (k + 1) := by
  apply Array.ext_getElem?
  intro j
  rw [Array.getElem?_setIfInBounds]
  by_cases hj : j < 8
  · rw [tailRow_at _ _ _ hj, tailRow_at _ _ _ hj]
    by_cases he : 7 - k = j
    · rw [if_pos he, if_pos (by rw [tailRow_size]; omega)]
      unfold tailCell tailAt
      rw [if_pos (by omega), show 7 - j = k from by omega, UInt8.toNat_ofNat']
      have : x / 256 ^ k % 256 < 256 := Nat.mod_lt _ (by omega)
      rw [Nat.mod_eq_of_lt (a := x / 256 ^ k % 256) (by simpa using this)]
    · rw [if_neg he]
      unfold tailCell
      by_cases hc : 8 ≤ j + k
      · rw [if_pos hc, if_pos (by omega)]
      · rw [if_neg hc, if_neg (by omega)]
  · rw [if_neg (by omega), Array.getElem?_eq_none (by rw [tailRow_size]; omega), Array.getElem?_eq_none (by rw [tailRow_size]; omega)]
theorem tailL_length (x : Nat) : (tailL x).length = 8 := by simp [tailL]
theorem tailB_size (x : Nat) : (tailB x).size = 8 := by
  show (tailL x).toArray.size = 8
  simp [tailL]
theorem tailRow_done (x j : Nat) (h : j < (tailL x).length) : (tailRow x 8)[j]? = some (.int .u8 (((tailL x)[j].toNat : Nat) : Int)) := by
  rw [tailL_length] at h
  rw [tailRow_at _ _ _ h]
  simp [tailCell, tailL]
theorem tail_digit {x y : Nat} (h : tailL x = tailL y) (j : Nat) (hj : j < 8) : x / 256 ^ (7 - j) % 256 = y / 256 ^ (7 - j) % 256 := by
  have e : (tailL x)[j]? = (tailL y)[j]? := by rw [h]
  simp only [tailL, List.getElem?_map, List.getElem?_range hj, Option.map_some, Option.some.injEq] at e
  have e2 := congrArg UInt8.toNat e
  unfold tailAt at e2
  rw [UInt8.toNat_ofNat', UInt8.toNat_ofNat'] at e2
  have h1 : x / 256 ^ (7 - j) % 256 < 256 := Nat.mod_lt _ (by omega)
  have h2 : y / 256 ^ (7 - j) % 256 < 256 := Nat.mod_lt _ (by omega)
  generalize x / 256 ^ (7 - j) % 256 = p at *
  generalize y / 256 ^ (7 - j) % 256 = q at *
  omega
theorem tail_inj {x y : Nat} (hx : x < 18446744073709551616) (hy : y < 18446744073709551616) (h : tailL x = tailL y) : x = y := by
  have h0 := tail_digit h 7 (by omega)
  have h1 := tail_digit h 6 (by omega)
  have h2 := tail_digit h 5 (by omega)
  have h3 := tail_digit h 4 (by omega)
  have h4 := tail_digit h 3 (by omega)
  have h5 := tail_digit h 2 (by omega)
  have h6 := tail_digit h 1 (by omega)
  have h7 := tail_digit h 0 (by omega)
  simp only [Nat.reduceSub, Nat.reducePow, Nat.div_one] at h0 h1 h2 h3 h4 h5 h6 h7
  omega
end Go.Proofs.YtmnigoibbcigdaaGreat.Sg
namespace Go.Proofs.YtmnigoibbcigdaaGreat
open Go.RowKit
set_option linter.unusedVariables false

set_option maxRecDepth 100000 in
set_option maxHeartbeats 400000 in
theorem tail_any (x : Nat) (w : World) (hx : x < 18446744073709551616) :
    Calls Tryz.prog 45 #[.int .u64 x] w fun e w' => e = .returned (.string (Sg.tailB x)) ∧ Below w.heap.size w w' := by
  go_enter Tryz.func45, Tryz.ntmps45
  go_wp2
  go_loopw [4, 5] (fun _ i wr => ∃ k : Nat, k ≤ 8 ∧ i = .int .i64 k ∧ wr = w.alloc (.cells (Sg.tailRow x k) 123)) (fun _ i _ => 8 - (intOf i).toNat)
  case atStart => exact ⟨0, Nat.zero_le _, rfl, by rw [Sg.tailRow_zero]⟩
  case round =>
    obtain ⟨k, hk, rfl, rfl⟩ := hrel
    by_cases hlt : k < 8
    · have hlow := Sg.tail_low x k
      have hn := Lib.hid (Sg.tailRow_next x k hlt)
      have hc : (Sg.tailRow x k)[7 - k]? = some (.int .u8 0) := by
        rw [Sg.tailRow_at _ _ _ (by omega)]; unfold Sg.tailCell; rw [if_neg (by omega)]
      go_wp2
      go_roundw
      case rel => exact ⟨k + 1, by omega, by go_num, by rw [← hn.out]; rfl⟩
      case measure => simp [intOf]; omega
    · obtain rfl : k = 8 := by omega
      have hcv : (convert 82 9 (.slice (some ⟨w.heap.size, 0, none⟩) 8 8)).run Tryz.prog (w.alloc (.cells (Sg.tailRow x 8) 123)) = .ok (.string (Sg.tailB x)) (w.alloc (.cells (Sg.tailRow x 8) 123)) :=
        run_convert_bytes_back (P := Tryz.prog) _ 82 9 5 ⟨w.heap.size, 0, none⟩ 8 (Sg.tailL x) Tryz.underlying82 Tryz.underlying5 Tryz.underlying9 (fun j hj => by
          rw [← Sg.tailRow_done x j hj]
          rw [add_mk, Nat.zero_add]; exact cell_new _ _ _ _)
      go_wp2
      go_ret
      exact ⟨rfl, (Below.refl _ _).alloc (Nat.le_refl _) _⟩

set_option maxRecDepth 100000 in
set_option maxHeartbeats 400000 in
theorem reight_any (x : Nat) (w : World) (hx : x < 18446744073709551616) :
    Calls Tryz.prog 50 #[.int .u64 x] w fun e w' => e = .returned (.string (Sg.tailB x)) ∧ Below w.heap.size w w' := by
  have hmk : ∀ w, (Instr.makeSlice 82 (.int .i64 8) (.int .i64 8)).run Tryz.prog w = .ok (.slice (some ⟨w.heap.size, 0, none⟩) 8 8) (w.alloc (.cells (Sg.tailRow x 0) 5)) := by
    intro w; rw [Sg.tailRow_zero]; kernel_rfl
  go_enter Tryz.func50, Tryz.ntmps50
  go_wp2
  go_loopw [0, 4] (fun v i wr => ∃ k y : Nat, k ≤ 8 ∧ Hid (y = x / 256 ^ k) ∧ v = .int .u64 (y : Int) ∧ i = .int .i64 (7 - (k : Int)) ∧ wr = w.alloc (.cells (Sg.tailRow x k) 5)) (fun _ i _ => (intOf i + 1).toNat)
  case atStart => exact ⟨0, x, Nat.zero_le _, Lib.hid (by simp), rfl, rfl, rfl⟩
  case round =>
    obtain ⟨k, y, hk, hy, rfl, rfl, rfl⟩ := hrel
    have hl : y < 18446744073709551616 := by rw [hy.out]; exact Nat.lt_of_le_of_lt (Nat.div_le_self _ _) hx
    by_cases hlt : k < 8
    · have hn : Hid ((Sg.tailRow x k).setIfInBounds (7 - k) (.int .u8 ((y % 256 : Nat) : Int)) = Sg.tailRow x (k + 1)) := by
        have e := hy.out
        subst e
        exact Lib.hid (Sg.tailRow_next x k hlt)
      have hc : (Sg.tailRow x k)[7 - k]? = some (.int .u8 0) := by
        rw [Sg.tailRow_at _ _ _ (by omega)]; unfold Sg.tailCell; rw [if_neg (by omega)]
      clear hmk
      go_wp2
      go_roundw
      case rel => exact ⟨k + 1, y / 256, by omega, Lib.hid (by rw [hy.out, Nat.div_div_eq_div_mul, Nat.pow_succ]), by go_num, by go_num, by rw [← hn.out]; first | rfl | (congr 3; omega)⟩
      case measure => simp [intOf]; omega
    · obtain rfl : k = 8 := by omega
      have hcv : (convert 82 9 (.slice (some ⟨w.heap.size, 0, none⟩) 8 8)).run Tryz.prog (w.alloc (.cells (Sg.tailRow x 8) 5)) = .ok (.string (Sg.tailB x)) (w.alloc (.cells (Sg.tailRow x 8) 5)) :=
        run_convert_bytes_back (P := Tryz.prog) _ 82 9 5 ⟨w.heap.size, 0, none⟩ 8 (Sg.tailL x) Tryz.underlying82 Tryz.underlying5 Tryz.underlying9 (fun j hj => by
          rw [← Sg.tailRow_done x j hj]
          rw [add_mk, Nat.zero_add]; exact cell_new _ _ _ _)
      clear hmk
      go_wp2
      go_ret
      exact ⟨rfl, (Below.refl _ _).alloc (Nat.le_refl _) _⟩
end Go.Proofs.YtmnigoibbcigdaaGreat
/- Segments in plain words; the walk through the reference's Put. -/
namespace Go.Proofs.YtmnigoibbcigdaaGreat
open Go.RowKit
set_option linter.unusedVariables false

def Sg.mark : ByteArray := ⟨#[83, 69, 71, 49]⟩
def Sg.names (ps : List Pt.Point) : List ByteArray := ps.map fun p => p.1
def Sg.times (ps : List Pt.Point) : List Int := ps.map fun p => p.2.1
def Sg.vals (ps : List Pt.Point) : List Int := ps.map fun p => p.2.2
def Sg.bodyB (r : Int) (ps : List Pt.Point) : ByteArray := Sg.mark ++ Wr.putB r ++ Wr.putB (ps.length : Int) ++ Cl.textsB (Sg.names ps) ++ Cl.intsB (Sg.times ps) ++ Cl.intsB (Sg.vals ps)
def Sg.fileB (b : ByteArray) : ByteArray := b ++ Sg.tailB (Sm.hashL b.data.toList)
def Sg.putR (r : Int) (ps : List Pt.Point) : ByteArray × Int := if r < 1 ∨ 512 < r then (⟨#[]⟩, 1302) else if Sg.riseB ps then (Sg.fileB (Sg.bodyB r ps), 0) else (⟨#[]⟩, 1300)
theorem putR_range {r : Int} {ps : List Pt.Point} (h : r < 1 ∨ 512 < r) : Sg.putR r ps = (⟨#[]⟩, 1302) := by unfold Sg.putR; rw [if_pos h]
theorem putR_form {r : Int} {ps : List Pt.Point} (h : ¬ (r < 1 ∨ 512 < r)) (hp : Sg.riseB ps = false) : Sg.putR r ps = (⟨#[]⟩, 1300) := by unfold Sg.putR; rw [if_neg h, hp]; rfl
theorem putR_good {r : Int} {ps : List Pt.Point} (h : ¬ (r < 1 ∨ 512 < r)) (hp : Sg.riseB ps = true) : Sg.putR r ps = (Sg.fileB (Sg.bodyB r ps), 0) := by unfold Sg.putR; rw [if_neg h, hp]; rfl
theorem rise_len {ps : List Pt.Point} (h : Sg.riseB ps = true) : ps.length ≤ 64 := by unfold Sg.riseB at h; simp at h; exact h.1
theorem rise_may {ps : List Pt.Point} (h : Sg.riseB ps = true) : ∀ p ∈ ps, Pt.mayB p = true := by
  unfold Sg.riseB at h
  rw [Bool.and_eq_true, List.all_eq_true] at h
  intro p hp
  obtain ⟨i, hi, rfl⟩ := List.getElem_of_mem hp
  have := h.2 i (by simp [hi])
  rw [okAt_eq hi, Bool.and_eq_true] at this
  exact this.1
theorem may_parts {p : Pt.Point} (h : Pt.mayB p = true) : p.1.size ≤ 12 ∧ (-2147483648 ≤ p.2.1 ∧ p.2.1 ≤ 2147483647) ∧ (-2147483648 ≤ p.2.2 ∧ p.2.2 ≤ 2147483647) :=
  ⟨Pt.may_name h, (Pt.smallB_iff _).1 (Pt.may_time h), (Pt.smallB_iff _).1 (Pt.may_value h)⟩
theorem names_short {ps : List Pt.Point} (h : ∀ p ∈ ps, Pt.mayB p = true) : ∀ x ∈ Sg.names ps, x.size ≤ 12 := fun x hx => by
  unfold Sg.names at hx; rw [List.mem_map] at hx; obtain ⟨p, hp, rfl⟩ := hx; exact Pt.may_name (h p hp)
theorem times_small {ps : List Pt.Point} (h : ∀ p ∈ ps, Pt.mayB p = true) : ∀ x ∈ Sg.times ps, Pt.smallB x = true := fun x hx => by
  unfold Sg.times at hx; rw [List.mem_map] at hx; obtain ⟨p, hp, rfl⟩ := hx; exact Pt.may_time (h p hp)
theorem vals_small {ps : List Pt.Point} (h : ∀ p ∈ ps, Pt.mayB p = true) : ∀ x ∈ Sg.vals ps, Pt.smallB x = true := fun x hx => by
  unfold Sg.vals at hx; rw [List.mem_map] at hx; obtain ⟨p, hp, rfl⟩ := hx; exact Pt.may_value (h p hp)
theorem wordsL_le' {ws : List ByteArray} (h : ∀ w ∈ ws, w.size ≤ 12) : (Cl.wordsL ws).length ≤ 13 * ws.length := by
  induction ws with
  | nil => simp [Cl.wordsL]
  | cons w ws ih =>
    have h1 := textB_13 (h w (by simp))
    have h2 := ih (fun x hx => h x (by simp [hx]))
    have : Cl.wordsL (w :: ws) = (Wr.textB w).data.toList ++ Cl.wordsL ws := by simp [Cl.wordsL]
    rw [this, List.length_append, Wr.len_list, List.length_cons]; omega
theorem textsB_le {xs : List ByteArray} (h : ∀ x ∈ xs, x.size ≤ 12) (hn : xs.length ≤ 65536) : (Cl.textsB xs).size ≤ 8 + 20 * xs.length := by
  have hs : Cl.shortB xs = true := by unfold Cl.shortB; rw [List.all_eq_true]; exact fun x hx => decide_eq_true (h x hx)
  have h1 := wordsL_le' (Cl.tx_short [] xs (by simp) h)
  have h2 := placesL_le (Cl.txGo [] xs).2 0 (fun k hk => by have := Cl.tx_places [] xs k hk; have := (Cl.tx_len [] xs).1; simp at this; omega)
  have h3 := Cl.tx_len [] xs
  have h4 := Wr.putL_len ((Cl.txGo [] xs).1.length : Int)
  simp only [List.length_nil, Nat.zero_add] at h3
  have e : (Cl.textsB xs).data.toList = Cl.textsL xs := by unfold Cl.textsB; rw [if_pos hs]
  rw [← Wr.len_list, e]
  unfold Cl.textsL
  rw [List.length_append, List.length_append]; omega
theorem intsB_le {xs : List Int} (h : ∀ x ∈ xs, Pt.smallB x = true) : (Cl.intsB xs).size ≤ 5 * xs.length := by
  have ha := List.all_eq_true.2 h
  have e : (Cl.intsB xs).data.toList = Cl.intsD 0 xs := by unfold Cl.intsB; rw [if_pos ha]
  rw [← Wr.len_list, e]
  exact Cl.intsD_len 0 xs (by decide) ha

/-- three rows of the call's own, beside one another -/
structure Rows3 (base : Nat) (vn vt vv : Value) (N : List ByteArray) (T V : List Int) (w : World) : Prop where
  n : w.ownsRow base 9 1 vn N.length (N.map Value.string)
  t : w.ownsRow base 3 1 vt T.length (T.map (Value.int .i64))
  v : w.ownsRow base 3 1 vv V.length (V.map (Value.int .i64))
  ne : ∀ g, vt.ownBlock = some g → vv.ownBlock ≠ some g
section
variable {base : Nat} {vn vt vv v' : Value} {N : List ByteArray} {T V : List Int} {w w' : World}
theorem Rows3.nil (base : Nat) (w : World) : Rows3 base (.slice none 0 0) (.slice none 0 0) (.slice none 0 0) [] [] [] w := ⟨own_nil _ _ _ _, own_nil _ _ _ _, own_nil _ _ _ _, fun g h => by simp [Value.ownBlock] at h⟩
theorem Rows3.pushN (h : Rows3 base vn vt vv N T V w) (x : ByteArray) (hown : w'.ownsRow base 9 1 v' (N.length + 1) (N.map Value.string ++ [.string x])) (ho : Only (fun k => vn.ownBlock = some k) w w') : Rows3 base v' vt vv (N ++ [x]) T V w' :=
  ⟨by rw [List.length_append, List.map_append]; exact hown, own_push h.t h.n ho (by decide), own_push h.v h.n ho (by decide), h.ne⟩
theorem Rows3.pushT (h : Rows3 base vn vt vv N T V w) (x : Int) (hown : w'.ownsRow base 3 1 v' (T.length + 1) (T.map (Value.int .i64) ++ [.int .i64 x])) (ho : Only (fun k => vt.ownBlock = some k) w w') (hb : ∀ g, v'.ownBlock = some g → vt.ownBlock = some g ∨ w.heap.size ≤ g) : Rows3 base vn v' vv N (T ++ [x]) V w' :=
  ⟨own_push h.n h.t ho (by decide), by rw [List.length_append, List.map_append]; exact hown, own_only h.v ho (fun g hg e => h.ne g e hg), fun g hg e => by
    rcases hb g hg with k | k
    · exact h.ne g k e
    · have := (own_lt h.v e).2; omega⟩
theorem Rows3.pushV (h : Rows3 base vn vt vv N T V w) (x : Int) (hown : w'.ownsRow base 3 1 v' (V.length + 1) (V.map (Value.int .i64) ++ [.int .i64 x])) (ho : Only (fun k => vv.ownBlock = some k) w w') (hb : ∀ g, v'.ownBlock = some g → vv.ownBlock = some g ∨ w.heap.size ≤ g) : Rows3 base vn vt v' N T (V ++ [x]) w' :=
  ⟨own_push h.n h.v ho (by decide), own_only h.t ho (fun g hg e => h.ne g hg e), by rw [List.length_append, List.map_append]; exact hown, fun g hg e => by
    rcases hb g e with k | k
    · exact h.ne g hg k
    · have := (own_lt h.t hg).2; omega⟩
end
theorem take_map_snoc {α β : Type} (f : α → β) (l : List α) (k : Nat) (h : k < l.length) : (l.take (k + 1)).map f = (l.take k).map f ++ [f l[k]] := map_take_snoc f l k h
theorem puts_join (M a b c d e : ByteArray) : M ++ a ++ b ++ c ++ d ++ e = M ++ a ++ b ++ c ++ d ++ e := rfl

set_option maxRecDepth 100000 in
set_option maxHeartbeats 2000000 in
theorem rsgput_any (r : Int) (A : Option Addr) (c : Nat) (ps : List Pt.Point) (w : World) (B : Nat) (hr : Reads w B 3 A ps.length (ps.flatMap pointCells)) (hB : B ≤ w.heap.size) (hn : ps.length ≤ 140737488355328) (hwf : ∀ p ∈ ps, Pt.wf p) (hsz : ∀ p ∈ ps, p.1.size ≤ 9223372036854775807) :
    Calls Tryz.prog 26 #[.int .i64 r, .slice A ps.length c] w fun e w' => e = .returned (.tuple #[.string (Sg.putR r ps).1, .int .i64 (Sg.putR r ps).2]) ∧ Below w.heap.size w w' := by
  obtain ⟨i0, hi, hz0, hz1, hz2⟩ := info_parts info_string
  obtain ⟨i1, hi', hy0, hy1, hy2⟩ := info_parts info_int
  have HRs := Lib.hid (rrises_any A c ps w B hr hB hn hwf hsz)
  have HRd := Lib.hid hr
  by_cases hrg : r < 1 ∨ 512 < r
  · have HR := Lib.hid (putR_range (ps := ps) hrg)
    generalize Sg.putR r ps = res at *
    clear HRs hr hwf hsz
    by_cases h1 : r < 1
    · clear hrg
      go_enter Tryz.func26, Tryz.ntmps26
      go_wp2_with fail
      go_ret2
      exact ⟨by rw [HR.out]; rfl, Below.refl _ _⟩
    · have h2 : 512 < r := by omega
      clear hrg
      go_enter Tryz.func26, Tryz.ntmps26
      go_wp2_with fail
      go_ret2
      exact ⟨by rw [HR.out]; rfl, Below.refl _ _⟩
  · have hr1 : ¬ r < 1 := by omega
    have hr2 : ¬ 512 < r := by omega
    have d1 : decide (r < 1) = false := decide_eq_false hr1
    have d2 : decide (512 < r) = false := decide_eq_false hr2
    cases hrise : Sg.riseB ps
    · have HR := Lib.hid (putR_form hrg hrise)
      rw [hrise] at HRs
      generalize Sg.putR r ps = res at *
      clear hr hwf hsz hrise hrg
      go_enter Tryz.func26, Tryz.ntmps26
      go_wp2_with fail
      refine HRs.out.mono ?_
      rintro e w1 ⟨rfl, hb1⟩
      go_wp2_with fail
      go_ret2
      exact ⟨by rw [HR.out]; rfl, hb1⟩
    · have HR := Lib.hid (putR_good hrg hrise)
      rw [hrise] at HRs
      have h64 := rise_len hrise
      have hmay := rise_may hrise
      have HM := Lib.hid hmay
      have hTl := textsB_le (names_short hmay) (by simp [Sg.names]; omega)
      have hI1 := intsB_le (times_small hmay)
      have hI2 := intsB_le (vals_small hmay)
      have hln : (Sg.names ps).length = ps.length := by simp [Sg.names]
      have hlt' : (Sg.times ps).length = ps.length := by simp [Sg.times]
      have hlv : (Sg.vals ps).length = ps.length := by simp [Sg.vals]
      have hpr := Wr.putL_len r
      have hpr' : (Wr.putB r).size ≤ 8 := by rw [Wr.putB_size]; exact hpr
      have hpn : (Wr.putB (ps.length : Int)).size ≤ 8 := by rw [Wr.putB_size]; exact Wr.putL_len _
      have HN1 := fun W => Lib.hid (rnum_any r W (by omega))
      have HN2 := fun W => Lib.hid (rnum_any (ps.length : Int) W (by omega))
      have htw : ∀ x ∈ Sg.times ps, -9223372036854775808 ≤ x ∧ x ≤ 9223372036854775807 := fun x hx => by have := (Pt.smallB_iff x).1 (times_small hmay x hx); omega
      have hvw : ∀ x ∈ Sg.vals ps, -9223372036854775808 ≤ x ∧ x ≤ 9223372036854775807 := fun x hx => by have := (Pt.smallB_iff x).1 (vals_small hmay x hx); omega
      have Htw := Lib.hid htw
      have Hvw := Lib.hid hvw
      have Hln := Lib.hid hln
      have Hlt := Lib.hid hlt'
      have Hlv := Lib.hid hlv
      have hqT : (Cl.textsB (Sg.names ps)).size ≤ 2000 := by omega
      have hqI : (Cl.intsB (Sg.times ps)).size ≤ 2000 := by omega
      have hqV : (Cl.intsB (Sg.vals ps)).size ≤ 2000 := by omega
      generalize Sg.putR r ps = res at *
      clear hr hwf hsz hrise hrg hmay htw hvw hln hlt' hlv hTl hI1 hI2 hpr
      go_enter Tryz.func26, Tryz.ntmps26
      go_wp2_with fail
      refine HRs.out.mono ?_
      rintro e w1 ⟨rfl, hb1⟩
      have Hb1 := Lib.hid hb1
      have hs1 := hb1.size
      clear hb1 HRs
      go_wp2_with fail
      go_loopw [6, 7, 8, 9] (fun vn vt vv i wr => ∃ k : Nat, k ≤ ps.length ∧ i = .int .i64 (k : Int) ∧ Hid (Rows3 w1.heap.size vn vt vv (Sg.names (ps.take k)) (Sg.times (ps.take k)) (Sg.vals (ps.take k)) wr) ∧ Hid (Below w1.heap.size w1 wr)) (fun _ _ _ i _ => ps.length - (intOf i).toNat)
      case atStart => exact ⟨0, Nat.zero_le _, rfl, Lib.hid (Rows3.nil _ _), Lib.hid (Below.refl _ _)⟩
      case round =>
        obtain ⟨k, hk, rfl, h3, hbw⟩ := hrel
        have hsw := hbw.out.size
        by_cases hlt : k < ps.length
        · obtain ⟨bb, off, rfl, hbb, hc⟩ := HRd.out.2 (by omega)
          have hcx := fun (W : World) (hb : Below w1.heap.size w1 W) => pt_cells (wr := W) hlt hc (fun p hp => (hb.cell (p := p) (by omega)).trans (Hb1.out.cell (p := p) (by omega))) hbb
          have Hcx := Lib.hid hcx
          obtain ⟨hc0, hc1, hc2⟩ := hcx wr hbw.out
          have Hn : Hid (Sg.names (ps.take (k + 1)) = Sg.names (ps.take k) ++ [ps[k].1]) := map_take_snoc _ ps k hlt
          have Ht : Hid (Sg.times (ps.take (k + 1)) = Sg.times (ps.take k) ++ [ps[k].2.1]) := map_take_snoc _ ps k hlt
          have Hv : Hid (Sg.vals (ps.take (k + 1)) = Sg.vals (ps.take k) ++ [ps[k].2.2]) := map_take_snoc _ ps k hlt
          have hl1 : (Sg.names (ps.take k)).length ≤ 64 := by simp [Sg.names]; omega
          have hl2 : (Sg.times (ps.take k)).length ≤ 64 := by simp [Sg.times]; omega
          have hl3 : (Sg.vals (ps.take k)).length ≤ 64 := by simp [Sg.vals]; omega
          clear hc hcx
          generalize Sg.names (ps.take k) = N at *
          generalize Sg.times (ps.take k) = T at *
          generalize Sg.vals (ps.take k) = V at *
          generalize ps[k].1 = nm at *
          generalize ps[k].2.1 = t at *
          generalize ps[k].2.2 = v at *
          go_wp2_with (first
            | (at_builtin; refine wpList_push_only wr (o := ⟨some 33, _, _, _, _, _⟩) rfl _ _ 114 rfl w1.heap.size 9 i0 _ 1 16 Tryz.underlying114 hi hz0 hz1 hz2 rfl (by decide) _ N.length _ (by rfl) h3.out.n [.string nm] (by rfl) rfl (by simp [Value.oneCell']) (by unfold maxLen; omega) (by omega) hsw ?_; intro v7 w7 hown7 ho7 hn7; have H7 := Lib.hid (h3.out.pushN nm hown7 ho7); have Hb7 : Hid (Below w1.heap.size w1 w7) := hbw.out.trans (ho7.below (fun j hj e => own_ne_lt h3.out.n hj e) hsw); have hs7 := Hb7.out.size; have hd1 := (Hcx.out w7 Hb7.out).2.1; clear hown7 ho7 hn7)
            | (at_builtin; refine wpList_push_only w7 (o := ⟨some 41, _, _, _, _, _⟩) rfl _ _ 115 rfl w1.heap.size 3 i1 _ 1 8 Tryz.underlying115 hi' hy0 hy1 hy2 rfl (by decide) _ T.length _ (by rfl) H7.out.t [.int .i64 t] (by rfl) rfl (by simp [Value.oneCell']) (by unfold maxLen; omega) (by omega) hs7 ?_; intro v8 w8 hown8 ho8 hn8; have H8 := Lib.hid (H7.out.pushT t hown8 ho8 hn8); have Hb8 : Hid (Below w1.heap.size w1 w8) := Hb7.out.trans (ho8.below (fun j hj e => own_ne_lt H7.out.t hj e) hs7); have hs8 := Hb8.out.size; have he2 := (Hcx.out w8 Hb8.out).2.2; clear hown8 ho8 hn8)
            | (at_builtin; refine wpList_push_only w8 (o := ⟨some 49, _, _, _, _, _⟩) rfl _ _ 115 rfl w1.heap.size 3 i1 _ 1 8 Tryz.underlying115 hi' hy0 hy1 hy2 rfl (by decide) _ V.length _ (by rfl) H8.out.v [.int .i64 v] (by rfl) rfl (by simp [Value.oneCell']) (by unfold maxLen; omega) (by omega) hs8 ?_; intro v9 w9 hown9 ho9 hn9; have H9 := Lib.hid (H8.out.pushV v hown9 ho9 hn9); have Hb9 : Hid (Below w1.heap.size w1 w9) := Hb8.out.trans (ho9.below (fun j hj e => own_ne_lt H8.out.v hj e) hs8); clear hown9 ho9 hn9))
          rw [← Hn.out, ← Ht.out, ← Hv.out] at H9
          go_wp2_with fail
          go_roundw
          case rel => exact ⟨k + 1, by omega, by go_num, H9, Hb9⟩
          case measure => simp [intOf]; omega
        · have htk : ps.take k = ps := List.take_of_length_le (by omega)
          rw [htk] at h3
          obtain ⟨An, cn, rfl, hnn, hrn⟩ := own_slice h3.out.n
          obtain ⟨At, ct, rfl, hnt, hrt⟩ := own_slice h3.out.t
          obtain ⟨Av, cv, rfl, hnv, hrv⟩ := own_slice h3.out.v
          have HT := fun W (hb : Below wr.heap.size wr W) => Lib.hid (rtexts_any An cn (Sg.names ps) W wr.heap.size (hrn.below hb) hb.size (by rw [Hln.out]; omega))
          have HI := fun W (hb : Below wr.heap.size wr W) => Lib.hid (rints_any At ct (Sg.times ps) W wr.heap.size (hrt.below hb) hb.size (by rw [Hlt.out]; omega) Htw.out)
          have HV := fun W (hb : Below wr.heap.size wr W) => Lib.hid (rints_any Av cv (Sg.vals ps) W wr.heap.size (hrv.below hb) hb.size (by rw [Hlv.out]; omega) Hvw.out)
          have HRb : Hid (res = (Sg.fileB (Sg.mark ++ Wr.putB r ++ Wr.putB (ps.length : Int) ++ Cl.textsB (Sg.names ps) ++ Cl.intsB (Sg.times ps) ++ Cl.intsB (Sg.vals ps)), 0)) := HR.out
          clear htk h3 hrn hrt hrv HR HM
          generalize Cl.textsB (Sg.names ps) = TB at *
          generalize Cl.intsB (Sg.times ps) = IB at *
          generalize Cl.intsB (Sg.vals ps) = VB at *
          generalize Wr.putB r = RB at *
          generalize Wr.putB (ps.length : Int) = NB at *
          generalize Sg.names ps = NN at *
          generalize Sg.times ps = TT at *
          generalize Sg.vals ps = VV at *
          go_wp2_with fail
          refine (HN1 _).out.mono ?_
          rintro e w2 ⟨rfl, hb2⟩
          have Hb2 := Lib.hid hb2
          clear hb2
          go_wp2_with fail
          refine (HN2 _).out.mono ?_
          rintro e w3 ⟨rfl, hb3⟩
          have Hb3 : Hid (Below wr.heap.size wr w3) := Hb2.out.trans (hb3.mono Hb2.out.size)
          clear hb3
          go_wp2_with fail
          refine (HT _ Hb3.out).out.mono ?_
          rintro e w4 ⟨rfl, hb4⟩
          have Hb4 : Hid (Below wr.heap.size wr w4) := Hb3.out.trans (hb4.mono Hb3.out.size)
          clear hb4
          go_wp2_with fail
          refine (HI _ Hb4.out).out.mono ?_
          rintro e w5 ⟨rfl, hb5⟩
          have Hb5 : Hid (Below wr.heap.size wr w5) := Hb4.out.trans (hb5.mono Hb4.out.size)
          clear hb5
          go_wp2_with fail
          refine (HV _ Hb5.out).out.mono ?_
          rintro e w6 ⟨rfl, hb6⟩
          have Hb6 : Hid (Below wr.heap.size wr w6) := Hb5.out.trans (hb6.mono Hb5.out.size)
          clear hb6
          go_wp2_with fail
          have HRc : Hid (res = (Sg.fileB (⟨#[83, 69, 71, 49]⟩ ++ RB ++ NB ++ TB ++ IB ++ VB), 0)) := HRb.out
          have hbs : ((⟨#[83, 69, 71, 49]⟩ : ByteArray) ++ RB ++ NB ++ TB ++ IB ++ VB).size ≤ 10000 := by
            simp only [ByteArray.size_append]
            have : (⟨#[83, 69, 71, 49]⟩ : ByteArray).size = 4 := rfl
            omega
          clear HRb
          generalize (⟨#[83, 69, 71, 49]⟩ : ByteArray) ++ RB ++ NB ++ TB ++ IB ++ VB = BD at *
          refine (rhash_any BD _ (by unfold maxLen; omega)).mono ?_
          rintro e w' ⟨rfl, rfl⟩
          have hhl := Sm.hashL_lt BD.data.toList
          have hts := Sg.tailB_size (Sm.hashL BD.data.toList)
          have hts' : (Sg.tailB (Sm.hashL BD.data.toList)).size ≤ 8 := by omega
          have HR8 := fun W => Lib.hid (reight_any (Sm.hashL BD.data.toList) W hhl)
          have HRd2 : Hid (res = (BD ++ Sg.tailB (Sm.hashL BD.data.toList), 0)) := HRc.out
          clear hts HRc hhl
          generalize Sm.hashL BD.data.toList = hh at *
          go_wp2_with fail
          refine (HR8 _).out.mono ?_
          rintro e w7 ⟨rfl, hb7⟩
          have Hb7 : Hid (Below wr.heap.size wr w7) := Hb6.out.trans (hb7.mono Hb6.out.size)
          clear hb7
          generalize Sg.tailB hh = TL at *
          go_wp2_with fail
          go_ret2
          exact ⟨by rw [HRd2.out]; rfl, Hb1.out.trans ((hbw.out.mono hs1).trans (Hb7.out.mono (Nat.le_trans hs1 hsw)))⟩
end Go.Proofs.YtmnigoibbcigdaaGreat
/- The plain machine: an entry is applied; what stays true of it (chapter 11). No walk in sight. -/
namespace Go.Proofs.YtmnigoibbcigdaaGreat
open Go.RowKit
set_option linter.unusedVariables false

def Ig.segB (m : Ig.M) : ByteArray := (Sg.putR (m.at_ / 8) m.opn).1
def Ig.sealM (m : Ig.M) : Ig.M := ⟨m.at_, m.rows, [], m.digs ++ [(Sm.hashL (Ig.segB m).data.toList : Int)], m.seals ++ [(m.at_ / 8, Ig.segB m)]⟩
def Ig.up (m : Ig.M) : Ig.M := ⟨m.at_ + 1, m.rows, m.opn, m.digs, m.seals⟩
def Ig.applyM (m : Ig.M) (v c s n : Int) (bs : List Pt.Point) : Ig.M × Int × Int :=
  if 4096 ≤ m.at_ then (m, -1, 9)
  else (if (m.at_ + 1) % 8 = 0 then Ig.sealM (Ig.takeM (Ig.up m) v c s n bs).1 else (Ig.takeM (Ig.up m) v c s n bs).1, (Ig.takeM (Ig.up m) v c s n bs).2)
theorem Ig.take_at (m : Ig.M) (v c s n : Int) (bs : List Pt.Point) : (Ig.takeM m v c s n bs).1.at_ = m.at_ := by unfold Ig.takeM; split <;> rfl
/-- what stays true of a machine -/
structure Ig.Inv (m : Ig.M) : Prop where
  at0 : 0 ≤ m.at_
  at1 : m.at_ ≤ 4096
  sorted : Ig.Sorted m.opn
  many : (m.opn.length : Int) ≤ 8 * (m.at_ % 8)
  pts : ∀ p ∈ m.opn, Pt.mayB p = true
  rows : Se.mayB m.rows = true
  dl : (m.digs.length : Int) = m.at_ / 8
  dr : ∀ d ∈ m.digs, 0 ≤ d ∧ d < 18446744073709551616
  sl : (m.seals.length : Int) ≤ m.at_ / 8
theorem Ig.inv0 : Ig.Inv Ig.m0 := ⟨by decide, by decide, Ig.sorted_nil, by decide, fun p h => by simp [Ig.m0] at h, by decide, by decide, fun d h => by simp [Ig.m0] at h, by decide⟩
theorem Ig.wf_of {p : Pt.Point} (h : Pt.mayB p = true) : Pt.wf p := by
  obtain ⟨_, h1, h2⟩ := may_parts h
  exact ⟨⟨by omega, by omega⟩, ⟨by omega, by omega⟩⟩
theorem Ig.may_pts {v c s n : Int} {bs : List Pt.Point} (h : Ig.mayB v c s n bs = true) : ∀ p ∈ bs, Pt.mayB p = true := by
  unfold Ig.mayB at h; rw [Bool.and_eq_true, Bool.and_eq_true] at h; exact Pt.batch_all h.2.1
theorem Ig.mem_setP {ps : List Pt.Point} {p q : Pt.Point} (h : q ∈ Ig.setP ps p) : q ∈ ps ∨ q = p := by
  unfold Ig.setP at h
  split at h
  · rcases List.mem_or_eq_of_mem_set h with h | h
    · exact .inl h
    · exact .inr h
  · rcases List.mem_append.1 h with h | h
    · exact .inl (List.mem_of_mem_take h)
    · rcases List.mem_cons.1 h with h | h
      · exact .inr h
      · exact .inl (List.mem_of_mem_drop h)
theorem Ig.mem_setAll {ps qs : List Pt.Point} {q : Pt.Point} (h : q ∈ Ig.setAll ps qs) : q ∈ ps ∨ q ∈ qs := by
  unfold Ig.setAll at h
  induction qs generalizing ps with
  | nil => exact .inl h
  | cons r qs ih =>
    rcases ih h with h | h
    · rcases Ig.mem_setP h with h | h
      · exact .inl h
      · exact .inr (by rw [h]; exact List.mem_cons_self ..)
    · exact .inr (List.mem_cons_of_mem _ h)
/-- what take leaves: all but the count of open points -/
structure Ig.Mid (m : Ig.M) : Prop where
  at0 : 1 ≤ m.at_
  at1 : m.at_ ≤ 4096
  sorted : Ig.Sorted m.opn
  many : (m.opn.length : Int) ≤ 8 * ((m.at_ - 1) % 8) + 8
  pts : ∀ p ∈ m.opn, Pt.mayB p = true
  rows : Se.mayB m.rows = true
  dl : (m.digs.length : Int) = (m.at_ - 1) / 8
  dr : ∀ d ∈ m.digs, 0 ≤ d ∧ d < 18446744073709551616
  sl : (m.seals.length : Int) ≤ (m.at_ - 1) / 8
theorem Ig.mid_up {m : Ig.M} (h : Ig.Inv m) (hl : ¬ 4096 ≤ m.at_) : Ig.Mid (Ig.up m) := by
  obtain ⟨a, b, c, d, e, f, g, i, j⟩ := h
  refine ⟨?_, ?_, c, ?_, e, f, ?_, i, ?_⟩ <;> unfold Ig.up <;> simp only <;> (try rw [show m.at_ + 1 - 1 = m.at_ from by omega]) <;> omega
theorem Ig.mid_take {m : Ig.M} (h : Ig.Inv m) (hl : ¬ 4096 ≤ m.at_) (v c s n : Int) (bs : List Pt.Point) : Ig.Mid (Ig.takeM (Ig.up m) v c s n bs).1 := by
  have hm := Ig.mid_up h hl
  unfold Ig.takeM
  split
  · rename_i hmay
    have h8 := Ig.may_len hmay
    have hp := Ig.may_pts hmay
    have hmy := h.many
    refine ⟨hm.at0, hm.at1, ?_, ?_, ?_, Se.apply_may hm.rows, hm.dl, hm.dr, hm.sl⟩
    · simp only
      split
      · exact Ig.setAll_sorted hm.sorted bs
      · exact hm.sorted
    · simp only
      split
      · have := Ig.setAll_len (Ig.up m).opn bs
        have e1 : (Ig.up m).opn = m.opn := rfl
        have e2 : (Ig.up m).at_ - 1 = m.at_ := by unfold Ig.up; simp only; omega
        rw [e1] at this ⊢
        rw [e2]
        omega
      · exact hm.many
    · simp only
      intro p hq
      split at hq
      · rcases Ig.mem_setAll hq with q | q
        · exact hm.pts p q
        · exact hp p q
      · exact hm.pts p hq
  · exact hm
theorem Ig.mid_seal {m : Ig.M} (h : Ig.Mid m) (h8 : m.at_ % 8 = 0) : Ig.Inv (Ig.sealM m) := by
  obtain ⟨a, b, c, d, e, f, g, i, j⟩ := h
  have hq : m.at_ / 8 = (m.at_ - 1) / 8 + 1 := by omega
  refine ⟨?_, b, Ig.sorted_nil, ?_, fun p hp => by simp [Ig.sealM] at hp, f, ?_, ?_, ?_⟩
  · show 0 ≤ m.at_; omega
  · show ((([] : List Pt.Point).length : Nat) : Int) ≤ 8 * (m.at_ % 8); simp; omega
  · show (((m.digs ++ [_]).length : Nat) : Int) = m.at_ / 8; rw [List.length_append, hq, ← g]; simp
  · intro x hx
    rcases List.mem_append.1 hx with hx | hx
    · exact i x hx
    · simp only [List.mem_singleton] at hx; subst hx
      have := Sm.hashL_lt (Ig.segB m).data.toList
      omega
  · show (((m.seals ++ [_]).length : Nat) : Int) ≤ m.at_ / 8; rw [List.length_append, hq]; simp; omega
theorem Ig.mid_go {m : Ig.M} (h : Ig.Mid m) (h8 : ¬ m.at_ % 8 = 0) : Ig.Inv m := by
  obtain ⟨a, b, c, d, e, f, g, i, j⟩ := h
  exact ⟨by omega, b, c, by omega, e, f, by omega, i, by omega⟩
theorem Ig.inv_apply {m : Ig.M} (h : Ig.Inv m) (v c s n : Int) (bs : List Pt.Point) : Ig.Inv (Ig.applyM m v c s n bs).1 := by
  unfold Ig.applyM
  split
  · exact h
  · rename_i hl
    have hm := Ig.mid_take h hl v c s n bs
    have ha := Ig.take_at (Ig.up m) v c s n bs
    have hu : (Ig.up m).at_ = m.at_ + 1 := rfl
    split
    · rename_i h8; exact Ig.mid_seal hm (by rw [ha, hu]; exact h8)
    · rename_i h8; exact Ig.mid_go hm (by rw [ha, hu]; exact h8)
theorem Ig.mid_len {m : Ig.M} (h : Ig.Mid m) : m.opn.length ≤ 64 := by have := h.many; omega
theorem Ig.inv_len {m : Ig.M} (h : Ig.Inv m) : m.opn.length ≤ 56 := by have := h.many; omega
end Go.Proofs.YtmnigoibbcigdaaGreat
/- A drawn region with three builds and three appends: the steps. -/
namespace Go.Proofs.YtmnigoibbcigdaaGreat
open Go.RowKit
set_option linter.unusedVariables false

section
variable {base : Nat} {vn vt vv : Value} {N : List ByteArray} {T V : List Int} {w w' : World}
theorem Rows3.alloc (h : Rows3 base vn vt vv N T V w) (o : Obj) : Rows3 base vn vt vv N T V (w.alloc o) := ⟨h.n.alloc o, h.t.alloc o, h.v.alloc o, h.ne⟩
theorem Rows3.drew (h : Rows3 base vn vt vv N T V w) : Rows3 base vn vt vv N T V w.drew := ⟨h.n.drew, h.t.drew, h.v.drew, h.ne⟩
theorem Rows3.only (h : Rows3 base vn vt vv N T V w) {S : Nat → Prop} (ho : Only S w w') (hn : ∀ g, vn.ownBlock = some g → ¬ S g) (ht : ∀ g, vt.ownBlock = some g → ¬ S g) (hv : ∀ g, vv.ownBlock = some g → ¬ S g) : Rows3 base vn vt vv N T V w' := ⟨own_only h.n ho hn, own_only h.t ho ht, own_only h.v ho hv, h.ne⟩
theorem news_one {g : Nat} {x : Value} (h : w.cell? ⟨g, 0, none⟩ = some x) : ∀ j u, [x][j]? = some u → w.cell? ((⟨g, 0, none⟩ : Addr).add j) = some u := by
  intro j u hu
  have hj : j = 0 := by
    rcases j with _ | j
    · rfl
    · simp at hu
  subst hj
  rw [add_mk]
  simp at hu
  subst hu
  exact h
theorem cell_new_at (W : World) (g : Nat) (hg : W.heap.size = g) (x : Value) (t : TypeId) : (W.alloc (.cells #[x] t)).cell? ⟨g, 0, none⟩ = some x := by subst hg; exact cell_new W #[x] t 0
variable {ops : Array Oper} {o : Oper} {a : Act} {K : Act → World → Prop} {Q : Exit → Act → World → Prop} {E : Prop}
theorem step_pushN (w : World) (hgd : o.guard = none) (s x : Operand) (ho : o.op = .call { callee := .builtin .append, args := #[s, x], argTypes := #[114, 114] })
    (hR : Rows3 base vn vt vv N T V w) (hs : a.eval s = vn) (g : Nat) (hx : a.eval x = .slice (some ⟨g, 0, none⟩) 1 1) (nm : ByteArray) (hc : w.cell? ⟨g, 0, none⟩ = some (.string nm)) (hn : N.length ≤ 64) (hb : base ≤ w.heap.size)
    (h : ∀ gg cap w', Rows3 base (.slice (some ⟨gg, 0, none⟩) (N.length + 1) cap) vt vv (N ++ [nm]) T V w' → w.grownBy w' vn.ownBlock → K (a.put o.dst (.slice (some ⟨gg, 0, none⟩) (N.length + 1) cap)) w') :
    if Region.wanted o (yielded ops a.tmps) = true then Oper.wp Tryz.prog o a w K Q else E := by
  obtain ⟨i0, hi, hz0, hz1, hz2⟩ := info_parts info_string
  refine step_append_lies _ hgd s x _ ho base 9 i0 _ 1 16 Tryz.underlying114 hi hz0 hz1 hz2 rfl (by decide) vn N.length _ hs hR.n ⟨g, 0, none⟩ 1 1 [.string nm] hx rfl (news_one hc) (by simp [Value.oneCell']) (by omega) (by unfold maxLen; omega) (by omega) hb _ rfl ?_
  intro gg cap w' hown hg hat hlt
  exact h gg cap w' (hR.pushN nm hown (Only.of_grown hg (fun k hk _ => hk))) hg
theorem step_pushT (w : World) (hgd : o.guard = none) (s x : Operand) (ho : o.op = .call { callee := .builtin .append, args := #[s, x], argTypes := #[115, 115] })
    (hR : Rows3 base vn vt vv N T V w) (hs : a.eval s = vt) (g : Nat) (hx : a.eval x = .slice (some ⟨g, 0, none⟩) 1 1) (t : Int) (hc : w.cell? ⟨g, 0, none⟩ = some (.int .i64 t)) (hn : T.length ≤ 64) (hb : base ≤ w.heap.size)
    (h : ∀ gg cap w', Rows3 base vn (.slice (some ⟨gg, 0, none⟩) (T.length + 1) cap) vv N (T ++ [t]) V w' → w.grownBy w' vt.ownBlock → K (a.put o.dst (.slice (some ⟨gg, 0, none⟩) (T.length + 1) cap)) w') :
    if Region.wanted o (yielded ops a.tmps) = true then Oper.wp Tryz.prog o a w K Q else E := by
  obtain ⟨i0, hi, hz0, hz1, hz2⟩ := info_parts info_int
  refine step_append_lies _ hgd s x _ ho base 3 i0 _ 1 8 Tryz.underlying115 hi hz0 hz1 hz2 rfl (by decide) vt T.length _ hs hR.t ⟨g, 0, none⟩ 1 1 [.int .i64 t] hx rfl (news_one hc) (by simp [Value.oneCell']) (by omega) (by unfold maxLen; omega) (by omega) hb _ rfl ?_
  intro gg cap w' hown hg hat hlt
  refine h gg cap w' (hR.pushT t hown (Only.of_grown hg (fun k hk _ => hk)) ?_) hg
  intro k hk
  have : gg = k := by simpa [Value.ownBlock] using hk
  subst this
  rcases hat with q | q
  · exact .inl q
  · exact .inr (by omega)
theorem step_pushV (w : World) (hgd : o.guard = none) (s x : Operand) (ho : o.op = .call { callee := .builtin .append, args := #[s, x], argTypes := #[115, 115] })
    (hR : Rows3 base vn vt vv N T V w) (hs : a.eval s = vv) (g : Nat) (hx : a.eval x = .slice (some ⟨g, 0, none⟩) 1 1) (t : Int) (hc : w.cell? ⟨g, 0, none⟩ = some (.int .i64 t)) (hn : V.length ≤ 64) (hb : base ≤ w.heap.size)
    (h : ∀ gg cap w', Rows3 base vn vt (.slice (some ⟨gg, 0, none⟩) (V.length + 1) cap) N T (V ++ [t]) w' → w.grownBy w' vv.ownBlock → K (a.put o.dst (.slice (some ⟨gg, 0, none⟩) (V.length + 1) cap)) w') :
    if Region.wanted o (yielded ops a.tmps) = true then Oper.wp Tryz.prog o a w K Q else E := by
  obtain ⟨i0, hi, hz0, hz1, hz2⟩ := info_parts info_int
  refine step_append_lies _ hgd s x _ ho base 3 i0 _ 1 8 Tryz.underlying115 hi hz0 hz1 hz2 rfl (by decide) vv V.length _ hs hR.v ⟨g, 0, none⟩ 1 1 [.int .i64 t] hx rfl (news_one hc) (by simp [Value.oneCell']) (by omega) (by unfold maxLen; omega) (by omega) hb _ rfl ?_
  intro gg cap w' hown hg hat hlt
  refine h gg cap w' (hR.pushV t hown (Only.of_grown hg (fun k hk _ => hk)) ?_) hg
  intro k hk
  have : gg = k := by simpa [Value.ownBlock] using hk
  subst this
  rcases hat with q | q
  · exact .inl q
  · exact .inr (by omega)
end
end Go.Proofs.YtmnigoibbcigdaaGreat
/- The walks through GetTexts of column and of its reference. -/
namespace Go.Proofs.YtmnigoibbcigdaaGreat
open Go.RowKit
set_option linter.unusedVariables false

abbrev noTexts : List ByteArray × Int × Int := ([], 0, 1200)
theorem getTexts_no {s : ByteArray} {a many : Int} (h : many < 0 ∨ 65536 < many ∨ a < 0 ∨ (s.size : Int) < a) : Cl.getTexts s a many = noTexts := by
  unfold Cl.getTexts; rw [if_pos h]
theorem getTexts_head {s : ByteArray} {a many : Int} (h : (Wr.getN s.data.toList a).2.2 ≠ 0 ∨ (Wr.getN s.data.toList a).1 < 0 ∨ many < (Wr.getN s.data.toList a).1) : Cl.getTexts s a many = noTexts := by
  unfold Cl.getTexts
  by_cases h1 : many < 0 ∨ 65536 < many ∨ a < 0 ∨ (s.size : Int) < a
  · rw [if_pos h1]
  · rw [if_neg h1, if_pos h]
section
variable {s : ByteArray} {a to : Int} {n k : Nat} (hn : n ≤ 65536) (ha : 0 ≤ a ∧ a ≤ (s.size : Int)) (hg : Wr.getN s.data.toList a = ((k : Int), to, 0)) (hk : k ≤ n)
include hn ha hg hk
theorem getTexts_wn (h : Cl.rdWords s k [] to = none) : Cl.getTexts s a (n : Int) = noTexts := by
  unfold Cl.getTexts
  rw [if_neg (by omega), hg, if_neg (by simp; omega)]
  simp only [Int.toNat_natCast, h]
theorem getTexts_pn {ws : List ByteArray} {b : Int} (h : Cl.rdWords s k [] to = some (ws, b)) (h2 : Cl.rdPlaces s.data.toList ws n 0 b = none) : Cl.getTexts s a (n : Int) = noTexts := by
  unfold Cl.getTexts
  rw [if_neg (by omega), hg, if_neg (by simp; omega)]
  simp only [Int.toNat_natCast, h, h2]
theorem getTexts_un {ws l : List ByteArray} {b c : Int} {u : Nat} (h : Cl.rdWords s k [] to = some (ws, b)) (h2 : Cl.rdPlaces s.data.toList ws n 0 b = some (l, u, c)) (hu : u ≠ ws.length) : Cl.getTexts s a (n : Int) = noTexts := by
  unfold Cl.getTexts
  rw [if_neg (by omega), hg, if_neg (by simp; omega)]
  simp only [Int.toNat_natCast, h, h2, if_neg hu]
theorem getTexts_ok {ws l : List ByteArray} {b c : Int} {u : Nat} (h : Cl.rdWords s k [] to = some (ws, b)) (h2 : Cl.rdPlaces s.data.toList ws n 0 b = some (l, u, c)) (hu : u = ws.length) : Cl.getTexts s a (n : Int) = (l, c, 0) := by
  unfold Cl.getTexts
  rw [if_neg (by omega), hg, if_neg (by simp; omega)]
  simp only [Int.toNat_natCast, h, h2, if_pos hu]
end
theorem wd_step {s : ByteArray} {k j : Nat} {ws : List ByteArray} {a nx : Int} {x : ByteArray} {r : Option (List ByteArray × Int)} (hj : j < k) (hrel : r = Cl.rdWords s (k - j) ws a) (h : Wr.getT s a 12 = (x, nx, 0)) (hni : ¬ Cl.idx ws x < ws.length) : r = Cl.rdWords s (k - (j + 1)) (ws ++ [x]) nx := by
  rw [hrel, show k - j = (k - (j + 1)) + 1 from by omega, Cl.rdWords, h, if_pos ⟨rfl, hni⟩]
theorem wd_stop {s : ByteArray} {k j : Nat} {ws : List ByteArray} {a : Int} {r : Option (List ByteArray × Int)} (hj : j < k) (hrel : r = Cl.rdWords s (k - j) ws a) (h : (Wr.getT s a 12).2.2 ≠ 0 ∨ Cl.idx ws (Wr.getT s a 12).1 < ws.length) : r = none := by
  rw [hrel, show k - j = (k - (j + 1)) + 1 from by omega, Cl.rdWords, if_neg]
  rintro ⟨h1, h2⟩
  rcases h with h | h
  · exact h h1
  · exact h2 h
theorem wd_done {s : ByteArray} {k j : Nat} {ws : List ByteArray} {a : Int} {r : Option (List ByteArray × Int)} (hj : ¬ j < k) (hrel : r = Cl.rdWords s (k - j) ws a) : r = some (ws, a) := by
  rw [hrel, show k - j = 0 from by omega, Cl.rdWords]
theorem pl_step {l : List UInt8} {ws out : List ByteArray} {n j used : Nat} {a nx : Int} {x : Nat} {r : Option (List ByteArray × Nat × Int)} (hj : j < n) (hrel : r = (Cl.rdPlaces l ws (n - j) used a).map fun q => (out ++ q.1, q.2)) (h : Wr.getN l a = ((x : Int), nx, 0)) (hx : x < ws.length) (hu : x ≤ used) :
    r = (Cl.rdPlaces l ws (n - (j + 1)) (if x = used then used + 1 else used) nx).map fun q => ((out ++ [ws[x]]) ++ q.1, q.2) := by
  rw [hrel, show n - j = (n - (j + 1)) + 1 from by omega, Cl.rdPlaces, h, if_pos ⟨rfl, by simp, by simp; omega, by simp; omega⟩, Option.map_map]
  have e : (if ((x : Int), nx, (0 : Int)).1 = (used : Int) then used + 1 else used) = (if x = used then used + 1 else used) := by
    by_cases h : x = used
    · rw [if_pos h, if_pos (by simp [h])]
    · rw [if_neg h, if_neg (by simp; omega)]
  rw [e]
  congr 1
  funext q
  simp [List.getD_eq_getElem?_getD, List.getElem?_eq_getElem hx]
theorem pl_stop {l : List UInt8} {ws out : List ByteArray} {n j used : Nat} {a : Int} {r : Option (List ByteArray × Nat × Int)} (hj : j < n) (hrel : r = (Cl.rdPlaces l ws (n - j) used a).map fun q => (out ++ q.1, q.2)) (h : (Wr.getN l a).2.2 ≠ 0 ∨ (Wr.getN l a).1 < 0 ∨ (ws.length : Int) ≤ (Wr.getN l a).1 ∨ (used : Int) < (Wr.getN l a).1) : r = none := by
  rw [hrel, show n - j = (n - (j + 1)) + 1 from by omega, Cl.rdPlaces, if_neg]
  · rfl
  · rintro ⟨h1, h2, h3, h4⟩
    rcases h with h | h | h | h
    · exact h h1
    · omega
    · omega
    · omega
theorem pl_done {l : List UInt8} {ws out : List ByteArray} {n j used : Nat} {a : Int} {r : Option (List ByteArray × Nat × Int)} (hj : ¬ j < n) (hrel : r = (Cl.rdPlaces l ws (n - j) used a).map fun q => (out ++ q.1, q.2)) : r = some (out, used, a) := by
  rw [hrel, show n - j = 0 from by omega, Cl.rdPlaces]; simp
def TextsPost (w : World) (r : List ByteArray × Int × Int) (e : Ending) (w' : World) : Prop :=
  ∃ v, e = .returned (.tuple #[v, .int .i64 r.2.1, .int .i64 r.2.2]) ∧ w'.ownsRow w.heap.size 9 1 v r.1.length (r.1.map Value.string) ∧ Below w.heap.size w w'

end Go.Proofs.YtmnigoibbcigdaaGreat
/- The walk through column.GetTexts. -/
namespace Go.Proofs.YtmnigoibbcigdaaGreat
open Go.RowKit
set_option linter.unusedVariables false

end Go.Proofs.YtmnigoibbcigdaaGreat
/- The walk through column.GetInts. -/
namespace Go.Proofs.YtmnigoibbcigdaaGreat
open Go.RowKit
set_option linter.unusedVariables false

end Go.Proofs.YtmnigoibbcigdaaGreat
/- The walk through segment.Put. -/
namespace Go.Proofs.YtmnigoibbcigdaaGreat
open Go.RowKit
set_option linter.unusedVariables false

theorem sg_cell_keep {w : World} {p : Addr} {u : Value} (o : Obj) (h : w.cell? p = some u) : (w.alloc o).cell? p = some u := (World.cell?_alloc_lt w o p (World.block_lt_of_cell? w _ h)).trans h
theorem drew_cell (w : World) (p : Addr) : w.drew.cell? p = w.cell? p := rfl
theorem drew_size (w : World) : w.drew.heap.size = w.heap.size := rfl
set_option maxRecDepth 100000 in
set_option maxHeartbeats 4000000 in
theorem sgput_any (r : Int) (A : Option Addr) (c : Nat) (ps : List Pt.Point) (w : World) (B : Nat) (hr : Reads w B 3 A ps.length (ps.flatMap pointCells)) (hB : B ≤ w.heap.size) (hn : ps.length ≤ 140737488355328) (hwf : ∀ p ∈ ps, Pt.wf p) :
    Calls Tryz.prog 20 #[.int .i64 r, .slice A ps.length c] w fun e w' => e = .returned (.tuple #[.string (Sg.putR r ps).1, .int .i64 (Sg.putR r ps).2]) ∧ Below w.heap.size w w' := by
  obtain ⟨i0, hi, hz0, hz1, hz2⟩ := info_parts info_string
  obtain ⟨i1, hi', hy0, hy1, hy2⟩ := info_parts info_int
  have HRs := Lib.hid (sgmay_any A c ps w B hr hB hn hwf)
  have HRd := Lib.hid hr
  by_cases hrg : r < 1 ∨ 512 < r
  · have HR := Lib.hid (putR_range (ps := ps) hrg)
    generalize Sg.putR r ps = res at *
    clear HRs hr hwf
    by_cases h1 : r < 1
    · clear hrg
      go_enter Tryz.func20, Tryz.ntmps20
      go_wp2_with fail
      go_ret2
      exact ⟨by rw [HR.out]; rfl, Below.refl _ _⟩
    · have h2 : 512 < r := by omega
      clear hrg
      go_enter Tryz.func20, Tryz.ntmps20
      go_wp2_with fail
      go_ret2
      exact ⟨by rw [HR.out]; rfl, Below.refl _ _⟩
  · have hr1 : ¬ r < 1 := by omega
    have hr2 : ¬ 512 < r := by omega
    have d1 : decide (r < 1) = false := decide_eq_false hr1
    have d2 : decide (512 < r) = false := decide_eq_false hr2
    cases hrise : Sg.riseB ps
    · have HR := Lib.hid (putR_form hrg hrise)
      rw [hrise] at HRs
      generalize Sg.putR r ps = res at *
      clear hr hwf hrise hrg
      go_enter Tryz.func20, Tryz.ntmps20
      go_wp2_with fail
      refine HRs.out.mono ?_
      rintro e w1 ⟨rfl, hb1⟩
      go_wp2_with fail
      go_ret2
      exact ⟨by rw [HR.out]; rfl, hb1⟩
    · have HR := Lib.hid (putR_good hrg hrise)
      rw [hrise] at HRs
      have h64 := rise_len hrise
      have hmay := rise_may hrise
      have HM := Lib.hid hmay
      have hTl := textsB_le (names_short hmay) (by simp [Sg.names]; omega)
      have hI1 := intsB_le (times_small hmay)
      have hI2 := intsB_le (vals_small hmay)
      have hln : (Sg.names ps).length = ps.length := by simp [Sg.names]
      have hlt' : (Sg.times ps).length = ps.length := by simp [Sg.times]
      have hlv : (Sg.vals ps).length = ps.length := by simp [Sg.vals]
      have hpr := Wr.putL_len r
      have hpr' : (Wr.putB r).size ≤ 8 := by rw [Wr.putB_size]; exact hpr
      have hpn : (Wr.putB (ps.length : Int)).size ≤ 8 := by rw [Wr.putB_size]; exact Wr.putL_len _
      have HN1 := fun W => Lib.hid (putNum_any r W (by omega))
      have HN2 := fun W => Lib.hid (putNum_any (ps.length : Int) W (by omega))
      have htw : ∀ x ∈ Sg.times ps, -9223372036854775808 ≤ x ∧ x ≤ 9223372036854775807 := fun x hx => by have := (Pt.smallB_iff x).1 (times_small hmay x hx); omega
      have hvw : ∀ x ∈ Sg.vals ps, -9223372036854775808 ≤ x ∧ x ≤ 9223372036854775807 := fun x hx => by have := (Pt.smallB_iff x).1 (vals_small hmay x hx); omega
      have Htw := Lib.hid htw
      have Hvw := Lib.hid hvw
      have Hln := Lib.hid hln
      have Hlt := Lib.hid hlt'
      have Hlv := Lib.hid hlv
      have hqT : (Cl.textsB (Sg.names ps)).size ≤ 2000 := by omega
      have hqI : (Cl.intsB (Sg.times ps)).size ≤ 2000 := by omega
      have hqV : (Cl.intsB (Sg.vals ps)).size ≤ 2000 := by omega
      generalize Sg.putR r ps = res at *
      clear hr hwf hrise hrg hmay htw hvw hln hlt' hlv hTl hI1 hI2 hpr
      go_enter Tryz.func20, Tryz.ntmps20
      go_wp2_with fail
      refine HRs.out.mono ?_
      rintro e w1 ⟨rfl, hb1⟩
      have Hb1 := Lib.hid hb1
      have hs1 := hb1.size
      clear hb1 HRs
      go_wp2_with fail
      go_loopw [6, 7, 8, 10, 25] (fun vn vt vv _ i wr => ∃ k : Nat, k ≤ ps.length ∧ i = .int .i64 (k : Int) ∧ Hid (Rows3 w1.heap.size vn vt vv (Sg.names (ps.take k)) (Sg.times (ps.take k)) (Sg.vals (ps.take k)) wr) ∧ Hid (Below w1.heap.size w1 wr)) (fun _ _ _ _ i _ => ps.length - (intOf i).toNat)
      case atStart => exact ⟨0, Nat.zero_le _, rfl, Lib.hid (Rows3.nil _ _), Lib.hid (Below.refl _ _)⟩
      case round =>
        obtain ⟨k, hk, rfl, h3, hbw⟩ := hrel
        have hsw := hbw.out.size
        by_cases hlt : k < ps.length
        · obtain ⟨bb, off, rfl, hbb, hc⟩ := HRd.out.2 (by omega)
          have hcx := fun (W : World) (hb : Below w1.heap.size w1 W) => pt_cells (wr := W) hlt hc (fun p hp => (hb.cell (p := p) (by omega)).trans (Hb1.out.cell (p := p) (by omega))) hbb
          have Hcx := Lib.hid hcx
          obtain ⟨hc0, hc1, hc2⟩ := hcx wr hbw.out
          have Hn : Hid (Sg.names (ps.take (k + 1)) = Sg.names (ps.take k) ++ [ps[k].1]) := map_take_snoc _ ps k hlt
          have Ht : Hid (Sg.times (ps.take (k + 1)) = Sg.times (ps.take k) ++ [ps[k].2.1]) := map_take_snoc _ ps k hlt
          have Hv : Hid (Sg.vals (ps.take (k + 1)) = Sg.vals (ps.take k) ++ [ps[k].2.2]) := map_take_snoc _ ps k hlt
          have hl1 : (Sg.names (ps.take k)).length ≤ 64 := by simp [Sg.names]; omega
          have hl2 : (Sg.times (ps.take k)).length ≤ 64 := by simp [Sg.times]; omega
          have hl3 : (Sg.vals (ps.take k)).length ≤ 64 := by simp [Sg.vals]; omega
          clear hc hcx
          generalize Sg.names (ps.take k) = N at *
          generalize Sg.times (ps.take k) = T at *
          generalize Sg.vals (ps.take k) = V at *
          generalize ps[k].1 = nm at *
          generalize ps[k].2.1 = t at *
          generalize ps[k].2.2 = v at *
          go_wp2_with fail
          have H0 : Hid (Rows3 w1.heap.size u6 u7 u8 N T V (wr.alloc (.cells #[.string nm, .int .i64 t, .int .i64 v] 66))) := h3.out.alloc _
          have HB0 : Hid (Below w1.heap.size w1 (wr.alloc (.cells #[.string nm, .int .i64 t, .int .i64 v] 66))) := hbw.out.alloc hsw _
          have hP := pt3_of (Blk.new wr 66 #[.string nm, .int .i64 t, .int .i64 v])
          have hz0' : (wr.alloc (.cells #[.string nm, .int .i64 t, .int .i64 v] 66)).heap.size = wr.heap.size + 1 := World.size_alloc _ _
          have fN : ∀ g, wr.heap.size ≤ g → u6.ownBlock ≠ some g := fun g hg e => by have := (own_lt h3.out.n e).2; omega
          have fT : ∀ g, wr.heap.size ≤ g → u7.ownBlock ≠ some g := fun g hg e => by have := (own_lt h3.out.t e).2; omega
          have fV : ∀ g, wr.heap.size ≤ g → u8.ownBlock ≠ some g := fun g hg e => by have := (own_lt h3.out.v e).2; omega
          have lN := Lib.hid (fun j (hj : u6.ownBlock = some j) => (own_lt h3.out.n hj).1)
          have lT := Lib.hid (fun j (hj : u7.ownBlock = some j) => (own_lt h3.out.t hj).1)
          have lV := Lib.hid (fun j (hj : u8.ownBlock = some j) => (own_lt h3.out.v hj).1)
          generalize wr.alloc (.cells #[.string nm, .int .i64 t, .int .i64 v] 66) = w0 at *
          have QN := Lib.hid (fun g (h : w0.heap.size ≤ g) => fN g (by omega))
          have QT := Lib.hid (fun g (h : w0.heap.size ≤ g) => fT g (by omega))
          have QV := Lib.hid (fun g (h : w0.heap.size ≤ g) => fV g (by omega))
          have eN := Ne.symm (fN _ (Nat.le_refl _))
          have eT := Ne.symm (fT _ (Nat.le_refl _))
          have eV := Ne.symm (fV _ (Nat.le_refl _))
          have hsp : w1.heap.size ≤ w0.heap.size := by omega
          have hpl : wr.heap.size < w0.heap.size := by omega
          clear fN fT fV hz0' h3 hbw hc0 hc1 hc2
          generalize wr.heap.size = pb at *
          obtain ⟨hp0, hp1, hp2⟩ := hP
          go_region_held3 (fun w' => w'.cell? ⟨pb, 0, none⟩ = some (.string nm) ∧ w'.cell? ⟨pb, 1, none⟩ = some (.int .i64 t) ∧ w'.cell? ⟨pb, 2, none⟩ = some (.int .i64 v))
            (first
              | (go_keep; done)
              | (refine ⟨?_, ?_, ?_⟩ <;> (repeat (first | assumption | with_reducible refine (drew_cell _ _).trans ?_ | with_reducible refine sg_cell_keep _ ?_ | with_reducible refine (hg9.cell_far _ (by first | omega | (simp <;> omega)) eV).trans ?_ | with_reducible refine (hg8.cell_far _ (by first | omega | (simp <;> omega)) eT).trans ?_ | with_reducible refine (hg7.cell_far _ (by first | omega | (simp <;> omega)) eN).trans ?_))))
            (first
              | (refine' step_pushN (o := ⟨some 33, _, _, _, _, _⟩) (base := w1.heap.size) (vn := u6) (vt := u7) (vv := u8) (N := N) (T := T) (V := V) _ rfl (.tmp 29) (.tmp 32) ?_ ?_ ?_ _ ?_ nm ?_ hl1 ?_ ?_; rotate_left 4; (· rfl); (· (repeat (first | with_reducible exact cell_new_at _ _ (by first | rfl | simp) _ _ | with_reducible refine (drew_cell _ _).trans ?_ | with_reducible refine (World.cell?_alloc_lt _ _ _ (by first | omega | (simp <;> omega))).trans ?_ | with_reducible refine (k7.out _ (by first | omega | (simp <;> omega)) (by first | omega | (simp <;> omega))).trans ?_ | with_reducible refine (k8.out _ (by first | omega | (simp <;> omega)) (by first | omega | (simp <;> omega))).trans ?_))); (· (first | omega | (simp <;> omega))); rotate_left 1; (· rfl); (· (repeat (first | with_reducible exact H0.out | with_reducible refine Rows3.drew ?_ | with_reducible refine Rows3.alloc ?_ _))); (· rfl); intro g7 c7 w7 h7 hg7; have k7 := Lib.hid (fun (p : Addr) (h1 : w0.heap.size ≤ p.block) h2 => hg7.cell_far p h2 (fun e => QN.out p.block h1 e.symm)); have b7 : Hid (Below w1.heap.size w1 w7) := Below.grown (by repeat (first | with_reducible exact Hid.out HB0 | with_reducible refine Below.drew ?_ | with_reducible refine Below.alloc ?_ (by first | omega | (simp <;> omega)) _)) hg7 (by first | omega | (simp <;> omega)) lN.out; have s7 := hg7.size; (try simp only [World.size_alloc, drew_size] at s7))
              | (refine' step_pushT (o := ⟨some 38, _, _, _, _, _⟩) (base := w1.heap.size) (vn := .slice (some ⟨g7, 0, none⟩) (N.length + 1) c7) (vt := u7) (vv := u8) (N := N ++ [nm]) (T := T) (V := V) _ rfl (.tmp 34) (.tmp 37) ?_ ?_ ?_ _ ?_ t ?_ hl2 ?_ ?_; rotate_left 4; (· rfl); (· (repeat (first | with_reducible exact cell_new_at _ _ (by first | rfl | simp) _ _ | with_reducible refine (drew_cell _ _).trans ?_ | with_reducible refine (World.cell?_alloc_lt _ _ _ (by first | omega | (simp <;> omega))).trans ?_ | with_reducible refine (k7.out _ (by first | omega | (simp <;> omega)) (by first | omega | (simp <;> omega))).trans ?_ | with_reducible refine (k8.out _ (by first | omega | (simp <;> omega)) (by first | omega | (simp <;> omega))).trans ?_))); (· (first | omega | (simp <;> omega))); rotate_left 1; (· rfl); (· (repeat (first | with_reducible exact h7 | with_reducible refine Rows3.drew ?_ | with_reducible refine Rows3.alloc ?_ _))); (· rfl); intro g8 c8 w8 h8 hg8; have k8 := Lib.hid (fun (p : Addr) (h1 : w0.heap.size ≤ p.block) h2 => hg8.cell_far p h2 (fun e => QT.out p.block h1 e.symm)); have b8 : Hid (Below w1.heap.size w1 w8) := Below.grown (by repeat (first | with_reducible exact Hid.out b7 | with_reducible refine Below.drew ?_ | with_reducible refine Below.alloc ?_ (by first | omega | (simp <;> omega)) _)) hg8 (by first | omega | (simp <;> omega)) lT.out; have s8 := hg8.size; (try simp only [World.size_alloc] at s8))
              | (refine' step_pushV (o := ⟨some 43, _, _, _, _, _⟩) (base := w1.heap.size) (vn := .slice (some ⟨g7, 0, none⟩) (N.length + 1) c7) (vt := .slice (some ⟨g8, 0, none⟩) (T.length + 1) c8) (vv := u8) (N := N ++ [nm]) (T := T ++ [t]) (V := V) _ rfl (.tmp 39) (.tmp 42) ?_ ?_ ?_ _ ?_ v ?_ hl3 ?_ ?_; rotate_left 4; (· rfl); (· (repeat (first | with_reducible exact cell_new_at _ _ (by first | rfl | simp) _ _ | with_reducible refine (drew_cell _ _).trans ?_ | with_reducible refine (World.cell?_alloc_lt _ _ _ (by first | omega | (simp <;> omega))).trans ?_ | with_reducible refine (k7.out _ (by first | omega | (simp <;> omega)) (by first | omega | (simp <;> omega))).trans ?_ | with_reducible refine (k8.out _ (by first | omega | (simp <;> omega)) (by first | omega | (simp <;> omega))).trans ?_))); (· (first | omega | (simp <;> omega))); rotate_left 1; (· rfl); (· (repeat (first | with_reducible exact h8 | with_reducible refine Rows3.drew ?_ | with_reducible refine Rows3.alloc ?_ _))); (· rfl); intro g9 c9 w9 h9 hg9; have k9 := Lib.hid (fun (p : Addr) (h1 : w0.heap.size ≤ p.block) h2 => hg9.cell_far p h2 (fun e => QV.out p.block h1 e.symm)); have b9 : Hid (Below w1.heap.size w1 w9) := Below.grown (by repeat (first | with_reducible exact Hid.out b8 | with_reducible refine Below.drew ?_ | with_reducible refine Below.alloc ?_ (by first | omega | (simp <;> omega)) _)) hg9 (by first | omega | (simp <;> omega)) lV.out; have s9 := hg9.size; (try simp only [World.size_alloc] at s9)))
          all_goals (
            rw [← Hn.out, ← Ht.out, ← Hv.out] at h9
            have H9 := Lib.hid h9
            clear h7 h8 h9 hg7 hg8 hg9 k7 k8 k9 s7 s8 s9
            go_wp2_with fail
            go_roundw
            case rel => exact ⟨k + 1, by omega, by go_num, H9, b9⟩
            case measure => simp [intOf]; omega)
        · have htk : ps.take k = ps := List.take_of_length_le (by omega)
          rw [htk] at h3
          obtain ⟨An, cn, rfl, hnn, hrn⟩ := own_slice h3.out.n
          obtain ⟨At, ct, rfl, hnt, hrt⟩ := own_slice h3.out.t
          obtain ⟨Av, cv, rfl, hnv, hrv⟩ := own_slice h3.out.v
          have HT := fun W (hb : Below wr.heap.size wr W) => Lib.hid (texts_any An cn (Sg.names ps) W wr.heap.size (hrn.below hb) hb.size (by rw [Hln.out]; omega))
          have HI := fun W (hb : Below wr.heap.size wr W) => Lib.hid (ints_any At ct (Sg.times ps) W wr.heap.size (hrt.below hb) hb.size (by rw [Hlt.out]; omega) Htw.out)
          have HV := fun W (hb : Below wr.heap.size wr W) => Lib.hid (ints_any Av cv (Sg.vals ps) W wr.heap.size (hrv.below hb) hb.size (by rw [Hlv.out]; omega) Hvw.out)
          have HRb : Hid (res = (Sg.fileB (Sg.mark ++ Wr.putB r ++ Wr.putB (ps.length : Int) ++ Cl.textsB (Sg.names ps) ++ Cl.intsB (Sg.times ps) ++ Cl.intsB (Sg.vals ps)), 0)) := HR.out
          clear htk h3 hrn hrt hrv HR HM
          generalize Cl.textsB (Sg.names ps) = TB at *
          generalize Cl.intsB (Sg.times ps) = IB at *
          generalize Cl.intsB (Sg.vals ps) = VB at *
          generalize Wr.putB r = RB at *
          generalize Wr.putB (ps.length : Int) = NB at *
          generalize Sg.names ps = NN at *
          generalize Sg.times ps = TT at *
          generalize Sg.vals ps = VV at *
          go_wp2_with fail
          refine (HN1 _).out.mono ?_
          rintro e w2 ⟨rfl, hb2⟩
          have Hb2 := Lib.hid hb2
          clear hb2
          go_wp2_with fail
          refine (HN2 _).out.mono ?_
          rintro e w3 ⟨rfl, hb3⟩
          have Hb3 : Hid (Below wr.heap.size wr w3) := Hb2.out.trans (hb3.mono Hb2.out.size)
          clear hb3
          go_wp2_with fail
          refine (HT _ Hb3.out).out.mono ?_
          rintro e w4 ⟨rfl, hb4⟩
          have Hb4 : Hid (Below wr.heap.size wr w4) := Hb3.out.trans (hb4.mono Hb3.out.size)
          clear hb4
          go_wp2_with fail
          refine (HI _ Hb4.out).out.mono ?_
          rintro e w5 ⟨rfl, hb5⟩
          have Hb5 : Hid (Below wr.heap.size wr w5) := Hb4.out.trans (hb5.mono Hb4.out.size)
          clear hb5
          go_wp2_with fail
          refine (HV _ Hb5.out).out.mono ?_
          rintro e w6 ⟨rfl, hb6⟩
          have Hb6 : Hid (Below wr.heap.size wr w6) := Hb5.out.trans (hb6.mono Hb5.out.size)
          clear hb6
          go_wp2_with fail
          have HRc : Hid (res = (Sg.fileB (⟨#[83, 69, 71, 49]⟩ ++ RB ++ NB ++ TB ++ IB ++ VB), 0)) := HRb.out
          have hbs : ((⟨#[83, 69, 71, 49]⟩ : ByteArray) ++ RB ++ NB ++ TB ++ IB ++ VB).size ≤ 10000 := by
            simp only [ByteArray.size_append]
            have : (⟨#[83, 69, 71, 49]⟩ : ByteArray).size = 4 := rfl
            omega
          clear HRb
          generalize (⟨#[83, 69, 71, 49]⟩ : ByteArray) ++ RB ++ NB ++ TB ++ IB ++ VB = BD at *
          refine (hash_any BD _ (by unfold maxLen; omega)).mono ?_
          rintro e w' ⟨rfl, rfl⟩
          have hhl := Sm.hashL_lt BD.data.toList
          have hts := Sg.tailB_size (Sm.hashL BD.data.toList)
          have hts' : (Sg.tailB (Sm.hashL BD.data.toList)).size ≤ 8 := by omega
          have HR8 := fun W => Lib.hid (tail_any (Sm.hashL BD.data.toList) W hhl)
          have HRd2 : Hid (res = (BD ++ Sg.tailB (Sm.hashL BD.data.toList), 0)) := HRc.out
          clear hts HRc hhl
          generalize Sm.hashL BD.data.toList = hh at *
          go_wp2_with fail
          refine (HR8 _).out.mono ?_
          rintro e w7 ⟨rfl, hb7⟩
          have Hb7 : Hid (Below wr.heap.size wr w7) := Hb6.out.trans (hb7.mono Hb6.out.size)
          clear hb7
          generalize Sg.tailB hh = TL at *
          go_wp2_with fail
          go_ret2
          exact ⟨by rw [HRd2.out]; rfl, Hb1.out.trans ((hbw.out.mono hs1).trans (Hb7.out.mono (Nat.le_trans hs1 hsw)))⟩
end Go.Proofs.YtmnigoibbcigdaaGreat
