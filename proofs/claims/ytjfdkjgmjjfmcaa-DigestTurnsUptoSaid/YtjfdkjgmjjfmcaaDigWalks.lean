/- The walks through package digest and its reference. -/
import Derived.Test.YtjfdkjgmjjfmcaaSame
import Derived.Deep.QuietTactic
import Derived.BigQuiet
namespace Go.Proofs.Ytjfdkjgmjjfmcaa
open Go.RowKit
set_option linter.unusedVariables false

theorem info_u64 : (Try.prog.info? 22).map (fun i => (i.zero, i.size, i.bytes)) = some (some (.int .u64 0), 1, 8) := by kernel_rfl
theorem info_int : (Try.prog.info? 3).map (fun i => (i.zero, i.size, i.bytes)) = some (some (.int .i64 0), 1, 8) := by kernel_rfl

def hv (s : ByteArray) : Value := .int .u64 (Sm.hashL s.data.toList : Nat)

set_option maxRecDepth 100000 in
set_option maxHeartbeats 400000 in
theorem of_any (A : Option Addr) (c : Nat) (ss : List ByteArray) (w : World) (hr : Reads w w.heap.size 1 A ss.length (ss.map .string)) (hs : ∀ s ∈ ss, s.size ≤ maxLen) (hn : ss.length ≤ 8796093021952) :
    Calls Try.prog 34 #[.slice A ss.length c] w fun e w' => ∃ v, e = .returned v ∧ w'.ownsRow w.heap.size 22 1 v ss.length (ss.map hv) ∧ Below w.heap.size w w' := by
  obtain ⟨i0, hi, hz0, hz1, hz2⟩ := info_parts info_u64
  have Hs := Lib.hid hs
  clear hs
  go_enter Try.func34, Try.ntmps34
  go_wp2
  go_loopw [3, 8] (fun v i wr => ∃ k : Nat, k ≤ ss.length ∧ i = .int .i64 (k : Int) ∧ wr.ownsRow w.heap.size 22 1 v k ((ss.take k).map hv) ∧ Below w.heap.size w wr) (fun _ i _ => ss.length - (intOf i).toNat)
  case atStart => exact ⟨0, Nat.zero_le _, rfl, own_nil _ _ _ _, Below.refl _ _⟩
  case round =>
    obtain ⟨k, hk, rfl, hown, hb⟩ := hrel
    by_cases hlt : k < ss.length
    · obtain ⟨b, off, rfl, hbl, hc⟩ := (hr.below hb).2 (by omega)
      have hcell := hc k (.string ss[k]) (by simp [hlt])
      have hsk := Hs.out ss[k] (List.getElem_mem hlt)
      have Hsn := Lib.hid (map_take_snoc hv ss k hlt)
      clear hc hr
      go_wp2_with fail
      refine (hash_any _ _ hsk).mono ?_
      rintro e w' ⟨rfl, rfl⟩
      go_wp2_with (at_builtin; refine wpList_push _ rfl _ _ 37 rfl w.heap.size 22 i0 _ 1 8 Try.underlying37 hi hz0 hz1 hz2 rfl (by decide) _ k _ (by rfl) hown [hv ss[k]] (by rfl) rfl (by simp [hv, Value.oneCell']) (by unfold maxLen; omega) (by omega) w hb hb.size ?_; intro v1 w1 hown1 hb1)
      go_roundw
      case rel => exact ⟨k + 1, by omega, by go_num, by rw [Hsn.out]; exact hown1, hb1⟩
      case measure => simp [intOf]; omega
    · go_wp2_with fail
      go_ret
      obtain rfl : k = ss.length := by omega
      exact ⟨_, rfl, by simpa using hown, hb⟩

set_option maxRecDepth 100000 in
set_option maxHeartbeats 400000 in
theorem rof_any (A : Option Addr) (c : Nat) (ss : List ByteArray) (w : World) (hr : Reads w w.heap.size 1 A ss.length (ss.map .string)) (hs : ∀ s ∈ ss, s.size ≤ maxLen) (hn : ss.length ≤ 8796093021952) :
    Calls Try.prog 35 #[.slice A ss.length c] w fun e w' => ∃ v, e = .returned v ∧ w'.ownsRow w.heap.size 22 1 v ss.length (ss.map hv) ∧ Below w.heap.size w w' := by
  obtain ⟨i0, hi, hz0, hz1, hz2⟩ := info_parts info_u64
  have Hs := Lib.hid hs
  clear hs
  go_enter Try.func35, Try.ntmps35
  go_wp2
  go_loopw [3, 4] (fun v i wr => ∃ k : Nat, k ≤ ss.length ∧ i = .int .i64 (k : Int) ∧ wr.ownsRow w.heap.size 22 1 v k ((ss.take k).map hv) ∧ Below w.heap.size w wr) (fun _ i _ => ss.length - (intOf i).toNat)
  case atStart => exact ⟨0, Nat.zero_le _, rfl, own_nil _ _ _ _, Below.refl _ _⟩
  case round =>
    obtain ⟨k, hk, rfl, hown, hb⟩ := hrel
    by_cases hlt : k < ss.length
    · obtain ⟨b, off, rfl, hbl, hc⟩ := (hr.below hb).2 (by omega)
      have hcell := hc k (.string ss[k]) (by simp [hlt])
      have hsk := Hs.out ss[k] (List.getElem_mem hlt)
      have Hsn := Lib.hid (map_take_snoc hv ss k hlt)
      clear hc hr
      go_wp2_with fail
      refine (rhash_any _ _ hsk).mono ?_
      rintro e w' ⟨rfl, rfl⟩
      go_wp2_with (at_builtin; refine wpList_push _ rfl _ _ 37 rfl w.heap.size 22 i0 _ 1 8 Try.underlying37 hi hz0 hz1 hz2 rfl (by decide) _ k _ (by rfl) hown [hv ss[k]] (by rfl) rfl (by simp [hv, Value.oneCell']) (by unfold maxLen; omega) (by omega) w hb hb.size ?_; intro v1 w1 hown1 hb1)
      go_roundw
      case rel => exact ⟨k + 1, by omega, by go_num, by rw [Hsn.out]; exact hown1, hb1⟩
      case measure => simp [intOf]; omega
    · go_wp2_with fail
      go_ret
      obtain rfl : k = ss.length := by omega
      exact ⟨_, rfl, by simpa using hown, hb⟩

/-- where two lists differ, among the first k places, counted from 1 -/
def diffTo (xs ys : List Int) (k : Nat) : List Int := ((List.range k).filter (fun i => !(xs.getD i 0 == ys.getD i 0))).map (fun i : Nat => (i : Int) + 1)
theorem diffTo_same (xs ys : List Int) (k : Nat) (hx : k < xs.length) (hy : k < ys.length) (h : (xs[k] == ys[k]) = true) : diffTo xs ys (k + 1) = diffTo xs ys k := by
  unfold diffTo; rw [List.range_succ, List.filter_append]; simp [hx, hy]; simpa using h
theorem diffTo_other (xs ys : List Int) (k : Nat) (hx : k < xs.length) (hy : k < ys.length) (h : (xs[k] == ys[k]) = false) : diffTo xs ys (k + 1) = diffTo xs ys k ++ [(k : Int) + 1] := by
  unfold diffTo; rw [List.range_succ, List.filter_append]
  have : ¬ xs[k] = ys[k] := by simpa using h
  simp [hx, hy, this]
theorem diffTo_le (xs ys : List Int) (k : Nat) : (diffTo xs ys k).length ≤ k := by
  unfold diffTo; rw [List.length_map]
  have := List.length_filter_le (fun i => !(xs.getD i 0 == ys.getD i 0)) (List.range k)
  rwa [List.length_range] at this

set_option maxRecDepth 100000 in
set_option maxHeartbeats 400000 in
theorem differ_any (A B : Option Addr) (c d : Nat) (xs ys : List Int) (w : World) (hr : Reads w w.heap.size 1 A xs.length (xs.map (.int .u64))) (hq : Reads w w.heap.size 1 B ys.length (ys.map (.int .u64)))
    (hn : xs.length ≤ 17592186043904) (hm : ys.length ≤ 17592186043904) :
    Calls Try.prog 37 #[.slice A xs.length c, .slice B ys.length d] w fun e w' => ∃ v, e = .returned v ∧
      w'.ownsRow w.heap.size 3 1 v (diffTo xs ys (min xs.length ys.length)).length ((diffTo xs ys (min xs.length ys.length)).map (.int .i64)) ∧ Below w.heap.size w w' := by
  obtain ⟨i0, hi, hz0, hz1, hz2⟩ := info_parts info_int
  rcases Nat.lt_or_ge ys.length xs.length with hle | hle
  all_goals
    go_enter Try.func37, Try.ntmps37
    go_wp2
    go_step3
    go_wp2
    go_step3
    go_wp2
    go_loopw [5, 12] (fun v i wr => ∃ k : Nat, k ≤ xs.length ∧ k ≤ ys.length ∧ i = .int .i64 (k : Int) ∧ wr.ownsRow w.heap.size 3 1 v (diffTo xs ys k).length ((diffTo xs ys k).map (.int .i64)) ∧ Below w.heap.size w wr) (fun _ i _ => xs.length - (intOf i).toNat)
    case atStart => exact ⟨0, Nat.zero_le _, Nat.zero_le _, rfl, own_nil _ _ _ _, Below.refl _ _⟩
    case round =>
      obtain ⟨k, hk, hk', rfl, hown, hb⟩ := hrel
      have hdl := diffTo_le xs ys k
      by_cases hlt : k < xs.length ∧ k < ys.length
      · obtain ⟨hlt, hlt'⟩ := hlt
        obtain ⟨b, off, rfl, hbl, hc⟩ := (hr.below hb).2 (by omega)
        obtain ⟨b', off', rfl, hbl', hc'⟩ := (hq.below hb).2 (by omega)
        have hcell := hc k (.int .u64 xs[k]) (by simp [hlt])
        have hcell' := hc' k (.int .u64 ys[k]) (by simp [hlt'])
        clear hc hc' hr hq
        cases heq : (xs[k] == ys[k])
        · have He := Lib.hid (diffTo_other xs ys k hlt hlt' heq)
          go_wp2
          go_quiet (fail)
          go_wp2_with (at_builtin; refine wpList_push (wr.drewN nq) rfl _ _ 42 rfl w.heap.size 3 i0 _ 1 8 Try.underlying42 hi hz0 hz1 hz2 rfl (by decide) _ (diffTo xs ys k).length _ (by rfl) (own_drewN hown nq) [.int .i64 ((k : Int) + 1)] (by rfl) rfl (by simp [Value.oneCell']) (by unfold maxLen; omega) (by omega) w (below_drewN hb nq) hb.size ?_; intro v1 w1 hown1 hb1)
          go_roundw
          case rel => exact ⟨k + 1, by omega, by omega, by go_num, by rw [He.out]; simpa using hown1, hb1⟩
          case measure => simp [intOf]; omega
        · have He := Lib.hid (diffTo_same xs ys k hlt hlt' heq)
          go_wp2
          go_quiet (fail)
          go_wp2
          go_roundw
          case rel => exact ⟨k + 1, by omega, by omega, by go_num, by rw [He.out]; exact own_drewN hown nq, below_drewN hb nq⟩
          case measure => simp [intOf]; omega
      · obtain hkm : k = min xs.length ys.length := by omega
        clear hr hq
        have Hk := Lib.hid hkm
        clear hkm
        go_wp2
        rw [Exit.noGoto_ret]
        go_ret
        exact ⟨_, rfl, by rw [← Hk.out]; exact hown, hb⟩

set_option maxRecDepth 100000 in
set_option maxHeartbeats 400000 in
theorem rdiffer_any (A B : Option Addr) (c d : Nat) (xs ys : List Int) (w : World) (hr : Reads w w.heap.size 1 A xs.length (xs.map (.int .u64))) (hq : Reads w w.heap.size 1 B ys.length (ys.map (.int .u64)))
    (hn : xs.length ≤ 17592186043904) (hm : ys.length ≤ 17592186043904) :
    Calls Try.prog 38 #[.slice A xs.length c, .slice B ys.length d] w fun e w' => ∃ v, e = .returned v ∧
      w'.ownsRow w.heap.size 3 1 v (diffTo xs ys (min xs.length ys.length)).length ((diffTo xs ys (min xs.length ys.length)).map (.int .i64)) ∧ Below w.heap.size w w' := by
  obtain ⟨i0, hi, hz0, hz1, hz2⟩ := info_parts info_int
  go_enter Try.func38, Try.ntmps38
  go_wp2
  go_loopw [5, 6] (fun v i wr => ∃ k : Nat, k ≤ xs.length ∧ k ≤ ys.length ∧ i = .int .i64 (k : Int) ∧ wr.ownsRow w.heap.size 3 1 v (diffTo xs ys k).length ((diffTo xs ys k).map (.int .i64)) ∧ Below w.heap.size w wr) (fun _ i _ => xs.length - (intOf i).toNat)
  case atStart => exact ⟨0, Nat.zero_le _, Nat.zero_le _, rfl, own_nil _ _ _ _, Below.refl _ _⟩
  case round =>
    obtain ⟨k, hk, hk', rfl, hown, hb⟩ := hrel
    have hdl := diffTo_le xs ys k
    by_cases hlt : k < xs.length ∧ k < ys.length
    · obtain ⟨hlt, hlt'⟩ := hlt
      obtain ⟨b, off, rfl, hbl, hc⟩ := (hr.below hb).2 (by omega)
      obtain ⟨b', off', rfl, hbl', hc'⟩ := (hq.below hb).2 (by omega)
      have hcell := hc k (.int .u64 xs[k]) (by simp [hlt])
      have hcell' := hc' k (.int .u64 ys[k]) (by simp [hlt'])
      clear hc hc' hr hq
      cases heq : (xs[k] == ys[k])
      · have He := Lib.hid (diffTo_other xs ys k hlt hlt' heq)
        have hne : (xs[k] != ys[k]) = true := by simp only [bne, heq]; rfl
        go_wp2
        go_quiet (fail)
        go_wp2_with (at_builtin; refine wpList_push (wr.drewN nq) rfl _ _ 42 rfl w.heap.size 3 i0 _ 1 8 Try.underlying42 hi hz0 hz1 hz2 rfl (by decide) _ (diffTo xs ys k).length _ (by rfl) (own_drewN hown nq) [.int .i64 ((k : Int) + 1)] (by rfl) rfl (by simp [Value.oneCell']) (by unfold maxLen; omega) (by omega) w (below_drewN hb nq) hb.size ?_; intro v1 w1 hown1 hb1)
        go_roundw
        case rel => exact ⟨k + 1, by omega, by omega, by go_num, by rw [He.out]; simpa using hown1, hb1⟩
        case measure => simp [intOf]; omega
      · have He := Lib.hid (diffTo_same xs ys k hlt hlt' heq)
        have hne : (xs[k] != ys[k]) = false := by simp only [bne, heq]; rfl
        go_wp2
        go_quiet (fail)
        go_wp2
        go_roundw
        case rel => exact ⟨k + 1, by omega, by omega, by go_num, by rw [He.out]; exact own_drewN hown nq, below_drewN hb nq⟩
        case measure => simp [intOf]; omega
    · obtain hkm : k = min xs.length ys.length := by omega
      have Hk := Lib.hid hkm
      clear hkm hr hq
      rcases Nat.lt_or_ge k xs.length with h1 | h1
      · have h2 : ys.length ≤ k := by omega
        go_wp2
        go_ret
        exact ⟨_, rfl, by rw [← Hk.out]; exact hown, hb⟩
      · go_wp2
        go_ret
        exact ⟨_, rfl, by rw [← Hk.out]; exact hown, hb⟩

theorem good_any (s : ByteArray) (x : Int) (w : World) (hs : s.size ≤ maxLen) :
    Calls Try.prog 40 #[.string s, .int .u64 x] w fun e w' => e = .returned (.bool (((Sm.hashL s.data.toList : Nat) : Int) == x)) ∧ w = w' := by
  go_enter Try.func40, Try.ntmps40
  go_wp2_with fail
  refine (hash_any _ _ hs).mono ?_
  rintro e w' ⟨rfl, rfl⟩
  go_wp2_with fail
  go_ret
  exact ⟨rfl, rfl⟩

/-- is a file of a range that has a digest, and is its text's hash another? -/
def rotten (want : List Int) (f : Int × ByteArray) : Bool := decide (1 ≤ f.1) && (decide (f.1 ≤ want.length) && !(((Sm.hashL f.2.data.toList : Nat) : Int) == want.getD (f.1 - 1).toNat 0))
def rotL (fs : List (Int × ByteArray)) (want : List Int) : List Int := (fs.filter (rotten want)).map (·.1)
theorem rotten_yes (want : List Int) (n : Nat) (t : ByteArray) (h1 : 1 ≤ n) (h2 : n - 1 < want.length) (h : (((Sm.hashL t.data.toList : Nat) : Int) == want[n - 1]) = false) : rotten want ((n : Int), t) = true := by
  unfold rotten
  rw [show ((n : Int) - 1).toNat = n - 1 from by omega, List.getD_eq_getElem?_getD, List.getElem?_eq_getElem h2, Option.getD_some, h]
  simp; omega
theorem rotten_same (want : List Int) (n : Nat) (t : ByteArray) (h1 : 1 ≤ n) (h2 : n - 1 < want.length) (h : (((Sm.hashL t.data.toList : Nat) : Int) == want[n - 1]) = true) : rotten want ((n : Int), t) = false := by
  unfold rotten
  rw [show ((n : Int) - 1).toNat = n - 1 from by omega, List.getD_eq_getElem?_getD, List.getElem?_eq_getElem h2, Option.getD_some, h]
  simp
theorem rotL_yes (fs : List (Int × ByteArray)) (want : List Int) (k : Nat) (hk : k < fs.length) (h : rotten want fs[k] = true) : rotL (fs.take (k + 1)) want = rotL (fs.take k) want ++ [fs[k].1] := by
  unfold rotL; rw [List.take_succ_eq_append_getElem hk, List.filter_append]; simp [h]
theorem rotL_no (fs : List (Int × ByteArray)) (want : List Int) (k : Nat) (hk : k < fs.length) (h : rotten want fs[k] = false) : rotL (fs.take (k + 1)) want = rotL (fs.take k) want := by
  unfold rotL; rw [List.take_succ_eq_append_getElem hk, List.filter_append]; simp [h]
theorem rotL_le (fs : List (Int × ByteArray)) (want : List Int) (k : Nat) (hk : k ≤ fs.length) : (rotL (fs.take k) want).length ≤ k := by
  unfold rotL; rw [List.length_map]
  have := List.length_filter_le (rotten want) (fs.take k)
  rw [List.length_take] at this; omega

set_option maxRecDepth 100000 in
set_option maxHeartbeats 400000 in
theorem rot_any (A B : Option Addr) (c d : Nat) (fs : List (Int × ByteArray)) (ys : List Int) (w : World) (hr : Reads w w.heap.size 2 A fs.length (fs.flatMap fileCells)) (hq : Reads w w.heap.size 1 B ys.length (ys.map (.int .u64)))
    (hs : ∀ f ∈ fs, f.2.size ≤ maxLen) (hn : fs.length ≤ 5864062014805) (hm : ys.length ≤ 17592186043904) :
    Calls Try.prog 43 #[.slice A fs.length c, .slice B ys.length d] w fun e w' => ∃ v, e = .returned v ∧
      w'.ownsRow w.heap.size 3 1 v (rotL fs ys).length ((rotL fs ys).map (.int .i64)) ∧ Below w.heap.size w w' := by
  obtain ⟨i0, hi, hz0, hz1, hz2⟩ := info_parts info_int
  have Hs := Lib.hid hs
  clear hs
  go_enter Try.func43, Try.ntmps43
  go_wp2
  go_loopw [5, 10] (fun v i wr => ∃ k : Nat, k ≤ fs.length ∧ i = .int .i64 (k : Int) ∧ wr.ownsRow w.heap.size 3 1 v (rotL (fs.take k) ys).length ((rotL (fs.take k) ys).map (.int .i64)) ∧ Below w.heap.size w wr) (fun _ i _ => fs.length - (intOf i).toNat)
  case atStart => exact ⟨0, Nat.zero_le _, rfl, own_nil _ _ _ _, Below.refl _ _⟩
  case round =>
    obtain ⟨k, hk, rfl, hown, hb⟩ := hrel
    have hdl := rotL_le fs ys k hk
    by_cases hlt : k < fs.length
    · obtain ⟨b, off, rfl, hbl, hc⟩ := (hr.below hb).2 (by omega)
      have hcell0 : wr.cell? ⟨b, off + k * 2, none⟩ = some (.int .i64 fs[k].1) := by have := hc (k * 2 + 0) (.int .i64 fs[k].1) (by rw [flat_at fileCells 2 (fun _ => rfl) fs k 0 hlt (by omega)]; rfl); rwa [← Nat.add_assoc] at this
      have hcell1 : wr.cell? ⟨b, off + k * 2 + 1, none⟩ = some (.string fs[k].2) := by have := hc (k * 2 + 1) (.string fs[k].2) (by rw [flat_at fileCells 2 (fun _ => rfl) fs k 1 hlt (by omega)]; rfl); rwa [← Nat.add_assoc] at this
      have hsz := Hs.out fs[k] (List.getElem_mem hlt)
      have Hyes := Lib.hid (rotL_yes fs ys k hlt)
      have Hno := Lib.hid (rotL_no fs ys k hlt)
      have hq1 := hq.below hb
      clear hc hr hq
      generalize fs[k] = f at *
      obtain ⟨r, t⟩ := f
      by_cases h1 : 1 ≤ r
      · by_cases h2 : r ≤ ys.length
        · obtain ⟨n, rfl⟩ : ∃ n : Nat, r = n := ⟨r.toNat, by omega⟩
          have hn1 : n - 1 < ys.length := by omega
          obtain ⟨b', off', rfl, hbl', hc'⟩ := hq1.2 (by omega)
          have hcell' := hc' (n - 1) (.int .u64 ys[n - 1]) (by simp [hn1])
          clear hc' hq1
          have hbl2 : b' < wr.heap.size := by have := hb.size; omega
          have hbl3 : b < wr.heap.size := by have := hb.size; omega
          have hcell2 : (wr.alloc (.cells #[.int .i64 (n : Int), .string t] 52)).cell? ⟨b', off' + (n - 1), none⟩ = some (.int .u64 ys[n - 1]) := (World.cell?_alloc_past _ _ _ hbl2).trans hcell'
          have e1 : IntKind.i64.wrap ((n : Int) - 1) = (n : Int) - 1 := IntWalk.i64_in _ (by omega)
          have e2 : 0 ≤ (n : Int) - 1 := by omega
          have e3 : ((n : Int) - 1).toNat = n - 1 := by omega
          have e4 : (n : Int) - 1 < (ys.length : Int) := by omega
          cases heq : (((Sm.hashL t.data.toList : Nat) : Int) == ys[n - 1])
          · have hyes := Lib.hid (Hyes.out (rotten_yes ys n t (by omega) (by omega) heq))
            clear Hyes Hno
            go_wp2
            go_quiet ((go_at_call 40; exact quiet_left (good_any _ _ _ hsz)))
            clear e1 e2 e3 e4
            go_wp2_with (at_builtin; refine wpList_push ((wr.alloc (.cells #[.int .i64 (n : Int), .string t] 52)).drewN nq) rfl _ _ 42 rfl w.heap.size 3 i0 _ 1 8 Try.underlying42 hi hz0 hz1 hz2 rfl (by decide) _ (rotL (fs.take k) ys).length _ (by rfl) (own_drewN (hown.alloc _) nq) [.int .i64 (n : Int)] (by show Value.slice (some ⟨wr.heap.size + 1, 0, none⟩) 1 1 = _; simp) rfl (by simp [Value.oneCell']) (by unfold maxLen; omega) (by omega) w (below_drewN (hb.alloc hb.size _) nq) (by have := hb.size; simp; omega) ?_; intro v1 w1 hown1 hb1)
            go_roundw
            case rel => exact ⟨k + 1, by omega, by go_num, by rw [hyes.out]; simpa using hown1, hb1⟩
            case measure => simp [intOf]; omega
          · have hno := Lib.hid (Hno.out (rotten_same ys n t (by omega) (by omega) heq))
            clear Hyes Hno
            go_wp2
            go_quiet ((go_at_call 40; exact quiet_left (good_any _ _ _ hsz)))
            clear e1 e2 e3 e4
            go_wp2
            go_roundw
            case rel => exact ⟨k + 1, by omega, by go_num, by rw [hno.out]; exact own_drewN (hown.alloc _) nq, below_drewN (hb.alloc hb.size _) nq⟩
            case measure => simp [intOf]; omega
        · have hno := Lib.hid (Hno.out (by unfold rotten; rw [show decide (r ≤ (ys.length : Int)) = false from by simpa using h2]; simp))
          have h2' : decide (r ≤ (ys.length : Int)) = false := by simpa using h2
          clear Hyes Hno hq1
          go_wp2
          go_quiet (fail)
          go_wp2
          go_roundw
          case rel => exact ⟨k + 1, by omega, by go_num, by rw [hno.out]; exact own_drewN (hown.alloc _) nq, below_drewN (hb.alloc hb.size _) nq⟩
          case measure => simp [intOf]; omega
      · have h1' : decide (1 ≤ r) = false := by simpa using h1
        have hno := Lib.hid (Hno.out (by unfold rotten; rw [h1']; rfl))
        clear Hyes Hno hq1
        go_wp2
        go_quiet (fail)
        go_wp2
        go_roundw
        case rel => exact ⟨k + 1, by omega, by go_num, by rw [hno.out]; exact own_drewN (hown.alloc _) nq, below_drewN (hb.alloc hb.size _) nq⟩
        case measure => simp [intOf]; omega
    · clear hr hq
      obtain rfl : k = fs.length := by omega
      rw [List.take_length] at hown
      go_wp2
      go_ret
      exact ⟨_, rfl, hown, hb⟩

set_option maxRecDepth 100000 in
set_option maxHeartbeats 400000 in
theorem rrot_any (A B : Option Addr) (c d : Nat) (fs : List (Int × ByteArray)) (ys : List Int) (w : World) (hr : Reads w w.heap.size 2 A fs.length (fs.flatMap fileCells)) (hq : Reads w w.heap.size 1 B ys.length (ys.map (.int .u64)))
    (hs : ∀ f ∈ fs, f.2.size ≤ maxLen) (hn : fs.length ≤ 5864062014805) (hm : ys.length ≤ 17592186043904) :
    Calls Try.prog 44 #[.slice A fs.length c, .slice B ys.length d] w fun e w' => ∃ v, e = .returned v ∧
      w'.ownsRow w.heap.size 3 1 v (rotL fs ys).length ((rotL fs ys).map (.int .i64)) ∧ Below w.heap.size w w' := by
  obtain ⟨i0, hi, hz0, hz1, hz2⟩ := info_parts info_int
  have Hs := Lib.hid hs
  clear hs
  go_enter Try.func44, Try.ntmps44
  go_wp2
  go_loopw [5, 6] (fun v i wr => ∃ k : Nat, k ≤ fs.length ∧ i = .int .i64 (k : Int) ∧ wr.ownsRow w.heap.size 3 1 v (rotL (fs.take k) ys).length ((rotL (fs.take k) ys).map (.int .i64)) ∧ Below w.heap.size w wr) (fun _ i _ => fs.length - (intOf i).toNat)
  case atStart => exact ⟨0, Nat.zero_le _, rfl, own_nil _ _ _ _, Below.refl _ _⟩
  case round =>
    obtain ⟨k, hk, rfl, hown, hb⟩ := hrel
    have hdl := rotL_le fs ys k hk
    by_cases hlt : k < fs.length
    · obtain ⟨b, off, rfl, hbl, hc⟩ := (hr.below hb).2 (by omega)
      have hcell0 : wr.cell? ⟨b, off + k * 2, none⟩ = some (.int .i64 fs[k].1) := by have := hc (k * 2 + 0) (.int .i64 fs[k].1) (by rw [flat_at fileCells 2 (fun _ => rfl) fs k 0 hlt (by omega)]; rfl); rwa [← Nat.add_assoc] at this
      have hcell1 : wr.cell? ⟨b, off + k * 2 + 1, none⟩ = some (.string fs[k].2) := by have := hc (k * 2 + 1) (.string fs[k].2) (by rw [flat_at fileCells 2 (fun _ => rfl) fs k 1 hlt (by omega)]; rfl); rwa [← Nat.add_assoc] at this
      have hsz := Hs.out fs[k] (List.getElem_mem hlt)
      have Hyes := Lib.hid (rotL_yes fs ys k hlt)
      have Hno := Lib.hid (rotL_no fs ys k hlt)
      have hq1 := hq.below hb
      clear hc hr hq
      generalize fs[k] = f at *
      obtain ⟨r, t⟩ := f
      by_cases h1 : 1 ≤ r
      · by_cases h2 : r ≤ ys.length
        · obtain ⟨n, rfl⟩ : ∃ n : Nat, r = n := ⟨r.toNat, by omega⟩
          have hn1 : n - 1 < ys.length := by omega
          obtain ⟨b', off', rfl, hbl', hc'⟩ := hq1.2 (by omega)
          have hcell' := hc' (n - 1) (.int .u64 ys[n - 1]) (by simp [hn1])
          clear hc' hq1
          have e1 : IntKind.i64.wrap ((n : Int) - 1) = (n : Int) - 1 := IntWalk.i64_in _ (by omega)
          have e2 : 0 ≤ (n : Int) - 1 := by omega
          have e3 : ((n : Int) - 1).toNat = n - 1 := by omega
          have e4 : (n : Int) - 1 < (ys.length : Int) := by omega
          cases heq : (((Sm.hashL t.data.toList : Nat) : Int) == ys[n - 1])
          · have hyes := Lib.hid (Hyes.out (rotten_yes ys n t (by omega) (by omega) heq))
            have hne : (((Sm.hashL t.data.toList : Nat) : Int) != ys[n - 1]) = true := by simp only [bne, heq]; rfl
            clear Hyes Hno
            go_wp2
            go_quiet ((go_at_call 25; exact quiet_left (rhash_any _ _ hsz)))
            clear e1 e2 e3 e4
            go_wp2_with (at_builtin; refine wpList_push (wr.drewN nq) rfl _ _ 42 rfl w.heap.size 3 i0 _ 1 8 Try.underlying42 hi hz0 hz1 hz2 rfl (by decide) _ (rotL (fs.take k) ys).length _ (by rfl) (own_drewN hown nq) [.int .i64 (n : Int)] (by rfl) rfl (by simp [Value.oneCell']) (by unfold maxLen; omega) (by omega) w (below_drewN hb nq) hb.size ?_; intro v1 w1 hown1 hb1)
            go_roundw
            case rel => exact ⟨k + 1, by omega, by go_num, by rw [hyes.out]; simpa using hown1, hb1⟩
            case measure => simp [intOf]; omega
          · have hno := Lib.hid (Hno.out (rotten_same ys n t (by omega) (by omega) heq))
            have hne : (((Sm.hashL t.data.toList : Nat) : Int) != ys[n - 1]) = false := by simp only [bne, heq]; rfl
            clear Hyes Hno
            go_wp2
            go_quiet ((go_at_call 25; exact quiet_left (rhash_any _ _ hsz)))
            clear e1 e2 e3 e4
            go_wp2
            go_roundw
            case rel => exact ⟨k + 1, by omega, by go_num, by rw [hno.out]; exact own_drewN hown nq, below_drewN hb nq⟩
            case measure => simp [intOf]; omega
        · have hno := Lib.hid (Hno.out (by unfold rotten; rw [show decide (r ≤ (ys.length : Int)) = false from by simpa using h2]; simp))
          have h2' : decide (r ≤ (ys.length : Int)) = false := by simpa using h2
          clear Hyes Hno hq1
          go_wp2
          go_quiet (fail)
          go_wp2
          go_roundw
          case rel => exact ⟨k + 1, by omega, by go_num, by rw [hno.out]; exact own_drewN hown nq, below_drewN hb nq⟩
          case measure => simp [intOf]; omega
      · have h1' : decide (1 ≤ r) = false := by simpa using h1
        have hno := Lib.hid (Hno.out (by unfold rotten; rw [h1']; rfl))
        clear Hyes Hno hq1
        go_wp2
        go_quiet (fail)
        go_wp2
        go_roundw
        case rel => exact ⟨k + 1, by omega, by go_num, by rw [hno.out]; exact own_drewN hown nq, below_drewN hb nq⟩
        case measure => simp [intOf]; omega
    · clear hr hq
      obtain rfl : k = fs.length := by omega
      rw [List.take_length] at hown
      go_wp2
      go_ret
      exact ⟨_, rfl, hown, hb⟩
end Go.Proofs.Ytjfdkjgmjjfmcaa
