/- The walks through Ints and GetInts of column and of its reference. -/
import Derived.Test.YthdbmgjlegpbaaaClBack
import Derived.Test.YthdbmgjlegpbaaaBuild
import Derived.Test.YthdbmgjlegpbaaaReader
import Derived.Test.YthdbmgjlegpbaaaPtMay
import Derived.Test.YthdbmgjlegpbaaaPtCells
import Derived.Test.YthdbmgjlegpbaaaErr
namespace Go.Proofs.Ythdbmgjlegpbaaa
open Go.RowKit
set_option linter.unusedVariables false

theorem info_int : (Try.prog.info? 3).map (fun i => (i.zero, i.size, i.bytes)) = some (some (.int .i64 0), 1, 8) := by kernel_rfl
theorem map_cell {α : Type} {w wr : World} {B b off k : Nat} {xs : List α} {V : α → Value} (hlt : k < xs.length) (hc : ∀ j u, (xs.map V)[j]? = some u → w.cell? ⟨b, off + j, none⟩ = some u) (hk : ∀ p : Addr, p.block < B → wr.cell? p = w.cell? p) (hb : b < B) : wr.cell? ⟨b, off + k, none⟩ = some (V xs[k]) := by
  rw [hk ⟨b, _, none⟩ hb]; exact hc k _ (by simp [hlt])
theorem intsB_no {xs : List Int} {k : Nat} (hk : k < xs.length) (h : Pt.smallB xs[k] = false) : Cl.intsB xs = ⟨#[]⟩ := by
  unfold Cl.intsB
  rw [if_neg]
  rw [List.all_eq_true]
  intro e
  have := e xs[k] (List.getElem_mem _)
  rw [h] at this; cases this
theorem all_step {xs : List Int} {k : Nat} (hk : k < xs.length) (ha : (xs.take k).all Pt.smallB = true) (h : Pt.smallB xs[k] = true) : (xs.take (k + 1)).all Pt.smallB = true := by
  rw [List.take_succ_eq_append_getElem hk, List.all_append, ha]; simp [h]
theorem intsD_step {xs : List Int} {k : Nat} {l : List UInt8} {last : Int} (hk : k < xs.length) (h : Cl.intsD 0 xs = l ++ Cl.intsD last (xs.drop k)) : Cl.intsD 0 xs = (l ++ Wr.putL (xs[k] - last)) ++ Cl.intsD xs[k] (xs.drop (k + 1)) := by
  rw [h, List.drop_eq_getElem_cons hk, Cl.intsD]; simp
theorem intsB_done {xs : List Int} {k : Nat} {l : List UInt8} {last : Int} (hk : ¬ k < xs.length) (ha : (xs.take k).all Pt.smallB = true) (h : Cl.intsD 0 xs = l ++ Cl.intsD last (xs.drop k)) : Cl.intsB xs = ⟨l.toArray⟩ := by
  rw [List.take_of_length_le (by omega)] at ha
  unfold Cl.intsB
  rw [if_pos ha, h, List.drop_eq_nil_of_le (by omega), Cl.intsD]; simp

set_option maxRecDepth 100000 in
set_option maxHeartbeats 1000000 in
theorem ints_any (A : Option Addr) (c : Nat) (xs : List Int) (w : World) (B : Nat) (hr : Reads w B 1 A xs.length (xs.map (Value.int .i64))) (hB : B ≤ w.heap.size) (hn : xs.length * 8 ≤ 140737488355328) (hwf : ∀ x ∈ xs, -9223372036854775808 ≤ x ∧ x ≤ 9223372036854775807) :
    Calls Try.prog 14 #[.slice A xs.length c] w fun e w' => e = .returned (.string (Cl.intsB xs)) ∧ Below w.heap.size w w' := by
  have HRd := Lib.hid hr
  have HW := Lib.hid hwf
  have HD0 : ∀ k (hk : k < xs.length), Pt.smallB xs[k] = false → Cl.intsB xs = ⟨#[]⟩ := fun k hk h => intsB_no hk h
  have HE0 : ∀ (k : Nat) (l : List UInt8) (last : Int), ¬ k < xs.length → (xs.take k).all Pt.smallB = true → Cl.intsD 0 xs = l ++ Cl.intsD last (xs.drop k) → Cl.intsB xs = ⟨l.toArray⟩ := fun k l last h1 h2 h3 => intsB_done h1 h2 h3
  have HD := Lib.hid HD0
  have HE := Lib.hid HE0
  clear hr hwf HD0 HE0
  generalize Cl.intsB xs = res at *
  go_enter Try.func14, Try.ntmps14
  go_wp2_with fail
  have hbn := bld_new w
  have hba : Below w.heap.size w (w.alloc (.cells #[.pointer none, .slice none 0 0] 72)) := (Below.refl _ _).alloc (Nat.le_refl _) _
  have Hbn := Lib.hid hbn
  have Hba := Lib.hid hba
  clear hbn hba
  generalize w.alloc (.cells #[.pointer none, .slice none 0 0] 72) = w2 at *
  generalize hbe : w.heap.size = b at *
  have Hbe := Lib.hid hbe
  clear hbe
  go_loopw [4, 6, 9] (fun v _ i wr => ∃ (k : Nat) (l : List UInt8) (last : Int), k ≤ xs.length ∧ i = .int .i64 (k : Int) ∧ v = .int .i64 last ∧ (-2147483648 ≤ last ∧ last ≤ 2147483647) ∧ Hid ((xs.take k).all Pt.smallB = true) ∧ Hid (Cl.intsD 0 xs = l ++ Cl.intsD last (xs.drop k)) ∧ l.length ≤ 5 * k ∧ Hid (Bld b b (Lib.byteCells l) wr) ∧ Hid (Below b w wr)) (fun _ _ i _ => xs.length - (intOf i).toNat)
  case atStart => exact ⟨0, [], 0, Nat.zero_le _, rfl, rfl, by omega, Lib.hid (by simp), Lib.hid (by simp), by simp, Hbn, Hba⟩
  case round =>
    obtain ⟨k, l, last, hk, rfl, rfl, hlast, hall, hl, hll, hBl, hbl⟩ := hrel
    by_cases hlt : k < xs.length
    · obtain ⟨bb, off, rfl, hbb, hc⟩ := HRd.out.2 (by omega)
      have hcell := map_cell (wr := wr) hlt hc (fun p hp => hbl.out.cell (p := p) (by omega)) hbb
      have hx := HW.out xs[k] (List.getElem_mem _)
      have HS := fun W => Lib.hid (small_any xs[k] W hx)
      clear hc
      cases hs : Pt.smallB xs[k]
      · have HR := Lib.hid (HD.out k hlt hs)
        rw [hs] at HS
        clear hs HD HE
        go_wp2_with fail
        refine (HS _).out.mono ?_
        rintro e w' ⟨rfl, rfl⟩
        go_wp2_with fail
        go_ret
        exact ⟨ret_str HR.out.symm, by rw [Hbe.out]; exact hbl.out⟩
      · have hsm := (Pt.smallB_iff _).1 hs
        have HA := Lib.hid (all_step hlt hall.out hs)
        have HI := Lib.hid (intsD_step hlt hl.out)
        have h5 := Cl.putL_five (xs[k] - last) (by omega) (by omega)
        have hps := Wr.putB_size (xs[k] - last)
        have hp5 : (Wr.putB (xs[k] - last)).size ≤ 5 := by omega
        have Hpl := Lib.hid (Wr.putB_list (xs[k] - last))
        rw [hs] at HS
        have HP := fun W => Lib.hid (putNum_any (xs[k] - last) W (by omega))
        have hltb := (bld_lt hBl.out).2
        clear hs hall hl hps
        generalize xs[k] = x at *
        go_wp2_with fail
        refine (HS _).out.mono ?_
        rintro e w' ⟨rfl, rfl⟩
        go_wp2_with fail
        refine (HP _).out.mono ?_
        rintro e w3 ⟨rfl, hb3⟩
        have Hb3 := Lib.hid hb3
        have hs3 := hb3.size
        clear hb3
        generalize Wr.putB (x - last) = PB at *
        go_wp2_with fail
        refine (write_any b b l PB w3 (bld_below hBl.out Hb3.out) (by omega) (by omega)).mono ?_
        rintro e w4 ⟨rfl, hB4, hb4, _⟩
        rw [Hpl.out] at hB4
        have HB4 := Lib.hid hB4
        have Hb4 : Hid (Below b w w4) := hbl.out.trans ((Hb3.out.mono (by omega)).trans hb4)
        have hl2 : (l ++ Wr.putL (x - last)).length ≤ 5 * (k + 1) := by rw [List.length_append]; omega
        clear hB4 hb4
        generalize l ++ Wr.putL (x - last) = l2 at *
        go_wp2_with fail
        go_roundw
        case rel => exact ⟨k + 1, l2, x, by omega, by go_num, rfl, hsm, HA, HI, hl2, HB4, Hb4⟩
        case measure => simp [intOf]; omega
    · have HR := Lib.hid (HE.out k l last hlt hall.out hl.out)
      have hltb := (bld_lt hBl.out).2
      clear HD HE hall hl
      go_wp2_with fail
      refine (bstring_any b b l wr hBl.out (by omega)).mono ?_
      rintro e w9 ⟨rfl, _, hb9, _⟩
      go_wp2_with fail
      go_ret
      exact ⟨ret_str HR.out.symm, by rw [Hbe.out]; exact hbl.out.trans hb9⟩

set_option maxRecDepth 100000 in
set_option maxHeartbeats 1000000 in
theorem rints_any (A : Option Addr) (c : Nat) (xs : List Int) (w : World) (B : Nat) (hr : Reads w B 1 A xs.length (xs.map (Value.int .i64))) (hB : B ≤ w.heap.size) (hn : xs.length * 8 ≤ 140737488355328) (hwf : ∀ x ∈ xs, -9223372036854775808 ≤ x ∧ x ≤ 9223372036854775807) :
    Calls Try.prog 65 #[.slice A xs.length c] w fun e w' => e = .returned (.string (Cl.intsB xs)) ∧ Below w.heap.size w w' := by
  have HRd := Lib.hid hr
  have HW := Lib.hid hwf
  have HD0 : ∀ k (hk : k < xs.length), Pt.smallB xs[k] = false → Cl.intsB xs = ⟨#[]⟩ := fun k hk h => intsB_no hk h
  have HE0 : ∀ (k : Nat) (l : List UInt8) (last : Int), ¬ k < xs.length → (xs.take k).all Pt.smallB = true → Cl.intsD 0 xs = l ++ Cl.intsD last (xs.drop k) → Cl.intsB xs = ⟨l.toArray⟩ := fun k l last h1 h2 h3 => intsB_done h1 h2 h3
  have HD := Lib.hid HD0
  have HE := Lib.hid HE0
  clear hr hwf HD0 HE0
  generalize Cl.intsB xs = res at *
  go_enter Try.func65, Try.ntmps65
  go_wp2_with fail
  go_loopw [3, 4, 5] (fun s v i wr => ∃ (k : Nat) (S : ByteArray) (last : Int), k ≤ xs.length ∧ i = .int .i64 (k : Int) ∧ s = .string S ∧ v = .int .i64 last ∧ (-2147483648 ≤ last ∧ last ≤ 2147483647) ∧ Hid ((xs.take k).all Pt.smallB = true) ∧ Hid (Cl.intsD 0 xs = S.data.toList ++ Cl.intsD last (xs.drop k)) ∧ S.size ≤ 5 * k ∧ Hid (Below w.heap.size w wr)) (fun _ _ i _ => xs.length - (intOf i).toNat)
  case atStart => exact ⟨0, ⟨#[]⟩, 0, Nat.zero_le _, rfl, rfl, rfl, by omega, Lib.hid (by simp), Lib.hid (by simp), by decide, Lib.hid (Below.refl _ _)⟩
  case round =>
    obtain ⟨k, S, last, hk, rfl, rfl, rfl, hlast, hall, hl, hll, hbl⟩ := hrel
    by_cases hlt : k < xs.length
    · obtain ⟨bb, off, rfl, hbb, hc⟩ := HRd.out.2 (by omega)
      have hcell := map_cell (wr := wr) hlt hc (fun p hp => hbl.out.cell (p := p) (by omega)) hbb
      have hx := HW.out xs[k] (List.getElem_mem _)
      have HS := fun W => Lib.hid (rsmall_any xs[k] W)
      cases hs : Pt.smallB xs[k]
      · have HR := Lib.hid (HD.out k hlt hs)
        rw [hs] at HS
        clear hs HD HE hc
        go_wp2_with fail
        refine (HS _).out.mono ?_
        rintro e w' ⟨rfl, rfl⟩
        go_wp2_with fail
        go_ret
        exact ⟨ret_str HR.out.symm, hbl.out⟩
      · have hsm := (Pt.smallB_iff _).1 hs
        have HA := Lib.hid (all_step hlt hall.out hs)
        have HI := Lib.hid (intsD_step hlt hl.out)
        have h5 := Cl.putL_five (xs[k] - last) (by omega) (by omega)
        have hps := Wr.putB_size (xs[k] - last)
        have hp5 : (Wr.putB (xs[k] - last)).size ≤ 5 := by omega
        have Hpl := Lib.hid (Wr.putB_list (xs[k] - last))
        have hcw := fun (W : World) (hb : Below wr.heap.size wr W) => map_cell (wr := W) hlt hc (fun p hp => (hb.cell (p := p) (by have := hbl.out.size; omega)).trans (hbl.out.cell (p := p) (by omega))) hbb
        have Hcw := Lib.hid hcw
        rw [hs] at HS
        have HP := fun W => Lib.hid (rnum_any (xs[k] - last) W (by omega))
        clear hs hall hl hps hc hcw
        generalize xs[k] = x at *
        go_wp2_with fail
        refine (HS _).out.mono ?_
        rintro e w' ⟨rfl, rfl⟩
        go_wp2_with fail
        refine (HP _).out.mono ?_
        rintro e w3 ⟨rfl, hb3⟩
        have hc3 := Hcw.out w3 hb3
        have Hb3 : Hid (Below w.heap.size w w3) := hbl.out.trans (hb3.mono hbl.out.size)
        have HS2 : Hid (Cl.intsD 0 xs = (S ++ Wr.putB (x - last)).data.toList ++ Cl.intsD x (xs.drop (k + 1))) := by
          show _ = _
          rw [Wr.append_list, Hpl.out]; exact HI.out
        have hS2 : (S ++ Wr.putB (x - last)).size ≤ 5 * (k + 1) := by rw [ByteArray.size_append]; omega
        clear hb3
        have hq : ¬ 9223372036854775807 < S.size + (Wr.putB (x - last)).size := by omega
        go_wp2_with fail
        generalize S ++ Wr.putB (x - last) = S2 at *
        go_roundw
        case rel => exact ⟨k + 1, S2, x, by omega, by go_num, rfl, rfl, hsm, HA, HS2, hS2, Hb3⟩
        case measure => simp [intOf]; omega
    · have HR := Lib.hid (HE.out k S.data.toList last hlt hall.out hl.out)
      clear HD HE hall hl
      go_wp2_with fail
      go_ret
      exact ⟨ret_str (by rw [HR.out]), hbl.out⟩

theorem getInts_no {s : ByteArray} {a many : Int} (h : many < 0 ∨ 65536 < many ∨ a < 0 ∨ (s.size : Int) < a) : Cl.getInts s a many = ([], 0, 1200) := by
  unfold Cl.getInts; rw [if_pos h]
theorem getInts_none {s : ByteArray} {a : Int} {n : Nat} (h : Cl.goInts s.data.toList n 0 a = none) : Cl.getInts s a (n : Int) = ([], 0, 1200) := by
  unfold Cl.getInts
  split
  · rfl
  · rw [Int.toNat_natCast, h]
theorem getInts_some {s : ByteArray} {a : Int} {n : Nat} {r : List Int × Int} (hn : n ≤ 65536) (ha : 0 ≤ a ∧ a ≤ (s.size : Int)) (h : Cl.goInts s.data.toList n 0 a = some r) : Cl.getInts s a (n : Int) = (r.1, r.2, 0) := by
  unfold Cl.getInts
  rw [if_neg (by omega), Int.toNat_natCast, h]
theorem go_step {l : List UInt8} {n k : Nat} {a0 last a d to : Int} {out : List Int} (hk : k < n) (hrel : Cl.goInts l n 0 a0 = (Cl.goInts l (n - k) last a).map fun r => (out ++ r.1, r.2)) (h : Wr.getN l a = (d, to, 0)) (hs : Pt.smallB (last + d) = true) :
    Cl.goInts l n 0 a0 = (Cl.goInts l (n - (k + 1)) (last + d) to).map fun r => ((out ++ [last + d]) ++ r.1, r.2) := by
  rw [hrel, show n - k = (n - (k + 1)) + 1 from by omega, Cl.goInts_more l _ last a d to h hs, Option.map_map]
  congr 1
  funext r
  simp
theorem go_stop {l : List UInt8} {n k : Nat} {a0 last a : Int} {out : List Int} (hk : k < n) (hrel : Cl.goInts l n 0 a0 = (Cl.goInts l (n - k) last a).map fun r => (out ++ r.1, r.2)) (h : (Wr.getN l a).2.2 ≠ 0 ∨ Pt.smallB (last + (Wr.getN l a).1) = false) : Cl.goInts l n 0 a0 = none := by
  rw [hrel, show n - k = (n - (k + 1)) + 1 from by omega, Cl.goInts_stop l _ last a h]; rfl
theorem go_done {l : List UInt8} {n k : Nat} {a0 last a : Int} {out : List Int} (hk : n - k = 0) (hrel : Cl.goInts l n 0 a0 = (Cl.goInts l (n - k) last a).map fun r => (out ++ r.1, r.2)) : Cl.goInts l n 0 a0 = some (out, a) := by
  rw [hrel, hk, Cl.goInts]; simp
theorem getN_bd' (s : ByteArray) (a : Int) (hs : s.size ≤ 4611686018427387904) : (-9223372036854775808 ≤ (Wr.getN s.data.toList a).2.1 ∧ (Wr.getN s.data.toList a).2.1 ≤ 9223372036854775807) ∧ (-9007199254740992 ≤ (Wr.getN s.data.toList a).1 ∧ (Wr.getN s.data.toList a).1 ≤ 9007199254740992) := by
  rcases Wr.getN_cases s.data.toList a with ⟨e, hg, he⟩ | ⟨x, b, k, ha, hg, hn, _, hle, _⟩
  · rw [hg]; simp
  · rw [Wr.len_list] at hle
    have := (Wr.isNum_iff x).1 hn
    rw [hg]; exact ⟨⟨by simp; omega, by simp; omega⟩, ⟨by simp; omega, by simp; omega⟩⟩
def IntsPost (w : World) (r : List Int × Int × Int) (e : Ending) (w' : World) : Prop :=
  ∃ v, e = .returned (.tuple #[v, .int .i64 r.2.1, .int .i64 r.2.2]) ∧ w'.ownsRow w.heap.size 3 1 v r.1.length (r.1.map (Value.int .i64)) ∧ Below w.heap.size w w'

set_option maxRecDepth 100000 in
set_option maxHeartbeats 1600000 in
theorem rgetInts_any (s : ByteArray) (a many : Int) (w : World) (hs : s.size ≤ 4611686018427387904) (ha : -9223372036854775808 ≤ a ∧ a ≤ 9223372036854775807) :
    Calls Try.prog 70 #[.string s, .int .i64 a, .int .i64 many] w (IntsPost w (Cl.getInts s a many)) := by
  obtain ⟨i0, hi, hz0, hz1, hz2⟩ := info_parts info_int
  by_cases hno : many < 0 ∨ 65536 < many ∨ a < 0 ∨ (s.size : Int) < a
  · have HR := Lib.hid (getInts_no hno)
    generalize Cl.getInts s a many = res at *
    by_cases h1 : many < 0
    · clear hno
      go_enter Try.func70, Try.ntmps70
      go_wp2_with fail
      go_ret3
      exact ⟨_, by rw [HR.out]; rfl, by rw [HR.out]; exact own_nil _ _ _ _, Below.refl _ _⟩
    · by_cases h2 : 65536 < many
      · clear hno
        go_enter Try.func70, Try.ntmps70
        go_wp2_with fail
        go_ret3
        exact ⟨_, by rw [HR.out]; rfl, by rw [HR.out]; exact own_nil _ _ _ _, Below.refl _ _⟩
      · by_cases h3 : a < 0
        · clear hno
          go_enter Try.func70, Try.ntmps70
          go_wp2_with fail
          go_ret3
          exact ⟨_, by rw [HR.out]; rfl, by rw [HR.out]; exact own_nil _ _ _ _, Below.refl _ _⟩
        · have h4 : (s.size : Int) < a := by omega
          clear hno
          go_enter Try.func70, Try.ntmps70
          go_wp2_with fail
          go_ret3
          exact ⟨_, by rw [HR.out]; rfl, by rw [HR.out]; exact own_nil _ _ _ _, Below.refl _ _⟩
  · obtain ⟨n, rfl⟩ : ∃ n : Nat, many = n := ⟨many.toNat, by omega⟩
    have HN := Lib.hid (fun h => @getInts_none s a n h)
    have HO := Lib.hid (fun r h => @getInts_some s a n r (by omega) (by omega) h)
    have hm0 : ¬ (n : Int) < 0 := by omega
    have hm1 : ¬ 65536 < (n : Int) := by omega
    have ha0 : ¬ a < 0 := by omega
    have ha1 : ¬ (s.size : Int) < a := by omega
    clear hno
    generalize Cl.getInts s a (n : Int) = res at *
    go_enter Try.func70, Try.ntmps70
    go_wp2_with fail
    go_loopw [1, 9, 10, 11, 12, 13, 14] (fun va vo vl i _ _ _ wr => ∃ (k : Nat) (out : List Int) (last a' : Int), k ≤ n ∧ i = .int .i64 (k : Int) ∧ va = .int .i64 a' ∧ vl = .int .i64 last ∧ (-2147483648 ≤ last ∧ last ≤ 2147483647) ∧ out.length ≤ k ∧ (-9223372036854775808 ≤ a' ∧ a' ≤ 9223372036854775807) ∧ Hid (Cl.goInts s.data.toList n 0 a = (Cl.goInts s.data.toList (n - k) last a').map fun r => (out ++ r.1, r.2)) ∧ Hid (wr.ownsRow w.heap.size 3 1 vo out.length (out.map (Value.int .i64))) ∧ Hid (Below w.heap.size w wr)) (fun _ _ _ i _ _ _ _ => n - (intOf i).toNat)
    case atStart => exact ⟨0, [], 0, a, Nat.zero_le _, rfl, rfl, rfl, by omega, by simp, ha, Lib.hid (by simp), Lib.hid (own_nil _ _ _ _), Lib.hid (Below.refl _ _)⟩
    case round =>
      obtain ⟨k, out, last, a', hk, rfl, rfl, rfl, hlast, hol, ha', hrel, hown, hbw⟩ := hrel
      by_cases hlt : k < n
      · have H1 := fun W => Lib.hid (rgetNum_any s a' W (by omega) ha')
        have hbd := getN_bd' s a' hs
        have HSt := Lib.hid (fun h => HN.out (go_stop hlt hrel.out h))
        have HGo := Lib.hid (fun d to h h2 => go_step (d := d) (to := to) hlt hrel.out h h2)
        clear hrel HN HO
        generalize Wr.getN s.data.toList a' = X at *
        obtain ⟨d, to, e0⟩ := X
        simp only [gnV] at H1 hbd HSt
        obtain ⟨hb1, hb2⟩ := hbd
        by_cases he : e0 = 0
        · subst he
          have HS := fun W => Lib.hid (rsmall_any (last + d) W)
          cases hs : Pt.smallB (last + d)
          · have HR := Lib.hid (HSt.out (.inr hs))
            rw [hs] at HS
            clear hs HSt HGo
            go_wp2_with fail
            refine (H1 _).out.mono ?_
            rintro e w' ⟨rfl, rfl⟩
            go_wp2_with fail
            refine (HS _).out.mono ?_
            rintro e w' ⟨rfl, rfl⟩
            go_wp2_with fail
            go_ret3
            exact ⟨_, by rw [HR.out]; rfl, by rw [HR.out]; exact own_nil _ _ _ _, hbw.out⟩
          · have hsm := (Pt.smallB_iff _).1 hs
            have HR := Lib.hid (HGo.out d to rfl hs)
            rw [hs] at HS
            have hsw := hbw.out.size
            clear hs HSt HGo
            go_wp2_with fail
            refine (H1 _).out.mono ?_
            rintro e w' ⟨rfl, rfl⟩
            go_wp2_with fail
            refine (HS _).out.mono ?_
            rintro e w' ⟨rfl, rfl⟩
            go_wp2_with (at_builtin; refine wpList_push _ rfl _ _ 22 rfl w.heap.size 3 i0 _ 1 8 Try.underlying22 hi hz0 hz1 hz2 rfl (by decide) _ out.length _ (by rfl) hown.out [.int .i64 (last + d)] (by rfl) rfl (by simp [Value.oneCell']) (by unfold maxLen; omega) (by omega) w hbw.out hsw ?_; intro v8 w8 hown8 hb8)
            have Hown8 : Hid (w8.ownsRow w.heap.size 3 1 v8 (out ++ [last + d]).length ((out ++ [last + d]).map (Value.int .i64))) := by
              show World.ownsRow _ _ _ _ _ _ _
              rw [List.length_append, List.map_append]; exact hown8
            have Hb8 := Lib.hid hb8
            have hol2 : (out ++ [last + d]).length ≤ k + 1 := by simp; omega
            clear hown8 hb8
            go_wp2_with fail
            go_roundw
            case rel => exact ⟨k + 1, out ++ [last + d], last + d, to, by omega, by go_num, rfl, rfl, hsm, hol2, hb1, HR, Hown8, Hb8⟩
            case measure => simp [intOf]; omega
        · have hz : (e0 != 0) = true := by simp [he]
          have HR := Lib.hid (HSt.out (.inl he))
          clear HSt HGo he
          go_wp2_with fail
          refine (H1 _).out.mono ?_
          rintro e w' ⟨rfl, rfl⟩
          go_wp2_with fail
          go_ret3
          exact ⟨_, by rw [HR.out]; rfl, by rw [HR.out]; exact own_nil _ _ _ _, hbw.out⟩
      · have HR := Lib.hid (HO.out _ (go_done (by omega) hrel.out))
        clear hrel HN HO
        obtain ⟨A, c, rfl, hnc, _⟩ := own_slice hown.out
        go_wp2_with fail
        go_ret3
        exact ⟨_, by rw [HR.out]; rfl, by rw [HR.out]; exact hown.out, hbw.out⟩
end Go.Proofs.Ythdbmgjlegpbaaa
