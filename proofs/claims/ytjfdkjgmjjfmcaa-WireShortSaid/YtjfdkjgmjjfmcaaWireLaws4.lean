/- The walk through WireShort. -/
import Derived.Test.YtjfdkjgmjjfmcaaWireLaws
import Derived.Test.YtjfdkjgmjjfmcaaWireMore
import Derived.Test.YtjfdkjgmjjfmcaaAft
import Derived.Deep.RegionWith
import Derived.Deep.DrawnRows
namespace Go.Proofs.Ytjfdkjgmjjfmcaa
open Go.RowKit
set_option linter.unusedVariables false

theorem vb_count (n z : Nat) (hz : z < 128 ^ (n + 1)) (h : ¬ z < 128) : (Wr.vb n z).length = (Wr.vb n (z / 128)).length + 1 := by
  induction n generalizing z with
  | zero => exact absurd (by simpa using hz) h
  | succ n ih =>
    rw [Wr.vb_more _ _ h, List.length_cons]
    congr 1
    have hz' := Wr.vb_next _ _ hz
    by_cases h2 : z / 128 < 128
    · rw [Wr.vb_small _ _ h2, Wr.vb_small _ _ h2]
    · rw [ih _ hz' h2, Wr.vb_more _ _ h2, List.length_cons]

set_option maxRecDepth 100000 in
set_option maxHeartbeats 800000 in
theorem wireShort_walk (a0 : Int) (w0 : (Lit.int .i64 a0).wf = true) (w : World) :
    Calls Try.prog 13 #[.int .i64 a0] w fun e w' => e = .returned (.bool true) ∧ Below w.heap.size w w' := by
  have h0 := wf_int w0
  clear w0
  obtain ⟨k, hk⟩ : ∃ k : Int, a0.tmod 9007199254740992 = k := ⟨_, rfl⟩
  have hkb : -9007199254740992 < k ∧ k < 9007199254740992 := by
    have h1 := Int.tmod_lt_of_pos a0 (show (0 : Int) < 9007199254740992 by omega)
    have h2 := Int.lt_tmod_of_pos a0 (show (0 : Int) < 9007199254740992 by omega)
    omega
  have hnum : Wr.isNum k = true := (Wr.isNum_iff k).2 (by omega)
  have H1 := fun W => Lib.hid (putNum_any k W (by omega))
  obtain ⟨l, c, hv, hl, hc, hl7⟩ := Wr.put_init k hnum
  have hz := Wr.zig_lt k hnum
  have hput : Wr.putL k = Wr.vb 9 (Wr.zig k) := by unfold Wr.putL; rw [if_pos hnum]
  have hlen : (Wr.vb 9 (Wr.zig k)).length = l.length + 1 := by rw [← hput, hv]; simp
  have Hlen := Lib.hid hlen
  have hzk : (k < 0 → ((Wr.zig k : Nat) : Int) = -2 * k - 1) ∧ (¬ k < 0 → ((Wr.zig k : Nat) : Int) = 2 * k) := by
    unfold Wr.zig
    constructor
    · intro h; rw [if_pos h]; omega
    · intro h; rw [if_neg h]; omega
  have Hzk := Lib.hid hzk
  clear hlen hput hzk hnum
  have hPl : Hid ((Wr.putB k).data.toList = l ++ [c]) := by show _ = _; rw [Wr.putB_list, hv]
  have hPs : (Wr.putB k).size = l.length + 1 := by rw [← Wr.len_list, hPl.out]; simp
  clear hv
  generalize Wr.putB k = P at *
  generalize Wr.zig k = z0 at *
  by_cases hneg : k < 0
  all_goals
    go_enter Try.func13, Try.ntmps13
    go_wp2_with fail
    refine (awake2 _).mono ?_
    rintro e w1 ⟨rfl, hb1⟩
    go_wp2_with fail
    refine (H1 _).out.mono ?_
    rintro e w2 ⟨rfl, hb2⟩
    go_wp2_with fail
    go_loop [5, 6] (fun u m => ∃ z n : Nat, z ≤ 18014398509481984 ∧ n ≤ 8 ∧ u = .int .i64 (z : Int) ∧ m = .int .i64 (n : Int) ∧ Hid ((Wr.vb 9 z0).length + 1 = n + (Wr.vb 9 z).length)) (fun u _ => (intOf u).toNat)
    case atStart => exact ⟨z0, 1, hz, by omega, by first | rw [Hzk.out.1 hneg] | rw [Hzk.out.2 hneg], rfl, Lib.hid (by omega)⟩
    case round =>
      obtain ⟨z, n, hz1, hn8, rfl, rfl, hvl⟩ := hrel
      by_cases hlt : z < 128
      · have hn : n = l.length + 1 := by
          have h1 := hvl.out
          rw [Wr.vb_small _ _ hlt, Hlen.out, List.length_cons, List.length_nil] at h1
          omega
        have Hn := Lib.hid hn
        clear hvl Hlen
        have hnl : (((l.length : Int) + 1) != (n : Int)) = false := by rw [hn]; simp
        clear hn
        have hcl : ((P[l.length]'(by omega)) : UInt8) = c := by
          have h1 : P.data.toList[l.length]? = some c := by rw [hPl.out]; simp
          have h2 := (List.getElem?_eq_some_iff.1 h1).2
          rw [← h2]; simp; rfl
        obtain ⟨d, hd1, hd2⟩ : ∃ d : UInt8, (d.toNat : Int) = (c.toNat : Int) + 128 ∧ 128 ≤ d.toNat := ⟨UInt8.ofNat (c.toNat + 128), by rw [Wr.toNat_ofNat_small _ (by omega)]; omega, by rw [Wr.toNat_ofNat_small _ (by omega)]; omega⟩
        have hex : Hid ((P.extract 0 l.length).data.toList = l) := by show _ = _; rw [Lib.extract_data, hPl.out]; simp
        have hcb : (P[l.length]'(by omega)).toNat < 128 := by rw [hcl]; exact hc
        have Hd1 := Lib.hid hd1
        have Hcl := Lib.hid hcl
        clear hd1 hcl
        go_wp2_with fail
        have hi0 : (0 : Int) ≤ (l.length : Int) := by omega
        have hi1 : (l.length : Int) ≤ (l.length : Int) + 1 := by omega
        have hi2 : (l.length : Int) < (l.length : Int) + 1 := by omega
        have hw1 : IntKind.i64.wrap ((l.length : Int) + 1 - 1) = (l.length : Int) := by rw [show (l.length : Int) + 1 - 1 = (l.length : Int) from by omega]; exact IntWalk.i64_in _ (by omega)
        have hw2 : IntKind.i64.wrap (l.length : Int) = (l.length : Int) := IntWalk.i64_in _ (by omega)
        have hub : IntKind.u8.wrap (((P[l.length]'(by omega)).toNat : Int) + 128) = (d.toNat : Int) := by rw [Hd1.out, Hcl.out, IntKind.wrap_u8]; omega
        have hcv : ∀ W : World, (convert 30 9 (.slice (some ⟨W.heap.size, 0, .none⟩) 2 2)).run Try.prog (W.alloc (.cells #[.int .u8 (IntKind.u8.wrap (((P[l.length]'(by omega)).toNat : Int) + 128)), .int .u8 0] 5)).drew = .ok (.string ⟨#[d, 0]⟩) (W.alloc (.cells #[.int .u8 (d.toNat : Int), .int .u8 0] 5)).drew := fun W => by
          rw [hub]
          have h := run_convert_bytes_back (P := Try.prog) (W.drew.alloc (.cells #[.int .u8 (d.toNat : Int), .int .u8 0] 5)) 30 9 5 ⟨W.heap.size, 0, .none⟩ 2 [d, 0] Try.underlying30 Try.underlying5 Try.underlying9 (fun j hj => by
            rw [add_mk, Nat.zero_add]
            refine (cell_new W.drew _ _ j).trans ?_
            have : j < 2 := by simpa using hj
            obtain rfl | rfl : j = 0 ∨ j = 1 := by omega
            · rfl
            · rfl)
          exact h
        clear hub
        have hx1 : (P.extract 0 l.length ++ ⟨#[d, 0]⟩).data.toList = l ++ [d, 0] := by rw [Wr.append_list, hex.out]
        have hg1 : Wr.getN (P.extract 0 l.length ++ ⟨#[d, 0]⟩).data.toList 0 = (0, 0, 201) := by rw [hx1, Wr.getN_zero, Wr.gn_longer l c hl hl7 d hd2]
        have hg2 : Wr.getN (P.extract 0 l.length).data.toList 0 = (0, 0, 200) := by
          rw [hex.out, Wr.getN_zero]
          obtain ⟨u', hu'⟩ := Wr.gn_big l [] 8 0 0 hl (by omega)
          rw [List.append_nil] at hu'
          rw [hu', show 8 - l.length = (7 - l.length) + 1 from by omega, Wr.gn_nil]
        have HG1 := fun W => Lib.hid (getNum_any (P.extract 0 l.length ++ ⟨#[d, 0]⟩) 0 W (by rw [← Wr.len_list, hx1]; simp; omega) (by omega))
        have HG2 := fun W => Lib.hid (getNum_any (P.extract 0 l.length) 0 W (by rw [ByteArray.size_extract]; omega) (by omega))
        rw [hg1] at HG1
        rw [hg2] at HG2
        clear hx1 hg1 hg2
        go_region_with (first | (go_at_call 46; (with_reducible refine (Hid.out (HG1 _)).mono ?_); rintro e w' ⟨rfl, rfl⟩; unfold gnV))
        clear hcv hw1 hw2
        go_wp2_with fail
        refine (Hid.out (HG2 _)).mono ?_
        rintro e w' ⟨rfl, rfl⟩
        unfold gnV
        go_wp2_with fail
        refine (errno_any _ _).mono ?_
        rintro e w' ⟨rfl, rfl⟩
        go_wp2_with fail
        refine (errno_any _ _).mono ?_
        rintro e w' ⟨rfl, rfl⟩
        go_wp2_with fail
        go_ret
        exact ⟨rfl, ((hb1.trans (hb2.mono hb1.size)).alloc (Nat.le_trans hb1.size hb2.size) _).drew⟩
      · have hvl2 : Hid ((Wr.vb 9 z0).length + 1 = (n + 1) + (Wr.vb 9 (z / 128)).length) := by
          show _ = _
          rw [hvl.out, vb_count 9 z (by simp; omega) hlt]; omega
        have hn7 : n + 1 ≤ 8 := by
          have h1 := hvl2.out
          have h2 := Wr.vb_pos 9 (z / 128)
          rw [Hlen.out] at h1
          omega
        clear hvl
        go_wp2_with fail
        go_round
        case rel => exact ⟨z / 128, n + 1, by omega, hn7, by go_num, by go_num, hvl2⟩
        case measure => simp [intOf]; omega
end Go.Proofs.Ytjfdkjgmjjfmcaa
