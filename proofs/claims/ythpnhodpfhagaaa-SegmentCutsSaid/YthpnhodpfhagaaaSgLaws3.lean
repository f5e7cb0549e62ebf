/- The walks through SegmentBack and SegmentCuts. -/
import Derived.Test.YthpnhodpfhagaaaSgLaws2
namespace Go.Proofs.Ythpnhodpfhagaaa
open Go.RowKit
set_option linter.unusedVariables false

set_option maxRecDepth 100000 in
set_option maxHeartbeats 2000000 in
theorem segmentBack_walk {w : World} (a0 : Int) (A1 : Option Addr) (c1 : Nat) (z1 : List Pt.Point) (a2 a3 : Int) (w0 : (Lit.int .i64 a0).wf = true) (rd1 : Reads w w.heap.size 3 A1 z1.length (z1.flatMap pointCells)) (wf1 : ∀ p ∈ z1, (Lit.int .i64 p.2.1).wf = true ∧ (Lit.int .i64 p.2.2).wf = true ∧ p.1.size ≤ maxLen) (nb1 : z1.length * 32 ≤ 140737488351232) (w2 : (Lit.int .i64 a2).wf = true) (w3 : (Lit.int .i64 a3).wf = true) :
    Calls Try.prog 11 #[.int .i64 a0, .slice A1 z1.length c1, .int .i64 a2, .int .i64 a3] w fun e w' => e = .returned (.bool true) ∧ Below w.heap.size w w' := by
  have hwf := sg_wf_of wf1
  have ha := wf_int w0
  have HP := fun W (hb : Below w.heap.size w W) => Lib.hid (sgput_any a0 A1 c1 z1 W w.heap.size (rd1.below hb) hb.size (by omega) hwf)
  have Hrd1 := Lib.hid rd1
  clear wf1 hwf rd1 w0 w2 w3
  by_cases hbad : (a0 < 1 ∨ 512 < a0) ∨ Sg.riseB z1 = false
  · have hq : ∃ E : Int, Sg.putR a0 z1 = (⟨#[]⟩, E) ∧ (E != 0) = true := by
      by_cases hr : a0 < 1 ∨ 512 < a0
      · exact ⟨_, putR_range hr, rfl⟩
      · exact ⟨_, putR_form hr (hbad.resolve_left hr), rfl⟩
    obtain ⟨E, hq, hE⟩ := hq
    rw [hq] at HP
    clear hq hbad
    go_enter Try.func11, Try.ntmps11
    go_wp2_with fail
    refine (awake13 _).mono ?_
    rintro e w1 ⟨rfl, hb1⟩
    have Hb1 := Lib.hid hb1
    clear hb1
    go_wp2_with fail
    refine (HP _ Hb1.out).out.mono ?_
    rintro e w2 ⟨rfl, hb2⟩
    have Hb2 : Hid (Below w.heap.size w w2) := Hb1.out.trans (hb2.mono Hb1.out.size)
    clear hb2
    simp only
    go_wp2_with fail
    refine (errno_any _ _).mono ?_
    rintro e w' ⟨rfl, rfl⟩
    go_wp2_with fail
    refine (errno_any _ _).mono ?_
    rintro e w' ⟨rfl, rfl⟩
    go_wp2_with fail
    go_ret
    exact ⟨rfl, Hb2.out⟩
  · have hr : ¬ (a0 < 1 ∨ 512 < a0) := fun h => hbad (.inl h)
    have hp : Sg.riseB z1 = true := by cases h : Sg.riseB z1 with | true => rfl | false => exact absurd (.inr h) hbad
    rw [putR_good hr hp] at HP
    have hfs : (Sg.fileB (Sg.bodyB a0 z1)).size ≤ 5000 := by rw [file_size]; have := body_le (r := a0) hp; omega
    have hf0 : 12 ≤ (Sg.fileB (Sg.bodyB a0 z1)).size := by rw [file_size]; have := body_size (r := a0) (ps := z1); omega
    have HG := fun W => sgget_any (Sg.fileB (Sg.bodyB a0 z1)) W (by omega)
    rw [get_file (by omega) hp] at HG
    have HT := Lib.hid (fun k hk d hd => get_turned (b := Sg.bodyB a0 z1) body_size k hk d hd)
    have hln := rise_len hp
    generalize Sg.fileB (Sg.bodyB a0 z1) = S at *
    have HG' := fun W => Lib.hid (HG W)
    have hne := nonempty_of (s := S) (by omega)
    obtain ⟨k, hk, hk1⟩ := pick_of a2 S.size (by omega) (by omega)
    obtain ⟨d, hd, hx⟩ := turn_of a3 S[k]
    have HTk := Lib.hid (HT.out k hk d hd)
    have hsz := turned_size S k d
    have HGt := fun W => sgget_any (turned S k d) W (by omega)
    rw [HTk.out] at HGt
    have HGt' := fun W => Lib.hid (HGt W)
    have haa : (a0 == a0) = true := by simp
    have hcv := to_bytes (P := Try.prog) 9 50 5 Try.underlying9 Try.underlying50 Try.underlying5 S
    have Hsz := Lib.hid hsz
    clear HG hbad hd HT HTk HGt hsz
    go_enter Try.func11, Try.ntmps11
    go_wp2_with fail
    refine (awake13 _).mono ?_
    rintro e w1 ⟨rfl, hb1⟩
    have Hb1 := Lib.hid hb1
    clear hb1
    go_wp2_with fail
    refine (HP _ Hb1.out).out.mono ?_
    rintro e w2 ⟨rfl, hb2⟩
    have Hb2 : Hid (Below w.heap.size w w2) := Hb1.out.trans (hb2.mono Hb1.out.size)
    clear hb2
    simp only
    go_wp2_with fail
    refine (errno_any _ _).mono ?_
    rintro e w' ⟨rfl, rfl⟩
    go_wp2_with fail
    refine (HG' _).out.mono ?_
    rintro e w3 ⟨v3, rfl, hown3, hb3⟩
    simp only at hown3
    obtain ⟨A3, c3, rfl, hnc3, hrd3⟩ := own_slice hown3
    have Hrd3 := Lib.hid hrd3
    have Hb3 : Hid (Below w.heap.size w w3) := Hb2.out.trans (hb3.mono Hb2.out.size)
    have hs3 := Hb3.out.size
    clear hown3 hrd3 hb3
    have hcell := fun cap => bytes_cell w3 5 S cap k hk
    have hfro := fun cap => bytes_frozen w3 5 S cap k hk
    have hback := fun c => from_turned_drew (P := Try.prog) 50 9 5 Try.underlying50 Try.underlying5 Try.underlying9 S k d hk c c w3
    simp only
    go_wp2_with fail
    refine (HGt' _).out.mono ?_
    rintro e w4 ⟨v4, rfl, hown4, hb4⟩
    have hb34 : ∀ cap, Below w3.heap.size w3 ((w3.alloc (bytesObj 5 S cap)).setCell ⟨w3.heap.size, k, none⟩ (.int .u8 (d.toNat : Int))).drew := fun cap => (((Below.refl _ _).alloc (Nat.le_refl _) _).setCell (Nat.le_refl _) _).drew
    have Hb4 : Hid (Below w3.heap.size w3 w4) := (hb34 _).trans (hb4.mono (hb34 _).size)
    clear hown4 hb4 hb34 hcell hfro hback
    simp only
    go_wp2_with fail
    refine (errno_any _ _).mono ?_
    rintro e w' ⟨rfl, rfl⟩
    go_wp2_with fail
    refine (samePoints_true A3 A1 c3 c1 z1 _ w3.heap.size w.heap.size (Hrd3.out.below Hb4.out) (Hrd1.out.below (Hb3.out.trans (Hb4.out.mono hs3))) (by omega)).mono ?_
    rintro e w8 ⟨rfl, n8, rfl⟩
    go_wp2_with fail
    refine (errno_any _ _).mono ?_
    rintro e w' ⟨rfl, rfl⟩
    go_wp2_with fail
    go_ret
    exact ⟨rfl, below_drewN (Hb3.out.trans (Hb4.out.mono hs3)) _⟩

set_option maxRecDepth 100000 in
set_option maxHeartbeats 2000000 in
theorem segmentCuts_walk {w : World} (A0 : Option Addr) (c0 : Nat) (z0 : List Pt.Point) (a1 : Int) (rd0 : Reads w w.heap.size 3 A0 z0.length (z0.flatMap pointCells)) (wf0 : ∀ p ∈ z0, (Lit.int .i64 p.2.1).wf = true ∧ (Lit.int .i64 p.2.2).wf = true ∧ p.1.size ≤ maxLen) (nb0 : z0.length * 32 ≤ 140737488351232) (w1 : (Lit.int .i64 a1).wf = true) :
    Calls Try.prog 14 #[.slice A0 z0.length c0, .int .i64 a1] w fun e w' => e = .returned (.bool true) ∧ Below w.heap.size w w' := by
  have hwf := sg_wf_of wf0
  have HP := fun W (hb : Below w.heap.size w W) => Lib.hid (sgput_any 1 A0 c0 z0 W w.heap.size (rd0.below hb) hb.size (by omega) hwf)
  clear wf0 hwf rd0 w1
  cases hp : Sg.riseB z0
  · rw [putR_form (by omega) hp] at HP
    clear hp
    go_enter Try.func14, Try.ntmps14
    go_wp2_with fail
    refine (awake13 _).mono ?_
    rintro e w1 ⟨rfl, hb1⟩
    have Hb1 := Lib.hid hb1
    clear hb1
    go_wp2_with fail
    refine (HP _ Hb1.out).out.mono ?_
    rintro e w2 ⟨rfl, hb2⟩
    have Hb2 : Hid (Below w.heap.size w w2) := Hb1.out.trans (hb2.mono Hb1.out.size)
    clear hb2
    simp only
    go_wp2_with fail
    refine (errno_any _ _).mono ?_
    rintro e w' ⟨rfl, rfl⟩
    go_wp2_with fail
    refine (errno_any _ _).mono ?_
    rintro e w' ⟨rfl, rfl⟩
    go_wp2_with fail
    go_ret
    exact ⟨rfl, Hb2.out⟩
  · rw [putR_good (by omega) hp] at HP
    have hfs : (Sg.fileB (Sg.bodyB 1 z0)).size ≤ 5000 := by rw [file_size]; have := body_le (r := 1) hp; omega
    have hf0 : 12 ≤ (Sg.fileB (Sg.bodyB 1 z0)).size := by rw [file_size]; have := body_size (r := 1) (ps := z0); omega
    generalize Sg.fileB (Sg.bodyB 1 z0) = S at *
    have hne := nonempty_of (s := S) (by omega)
    obtain ⟨k, hk, hk1⟩ := pick_of a1 S.size (by omega) (by omega)
    obtain ⟨m, hm, hmk, hm11⟩ : ∃ m : Nat, min (k : Int) 11 = (m : Int) ∧ m ≤ k ∧ m ≤ 11 := ⟨min k 11, by omega, by omega, by omega⟩
    have hxs : (S.extract 0 m).size = m := by rw [ByteArray.size_extract]; omega
    have HG := fun W => sgget_any (S.extract 0 m) W (by omega)
    rw [get_short (s := S.extract 0 m) (by omega)] at HG
    have HG' := fun W => Lib.hid (HG W)
    clear HG hp hxs
    go_enter Try.func14, Try.ntmps14
    go_wp2_with fail
    refine (awake13 _).mono ?_
    rintro e w1 ⟨rfl, hb1⟩
    have Hb1 := Lib.hid hb1
    clear hb1
    go_wp2_with fail
    refine (HP _ Hb1.out).out.mono ?_
    rintro e w2 ⟨rfl, hb2⟩
    have Hb2 : Hid (Below w.heap.size w w2) := Hb1.out.trans (hb2.mono Hb1.out.size)
    clear hb2
    simp only
    go_wp2_with fail
    refine (errno_any _ _).mono ?_
    rintro e w' ⟨rfl, rfl⟩
    go_wp2_with fail
    refine (HG' _).out.mono ?_
    rintro e w3 ⟨v3, rfl, hown3, hb3⟩
    have Hb3 : Hid (Below w.heap.size w w3) := Hb2.out.trans (hb3.mono Hb2.out.size)
    clear hown3 hb3
    simp only
    go_wp2_with fail
    refine (errno_any _ _).mono ?_
    rintro e w' ⟨rfl, rfl⟩
    go_wp2_with fail
    go_ret
    exact ⟨rfl, Hb3.out⟩
end Go.Proofs.Ythpnhodpfhagaaa
