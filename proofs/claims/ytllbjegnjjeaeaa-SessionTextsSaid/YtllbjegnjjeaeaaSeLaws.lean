/- The walk through awake of cachetlaw10. -/
import Derived.Test.YtllbjegnjjeaeaaSeGet
import Derived.Test.YtllbjegnjjeaeaaSePut
import Derived.Test.YtllbjegnjjeaeaaErr
namespace Go.Proofs.Ytllbjegnjjeaeaa
open Go.RowKit
set_option linter.unusedVariables false

def Se.a1 : List Se.Row := [(5, 0, 5, 5)]
def Se.a2 : List Se.Row := [(5, 2, 6, 6)]
theorem se_ap1 : Se.applyR [] 0 0 5 = (Se.a1, 5, true) := by decide +kernel
theorem se_ap2 : Se.applyR Se.a1 5 2 6 = (Se.a2, 6, true) := by decide +kernel
theorem se_ask : Se.askR Se.a2 3 1 9 = (4, -1) := by decide +kernel
theorem se_may2 : Se.mayB Se.a2 = true := by decide +kernel
theorem se_fit2 : Se.a2.all Se.fitsB = true := by decide +kernel
theorem se_reads_one (W : World) (r : Se.Row) : Reads (W.alloc (.cells #[.int .i64 r.1, .int .i64 r.2.1, .int .i64 r.2.2.1, .int .i64 r.2.2.2] 49)) (W.heap.size + 1) 4 (some ⟨W.heap.size, 0, none⟩) [r].length ([r].flatMap rowCells) :=
  Reads.new W 49 4 1 (rowCells r) rfl
theorem rowsB_size (rows : List Se.Row) : (⟨(Se.rowsL rows).toArray⟩ : ByteArray).size ≤ 8 + 32 * rows.length := by
  rw [← Wr.len_list]
  show (Se.rowsL rows).length ≤ _
  unfold Se.rowsL
  rw [List.length_append]
  have := Wr.putL_len (rows.length : Int)
  have := Se.rows_le rows
  omega
set_option maxRecDepth 100000 in
set_option maxHeartbeats 1000000 in
theorem awake10 (w : World) : Calls Try.prog 16 #[] w fun e w' => e = .returned (.bool true) ∧ Below w.heap.size w w' := by
  have h1 := fun W => apply_any none 0 [] 0 0 0 0 5 none 0 0 W W.heap.size Reads.none_ (Nat.le_refl _) (by simp)
  have h2 := fun A c W (hr : Reads W W.heap.size 4 A 1 (Se.a1.flatMap rowCells)) => apply_any A c Se.a1 0 0 5 2 6 none 0 0 W W.heap.size hr (Nat.le_refl _) (by simp [Se.a1])
  have h3 := fun A c W (hr : Reads W W.heap.size 4 A 1 (Se.a2.flatMap rowCells)) => ask_any A c Se.a2 3 1 9 W W.heap.size hr (Nat.le_refl _) (by simp [Se.a2])
  have h4 := fun A c W B (hr : Reads W B 4 A 1 (Se.a2.flatMap rowCells)) (hB : B ≤ W.heap.size) => seput_any A c Se.a2 W B hr hB
  have h5 := fun W => seget_any (⟨(Se.rowsL Se.a2).toArray⟩ : ByteArray) W (by have := rowsB_size Se.a2; have : Se.a2.length = 1 := rfl; omega)
  rw [se_ap1] at h1
  rw [se_ap2] at h2
  rw [se_ask] at h3
  rw [Se.put_ok se_may2 se_fit2] at h4
  rw [Se.get_put se_may2 se_fit2] at h5
  generalize (⟨(Se.rowsL Se.a2).toArray⟩ : ByteArray) = S at *
  have H1 := fun W => Lib.hid (h1 W)
  have H2 := fun A c W hr => Lib.hid (h2 A c W hr)
  have H3 := fun A c W hr => Lib.hid (h3 A c W hr)
  have H4 := fun A c W B hr hB => Lib.hid (h4 A c W B hr hB)
  have H5 := fun W => Lib.hid (h5 W)
  have la1 : Se.a1.length = 1 := rfl
  have la2 : Se.a2.length = 1 := rfl
  have L1 := Lib.hid la1
  have L2 := Lib.hid la2
  rw [la1] at H2
  rw [la2] at H3 H4
  clear h1 h2 h3 h4 h5 la1 la2
  unfold entryCells at *
  go_enter Try.func16, Try.ntmps16
  go_wp2_with fail
  refine (H1 w).out.mono ?_
  rintro e w1 ⟨v1, rfl, hown1, hb1⟩
  simp only at hown1
  rw [L1.out] at hown1
  obtain ⟨A1, c1, rfl, hnc1, hrd1⟩ := own_slice hown1
  have Hrd1 := Lib.hid hrd1
  have Hb1 := Lib.hid hb1
  have hs1 := hb1.size
  clear hown1 hrd1 hb1
  simp only
  go_wp2_with fail
  refine (H2 A1 c1 w1 Hrd1.out).out.mono ?_
  rintro e w2 ⟨v2, rfl, hown2, hb2⟩
  simp only at hown2
  rw [L2.out] at hown2
  obtain ⟨A2, c2, rfl, hnc2, hrd2⟩ := own_slice hown2
  have Hrd2 := Lib.hid hrd2
  have Hb2 : Hid (Below w.heap.size w w2) := Hb1.out.trans (hb2.mono hs1)
  have hs2 := Hb2.out.size
  clear hown2 hrd2 hb2
  simp only
  go_wp2_with fail
  refine (H3 A2 c2 w2 Hrd2.out).out.mono ?_
  rintro e w3 ⟨rfl, hb3⟩
  have Hb3 := Lib.hid hb3
  have hs3 := hb3.size
  clear hb3
  simp only
  go_wp2_with fail
  refine (H4 A2 c2 w3 w2.heap.size (Hrd2.out.below Hb3.out) hs3).out.mono ?_
  rintro e w4 ⟨rfl, hb4⟩
  have Hb4 : Hid (Below w2.heap.size w2 w4) := Hb3.out.trans (hb4.mono hs3)
  have hs4 := Hb4.out.size
  clear hb4
  simp only
  go_wp2_with fail
  refine (H5 w4).out.mono ?_
  rintro e w5 ⟨v5, rfl, hown5, hb5⟩
  simp only at hown5
  rw [L2.out] at hown5
  obtain ⟨A5, c5, rfl, hnc5, hrd5⟩ := own_slice hown5
  have Hrd5 := Lib.hid hrd5
  have Hb5 : Hid (Below w2.heap.size w2 w5) := Hb4.out.trans (hb5.mono hs4)
  have hs5 := hb5.size
  clear hown5 hrd5 hb5
  simp only
  go_wp2_with fail
  refine (errno_any _ _).mono ?_
  rintro e w' ⟨rfl, rfl⟩
  go_wp2_with fail
  refine (errno_any _ _).mono ?_
  rintro e w' ⟨rfl, rfl⟩
  go_wp2_with fail
  have hb6 : Below w5.heap.size w5 (w5.alloc (.cells #[.int .i64 5, .int .i64 2, .int .i64 6, .int .i64 6] 49)) := (Below.refl _ _).alloc (Nat.le_refl _) _
  refine (sameRows_true A5 _ c5 _ Se.a2 _ w5.heap.size (w5.heap.size + 1) (Hrd5.out.below hb6) (se_reads_one w5 (5, 2, 6, 6)) (by simp [Se.a2])).mono ?_
  rintro e w7 ⟨rfl, n7, rfl⟩
  go_wp2_with fail
  go_ret
  exact ⟨rfl, below_drewN (Hb2.out.trans ((Hb5.out.trans (hb6.mono (by omega))).mono hs2)) _⟩
end Go.Proofs.Ytllbjegnjjeaeaa
