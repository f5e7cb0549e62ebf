/- What a session's writes leave: segments of rising points (chapter 11). No walk in sight. -/
import Derived.Test.YtfopbkgbegeffaaKIgSnapP
import Derived.Test.YtfopbkgbegeffaaKSgBack
namespace Go.Proofs.Ytfopbkgbegeffaa
open Go.RowKit
set_option linter.unusedVariables false
namespace Ig

/-- the points of the writes from a up to k -/
def rng (a k : Nat) : List Pt.Point := (List.range' a (k - a)).map fun (j : Nat) => pt (j : Int) (j : Int)
theorem rng_len (a k : Nat) : (rng a k).length = k - a := by simp [rng]
theorem rng_self (a : Nat) : rng a a = [] := by simp [rng]
theorem mem_rng {a k : Nat} {p : Pt.Point} : p ∈ rng a k ↔ ∃ j, a ≤ j ∧ j < k ∧ p = pt (j : Int) (j : Int) := by
  unfold rng
  rw [List.mem_map]
  constructor
  · rintro ⟨j, hj, rfl⟩
    rw [List.mem_range'_1] at hj
    exact ⟨j, by omega, by omega, rfl⟩
  · rintro ⟨j, h1, h2, rfl⟩
    exact ⟨j, by rw [List.mem_range'_1]; omega, rfl⟩
theorem rng_sorted (a k : Nat) : Sorted (rng a k) := by
  rw [sorted_pair]
  unfold rng
  rw [List.pairwise_map]
  refine List.Pairwise.imp ?_ (List.pairwise_lt_range' (s := a) (n := k - a) (step := 1) (by omega))
  intro x y h
  rw [cmp_pt]; unfold Lib.compareInt; rw [if_pos (by omega)]; omega
theorem rng_set {a k : Nat} (h : a ≤ k) : setP (rng a k) (pt (k : Int) (k : Int)) = rng a (k + 1) := by
  refine sorted_ext (setP_sorted (rng_sorted a k)) (rng_sorted _ _) fun p => ?_
  rw [mem_setP_iff (rng_sorted a k), mem_rng, mem_rng]
  constructor
  · rintro (rfl | ⟨⟨j, h1, h2, rfl⟩, _⟩)
    · exact ⟨k, h, by omega, rfl⟩
    · exact ⟨j, h1, by omega, rfl⟩
  · rintro ⟨j, h1, h2, rfl⟩
    by_cases e : j = k
    · subst e; exact .inl rfl
    · right
      refine ⟨⟨j, h1, by omega, rfl⟩, ?_⟩
      rw [cmp_pt]; unfold Lib.compareInt; rw [if_pos (by omega)]; omega
/-- the i-th segment's points -/
def sgp (i : Nat) : List Pt.Point := rng (8 * i - 1) (8 * i + 7)
def sgt (i : Nat) : ByteArray := (Sg.putR ((i : Int) + 1) (sgp i)).1
theorem sgp_rise : ∀ i : Fin 4, Sg.riseB (sgp i.1) = true := by decide +kernel
theorem sgp_len (i : Nat) : (sgp i).length = if i = 0 then 7 else 8 := by
  unfold sgp; rw [rng_len]; split <;> omega
theorem rng_cons {a k : Nat} (h : a < k) : rng a k = pt (a : Int) (a : Int) :: rng (a + 1) k := by
  unfold rng
  rw [show k - a = (k - (a + 1)) + 1 from by omega, List.range'_succ, List.map_cons]
theorem sgp_head (i : Nat) : ∃ l, sgp i = pt ((8 * i - 1 : Nat) : Int) ((8 * i - 1 : Nat) : Int) :: l := ⟨_, rng_cons (by omega)⟩
theorem sgt_get (i : Nat) (h : i < 4) : Sg.getR (sgt i) = ((i : Int) + 1, sgp i, 0) := by
  unfold sgt
  have hr := sgp_rise ⟨i, h⟩
  simp only at hr
  rw [putR_good (by omega) hr]
  exact get_file (by omega) hr
def sm (k : Nat) (r u : Int) : M := ⟨1 + (k : Int), [(1, (k : Int), r, u)], rng (8 * ((1 + k) / 8) - 1) k, (List.range ((1 + k) / 8)).map (fun (i : Nat) => (Sm.hashL (sgt i).data.toList : Int)), (List.range ((1 + k) / 8)).map (fun (i : Nat) => ((i : Int) + 1, sgt i))⟩
theorem sm_step {k : Nat} {r u : Int} (hk : k < 31) : applyM (sm k r u) 0 0 1 ((k : Int) + 1) [pt (k : Int) (k : Int)] = (sm (k + 1) (2 + (k : Int)) (2 + (k : Int)), 2 + (k : Int), 0) := by
  have ht : takeM (up (sm k r u)) 0 0 1 ((k : Int) + 1) [pt (k : Int) (k : Int)] = (⟨2 + (k : Int), [(1, (k : Int) + 1, 2 + (k : Int), 2 + (k : Int))], rng (8 * ((1 + k) / 8) - 1) (k + 1), (sm k r u).digs, (sm k r u).seals⟩, 2 + (k : Int), 0) := by
    rw [take_write (m := up (sm k r u)) (q := (k : Int)) rfl (by omega) (by omega) (by omega) (pt_batch (by omega) (by omega)) (by simp only [up, sm]; omega)]
    have e1 : (up (sm k r u)).at_ = 2 + (k : Int) := by simp only [up, sm]; omega
    have e2 : setAll (up (sm k r u)).opn [pt (k : Int) (k : Int)] = setP (rng (8 * ((1 + k) / 8) - 1) k) (pt (k : Int) (k : Int)) := rfl
    rw [e1, e2, rng_set (by omega)]
    rfl
  have hat : (sm k r u).at_ = 1 + (k : Int) := rfl
  unfold applyM
  rw [if_neg (by rw [hat]; omega), ht, hat]
  simp only
  by_cases h8 : (1 + (k : Int) + 1) % 8 = 0
  · rw [if_pos h8]
    have hq : (1 + (k + 1)) / 8 = (1 + k) / 8 + 1 := by omega
    have hb : 8 * ((1 + k) / 8) + 7 = k + 1 := by omega
    have hc : (2 + (k : Int)) / 8 = (((1 + k) / 8 : Nat) : Int) + 1 := by omega
    have hs : segB ⟨2 + (k : Int), [(1, (k : Int) + 1, 2 + (k : Int), 2 + (k : Int))], rng (8 * ((1 + k) / 8) - 1) (k + 1), (sm k r u).digs, (sm k r u).seals⟩ = sgt ((1 + k) / 8) := by
      unfold segB sgt sgp
      simp only
      rw [hc, hb]
    refine Prod.ext ?_ rfl
    show sealM _ = sm _ _ _
    unfold sealM
    rw [hs]
    unfold sm
    simp only
    rw [hq, List.range_succ, List.map_append, List.map_append, hc, show 8 * ((1 + k) / 8 + 1) - 1 = k + 1 from by omega, rng_self, show 1 + ((k + 1 : Nat) : Int) = 2 + (k : Int) from by omega, show ((k + 1 : Nat) : Int) = (k : Int) + 1 from by omega]
    rfl
  · rw [if_neg h8]
    have hq : (1 + (k + 1)) / 8 = (1 + k) / 8 := by omega
    refine Prod.ext ?_ rfl
    show (⟨_, _, _, _, _⟩ : M) = sm _ _ _
    unfold sm
    simp only
    rw [hq, show 1 + ((k + 1 : Nat) : Int) = 2 + (k : Int) from by omega, show ((k + 1 : Nat) : Int) = (k : Int) + 1 from by omega]
theorem sm0 : sm 0 1 1 = m1 := by rfl
theorem sm_open (k : Nat) (r u : Int) : ((sm k r u).opn.length : Int) = (1 + (k : Int)) % 8 - (if (1 + k : Int) < 8 then 1 else 0) := by
  show (((rng (8 * ((1 + k) / 8) - 1) k).length : Nat) : Int) = _
  rw [rng_len]
  split <;> omega
end Ig
end Go.Proofs.Ytfopbkgbegeffaa
