/- Plain facts of the law SealDigests (chapter 14). No walk in sight. -/
import Derived.Test.YtapdlmiioljpgaaK14
import Derived.Test.YtapdlmiioljpgaaK12
namespace Go.Proofs.Ytapdlmiioljpgaa
open Go.RowKit
set_option linter.unusedVariables false

/-- an entry without the place of its batch -/
def Sv.dat (q : Ent) : (Int × Int × Int × Int) × List Pt.Point := (q.1, q.2.2.2)
theorem Sv.run_dat {a b : List Ent} (h : a.map Sv.dat = b.map Sv.dat) (m : Ig.M) : Sv.runM m a = Sv.runM m b := by
  have key : ∀ (l : List Ent) (m : Ig.M), Sv.runM m l = (l.map Sv.dat).foldl (fun m d => (Ig.applyM m d.1.1 d.1.2.1 d.1.2.2.1 d.1.2.2.2 d.2).1) m := by
    intro l
    induction l with
    | nil => intro m; rfl
    | cons q l ih => intro m; exact ih _
  rw [key, key, h]
theorem Sv.all_dat {a b : List Ent} (h : a.map Sv.dat = b.map Sv.dat) : a.all Sv.entB = b.all Sv.entB := by
  have key : ∀ l : List Ent, l.all Sv.entB = (l.map Sv.dat).all (fun d => Ig.mayB d.1.1 d.1.2.1 d.1.2.2.1 d.1.2.2.2 d.2) := fun l => by rw [List.all_map]; rfl
  rw [key, key, h]
theorem Sv.len_dat {a b : List Ent} (h : a.map Sv.dat = b.map Sv.dat) : a.length = b.length := by
  have := congrArg List.length h
  simpa using this
theorem Sv.seg_dat {a b : List Ent} (h : a.map Sv.dat = b.map Sv.dat) (base : Int) (snap : ByteArray) (r : Int) : Sv.segR base snap a r = Sv.segR base snap b r := by
  have hl := Sv.len_dat h
  have ht : (a.take (r * 8 - base).toNat).map Sv.dat = (b.take (r * 8 - base).toNat).map Sv.dat := by rw [List.map_take, List.map_take, h]
  have hlog : Sv.logB base snap a = Sv.logB base snap b := by unfold Sv.logB; rw [hl, Sv.all_dat h]
  unfold Sv.segR
  rw [hlog, hl]
  split
  · split
    · rfl
    · rw [Sv.run_dat ht]
  · rfl
/-- an entry with one point -/
def Sv.e2 (i : Nat) (v : Int) : Ent := ((0, 0, 1, (i : Int)), (none, 1, [Ig.pt (i : Int) v]))
def Sv.dl (u : Nat → Int) (n : Nat) : List Ent := Sv.e0 :: (List.range n).map fun i => Sv.e2 (i + 1) (u (i + 1))
def Sv.dg (u : Nat → Int) (n : Nat) : List Pt.Point := (List.range n).map fun i => Ig.pt ((i + 1 : Nat) : Int) (u (i + 1))
theorem Sv.dl_succ (u : Nat → Int) (n : Nat) : Sv.dl u (n + 1) = Sv.dl u n ++ [Sv.e2 (n + 1) (u (n + 1))] := by
  unfold Sv.dl; rw [List.range_succ, List.map_append]; rfl
theorem Sv.dg_succ (u : Nat → Int) (n : Nat) : Sv.dg u (n + 1) = Sv.dg u n ++ [Ig.pt ((n + 1 : Nat) : Int) (u (n + 1))] := by
  unfold Sv.dg; rw [List.range_succ, List.map_append]; rfl
theorem Sv.dl_len (u : Nat → Int) (n : Nat) : (Sv.dl u n).length = n + 1 := by unfold Sv.dl; simp
theorem Sv.dg_mem {u : Nat → Int} {n : Nat} {p : Pt.Point} : p ∈ Sv.dg u n ↔ ∃ i, i < n ∧ p = Ig.pt ((i + 1 : Nat) : Int) (u (i + 1)) := by
  unfold Sv.dg
  rw [List.mem_map]
  constructor
  · rintro ⟨i, hi, rfl⟩; exact ⟨i, List.mem_range.1 hi, rfl⟩
  · rintro ⟨i, hi, rfl⟩; exact ⟨i, List.mem_range.2 hi, rfl⟩
theorem Sv.dg_sorted (u : Nat → Int) (n : Nat) : Ig.Sorted (Sv.dg u n) := by
  rw [Ig.sorted_pair]
  unfold Sv.dg
  rw [List.pairwise_map]
  refine List.Pairwise.imp ?_ (List.pairwise_lt_range (n := n))
  intro x y h
  rw [Ig.cmp_pt]; unfold Lib.compareInt; rw [if_pos (by omega)]; omega
theorem Sv.dg_set (u : Nat → Int) (n : Nat) : Ig.setP (Sv.dg u n) (Ig.pt ((n + 1 : Nat) : Int) (u (n + 1))) = Sv.dg u (n + 1) := by
  refine Ig.sorted_ext (Ig.setP_sorted (Sv.dg_sorted u n)) (Sv.dg_sorted _ _) fun p => ?_
  rw [Ig.mem_setP_iff (Sv.dg_sorted u n), Sv.dg_mem, Sv.dg_mem]
  constructor
  · rintro (rfl | ⟨⟨i, hi, rfl⟩, _⟩)
    · exact ⟨n, by omega, rfl⟩
    · exact ⟨i, by omega, rfl⟩
  · rintro ⟨i, hi, rfl⟩
    by_cases e : i = n
    · subst e; exact .inl rfl
    · right
      refine ⟨⟨i, by omega, rfl⟩, ?_⟩
      rw [Ig.cmp_pt]; unfold Lib.compareInt; rw [if_pos (by omega)]; omega
def Sv.dm (u : Nat → Int) (n : Nat) : Ig.M := ⟨1 + (n : Int), [(1, (n : Int), 1 + (n : Int), 1 + (n : Int))], Sv.dg u n, [], []⟩
def Sv.Small (u : Nat → Int) : Prop := ∀ i, -2147483648 ≤ u i ∧ u i ≤ 2147483647
theorem Sv.dm_take {u : Nat → Int} (hu : Sv.Small u) {n : Nat} (hn : n ≤ 7) : Ig.takeM (Ig.up (Sv.dm u n)) 0 0 1 ((n + 1 : Nat) : Int) [Ig.pt ((n + 1 : Nat) : Int) (u (n + 1))] = (Sv.dm u (n + 1), 2 + (n : Int), 0) := by
  have hat : (Ig.up (Sv.dm u n)).at_ = 2 + (n : Int) := by show 1 + (n : Int) + 1 = _; omega
  rw [Ig.take_write (m := Ig.up (Sv.dm u n)) (q := (n : Int)) (r := 1 + (n : Int)) (u := 1 + (n : Int)) rfl (by omega) (by omega) (by omega) (Ig.pt_batch (by omega) (hu _)) (by rw [hat]; omega)]
  have e2 : Ig.setAll (Ig.up (Sv.dm u n)).opn [Ig.pt ((n + 1 : Nat) : Int) (u (n + 1))] = Ig.setP (Sv.dg u n) (Ig.pt ((n + 1 : Nat) : Int) (u (n + 1))) := rfl
  rw [e2, Sv.dg_set, hat]
  unfold Sv.dm
  rw [show (1 : Int) + ((n + 1 : Nat) : Int) = 2 + (n : Int) from by omega]
  rfl
theorem Sv.dm_run {u : Nat → Int} (hu : Sv.Small u) (n : Nat) (hn : n ≤ 6) : Sv.runM Ig.m0 (Sv.dl u n) = Sv.dm u n := by
  induction n with
  | zero => rfl
  | succ n ih =>
    rw [Sv.dl_succ, Sv.run_snoc, ih (by omega)]
    have ht := Sv.dm_take hu (n := n) (by omega)
    show (Ig.applyM (Sv.dm u n) 0 0 1 ((n + 1 : Nat) : Int) [Ig.pt ((n + 1 : Nat) : Int) (u (n + 1))]).1 = _
    rw [Ig.apply_open _ _ _ _ _ (by show 1 + (n : Int) < 4096; omega) (by show ¬ (1 + (n : Int) + 1) % 8 = 0; omega), ht]
theorem Sv.dm_inv {u : Nat → Int} (hu : Sv.Small u) (n : Nat) (hn : n ≤ 6) : Ig.Inv (Sv.dm u n) := by
  rw [← Sv.dm_run hu n hn]; exact Sv.run_inv Ig.inv0 _
theorem Sv.dl_may {u : Nat → Int} (hu : Sv.Small u) (n : Nat) (hn : n ≤ 100) : Sv.logB 0 ⟨#[]⟩ (Sv.dl u n) = true := by
  refine Sv.log_yes ?_ ?_
  · rw [Sv.dl_len]; unfold Sv.headB; rw [show (⟨#[]⟩ : ByteArray).size = 0 from rfl]; simp; omega
  · rw [List.all_eq_true]
    intro q hq
    rcases List.mem_cons.1 hq with rfl | hq
    · rfl
    · obtain ⟨i, hi, rfl⟩ := List.mem_map.1 hq
      have := List.mem_range.1 hi
      show Ig.mayB 0 0 1 ((i + 1 : Nat) : Int) [Ig.pt ((i + 1 : Nat) : Int) (u (i + 1))] = true
      exact Ig.may_write (by omega) (by omega) (Ig.pt_batch (by omega) (hu _))
theorem Sv.dl_seg {u : Nat → Int} (hu : Sv.Small u) : Sv.segR 0 ⟨#[]⟩ (Sv.dl u 7) 1 = (Sg.fileB (Sg.bodyB 1 (Sv.dg u 7)), 0) ∧ Sg.riseB (Sv.dg u 7) = true := by
  have ht := Sv.dm_take hu (n := 6) (by omega)
  obtain ⟨h1, h2⟩ := Sv.seg_text (Sv.dm_inv hu 6 (by omega)) (by show 1 + (6 : Int) < 4096; omega) (by rfl) 0 0 1 ((6 + 1 : Nat) : Int) [Ig.pt ((6 + 1 : Nat) : Int) (u (6 + 1))]
  rw [ht] at h1 h2
  rw [Sv.seg_zero (Sv.dl_may hu 7 (by omega)) (by rw [Sv.dl_len]; rfl)]
  refine ⟨?_, h2⟩
  have e : (Sv.dl u 7).take (1 * 8 - 0 : Int).toNat = Sv.dl u 7 := List.take_of_length_le (by rw [Sv.dl_len]; decide)
  rw [e, Sv.dl_succ, Sv.run_snoc, Sv.dm_run hu 6 (by omega)]
  exact Prod.ext h1 rfl
theorem Sv.dl_diff {u v : Nat → Int} (hu : Sv.Small u) (hv : Sv.Small v) {k : Nat} (hk : k < 7) (hne : u (k + 1) ≠ v (k + 1)) : (Sv.segR 0 ⟨#[]⟩ (Sv.dl u 7) 1).1 ≠ (Sv.segR 0 ⟨#[]⟩ (Sv.dl v 7) 1).1 := by
  obtain ⟨h1, h2⟩ := Sv.dl_seg hu
  obtain ⟨h3, h4⟩ := Sv.dl_seg hv
  rw [h1, h3]
  intro e
  have g1 := get_file (r := 1) (by omega) h2
  have g2 := get_file (r := 1) (by omega) h4
  simp only at e
  rw [e, g2] at g1
  have hd : Sv.dg v 7 = Sv.dg u 7 := congrArg (fun q : Int × List Pt.Point × Int => q.2.1) g1
  have hk1 : (Sv.dg u 7)[k]? = some (Ig.pt ((k + 1 : Nat) : Int) (u (k + 1))) := by unfold Sv.dg; rw [List.getElem?_map, List.getElem?_range hk]; rfl
  have hk2 : (Sv.dg v 7)[k]? = some (Ig.pt ((k + 1 : Nat) : Int) (v (k + 1))) := by unfold Sv.dg; rw [List.getElem?_map, List.getElem?_range hk]; rfl
  rw [hd, hk1, Option.some.injEq] at hk2
  unfold Ig.pt at hk2
  injection hk2 with _ hk2
  injection hk2 with _ hk2
  exact hne hk2
end Go.Proofs.Ytapdlmiioljpgaa
