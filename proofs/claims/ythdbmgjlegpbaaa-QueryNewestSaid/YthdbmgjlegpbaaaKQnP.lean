/- QueryNewest, plain. -/
import Derived.Test.YthdbmgjlegpbaaaKQbP
import Derived.Test.YthdbmgjlegpbaaaKQmRange
import Derived.Test.YthdbmgjlegpbaaaK8
namespace Go.Proofs.Ythdbmgjlegpbaaa
set_option linter.unusedVariables false
namespace Qn
open Qm St Ig
def lay : Option Int → List Pt.Point
  | none => []
  | some v => [(⟨#[115]⟩, 5, v)]
/-- the newest -/
def lst (xs : List (Option Int)) : Option Int := xs.foldl (fun r x => match x with | none => r | some v => some v) none
theorem lst_none (xs : List (Option Int)) : lst (xs ++ [none]) = lst xs := by unfold lst; rw [List.foldl_append]; rfl
theorem lst_some (xs : List (Option Int)) (v : Int) : lst (xs ++ [some v]) = some v := by unfold lst; rw [List.foldl_append]; rfl
theorem newest5 (x : Option Int) : Qr.newest ⟨#[115]⟩ 5 (lay x) = x := by
  cases x with
  | none => rfl
  | some v => simp [lay, Qr.newest, Qr.hit]
theorem newest6 (x : Option Int) : Qr.newest ⟨#[115]⟩ 6 (lay x) = none := by
  cases x with
  | none => rfl
  | some v => simp [lay, Qr.newest, Qr.hit]
theorem last5 (xs : List (Option Int)) : Qr.lastIn ⟨#[115]⟩ 5 (xs.map lay) = lst xs := by
  have key : ∀ n, ∀ xs : List (Option Int), xs.length = n → Qr.lastIn ⟨#[115]⟩ 5 (xs.map lay) = lst xs := fun n => by
    induction n with
    | zero => intro xs h; obtain rfl := List.eq_nil_of_length_eq_zero h; rfl
    | succ n ih =>
      intro xs h
      obtain ⟨ys, y, rfl⟩ : ∃ ys y, xs = ys ++ [y] := ⟨xs.dropLast, xs.getLast (by intro e; rw [e] at h; cases h), (List.dropLast_concat_getLast _).symm⟩
      have hy := ih ys (by rw [List.length_append] at h; simpa using h)
      unfold Qr.lastIn at hy ⊢
      rw [List.map_append, List.reverse_append, List.map_singleton, List.reverse_singleton, List.singleton_append, List.findSome?_cons, newest5]
      cases y with
      | none => rw [lst_none]; exact hy
      | some v => rw [lst_some]
  exact key _ xs rfl
theorem last6 (xs : List (Option Int)) : Qr.lastIn ⟨#[115]⟩ 6 (xs.map lay) = none := by
  unfold Qr.lastIn
  rw [List.findSome?_eq_none_iff]
  intro l hl
  rw [List.mem_reverse, List.mem_map] at hl
  obtain ⟨x, _, rfl⟩ := hl
  exact newest6 x
theorem keep_lay (x : Option Int) : keepL (gone ⟨#[115]⟩ 0 9) (lay x) = lay x := by
  cases x with
  | none => rfl
  | some v => simp [lay, keepL, gone]
theorem lay_sorted (x : Option Int) : Sorted (lay x) := by
  rw [sorted_pair]
  cases x with
  | none => exact List.Pairwise.nil
  | some v => exact List.pairwise_singleton _ _
theorem cmp_same5 (u v : Int) : Pt.cmpP (⟨#[115]⟩, 5, u) (⟨#[115]⟩, 5, v) = 0 := cmp_self (⟨#[115]⟩, 5, u)
theorem merge_lay (y x : Option Int) : mergeP (lay y) (lay x) = lay (match x with | none => y | some v => some v) := by
  unfold mergeP
  cases x with
  | none =>
    show setAll [] (lay y ++ []) = lay y
    rw [List.append_nil, set_id (lay_sorted y)]
  | some v =>
    cases y with
    | none => exact set_id (lay_sorted (some v))
    | some u =>
      show setAll [] [(⟨#[115]⟩, 5, u), (⟨#[115]⟩, 5, v)] = [(⟨#[115]⟩, 5, v)]
      have ha : Asc [((⟨#[115]⟩, 5, u) : Pt.Point), (⟨#[115]⟩, 5, v)] := by
        refine List.pairwise_cons.2 ⟨fun z hz => ?_, List.pairwise_singleton _ _⟩
        rw [List.mem_singleton] at hz
        subst hz
        rw [cmp_same5]; omega
      rw [← dd_set ha (Stab.refl _), dd_skip (cmp_same5 u v)]; rfl
theorem fold_lay (xs : List (Option Int)) : fold (gone ⟨#[115]⟩ 0 9) (xs.map lay) = lay (lst xs) := by
  have key : ∀ n, ∀ xs : List (Option Int), xs.length = n → fold (gone ⟨#[115]⟩ 0 9) (xs.map lay) = lay (lst xs) := fun n => by
    induction n with
    | zero => intro xs h; obtain rfl := List.eq_nil_of_length_eq_zero h; rfl
    | succ n ih =>
      intro xs h
      obtain ⟨ys, y, rfl⟩ : ∃ ys y, xs = ys ++ [y] := ⟨xs.dropLast, xs.getLast (by intro e; rw [e] at h; cases h), (List.dropLast_concat_getLast _).symm⟩
      have hy := ih ys (by rw [List.length_append] at h; simpa using h)
      unfold fold at hy ⊢
      rw [List.map_append, List.foldl_append, hy, List.map_singleton]
      show mergeP (lay (lst ys)) (keepL (gone ⟨#[115]⟩ 0 9) (lay y)) = _
      rw [keep_lay, merge_lay]
      cases y with
      | none => rw [lst_none]
      | some v => rw [lst_some]
  exact key _ xs rfl
/-- the text of the i-th segment -/
def file (i : Nat) (x : Option Int) : ByteArray := Sg.fileB (Sg.bodyB ((i : Int) + 1) (lay x))
theorem rise_none : Sg.riseB (lay none) = true := by decide +kernel
theorem rise_some (i : Nat) (h : i < 4) : Sg.riseB (lay (some (10 + (i : Int)))) = true := by
  rcases (show i = 0 ∨ i = 1 ∨ i = 2 ∨ i = 3 by omega) with rfl | rfl | rfl | rfl <;> decide +kernel
theorem file_get {i : Nat} {x : Option Int} (hi : i < 4) (h : Sg.riseB (lay x) = true) : Sg.getR (file i x) = ((i : Int) + 1, lay x, 0) := get_file (by omega) h
theorem file_size {i : Nat} {x : Option Int} (h : Sg.riseB (lay x) = true) : (file i x).size ≤ 5000 := by
  unfold file
  rw [Go.Proofs.Ythdbmgjlegpbaaa.file_size]
  have := body_le (r := (i : Int) + 1) h
  omega
/-- the segments of xs -/
structure Segs (xs : List (Option Int)) (X : List ByteArray) : Prop where
  len : X.length = xs.length
  pts : X.map Qr.ptsOf = xs.map lay
  ok : Qr.okS X = true
  size : ∀ s ∈ X, s.size ≤ 5000
theorem segs_nil : Segs [] [] := ⟨rfl, by simp, by simp [Qr.okS], fun _ h => by cases h⟩
theorem pts_snoc (X : List ByteArray) (s : ByteArray) (l : List Pt.Point) (L : List (List Pt.Point)) {r : Int} (hg : Sg.getR s = (r, l, 0)) (h : X.map Qr.ptsOf = L) : (X ++ [s]).map Qr.ptsOf = L ++ [l] := by
  rw [List.map_append, h, List.map_singleton]
  unfold Qr.ptsOf
  rw [hg]
theorem ok_snoc (X : List ByteArray) (s : ByteArray) (l : List Pt.Point) {r : Int} (hg : Sg.getR s = (r, l, 0)) (h : Qr.okS X = true) : Qr.okS (X ++ [s]) = true := by
  unfold Qr.okS at h ⊢
  rw [List.all_append, h, List.all_cons, List.all_nil, hg]; rfl
theorem segs_snoc {xs : List (Option Int)} {X : List ByteArray} (h : Segs xs X) {i : Nat} {x : Option Int} (hi : i < 4) (hr : Sg.riseB (lay x) = true) : Segs (xs ++ [x]) (X ++ [file i x]) := by
  have hg := file_get hi hr
  have hs := Qn.file_size (i := i) hr
  generalize file i x = f at *
  refine ⟨?_, ?_, ?_, ?_⟩
  · rw [List.length_append, List.length_append, h.len]; rfl
  · rw [List.map_append (f := lay)]
    exact pts_snoc X f (lay x) _ hg h.pts
  · exact ok_snoc X f (lay x) hg h.ok
  · intro s hs'
    rcases List.mem_append.1 hs' with hs' | hs'
    · exact h.size s hs'
    · rw [List.mem_singleton] at hs'; subst hs'; exact hs
theorem segs_last5 {xs : List (Option Int)} {X : List ByteArray} (h : Segs xs X) (o : Option Int) : Qr.lastR X (lay o) ⟨#[115]⟩ 5 = ((lst (xs ++ [o])).getD 0, (lst (xs ++ [o])).isSome, 0) := by
  unfold Qr.lastR
  rw [if_pos h.ok, h.pts]
  have : xs.map lay ++ [lay o] = (xs ++ [o]).map lay := by rw [List.map_append]; rfl
  rw [this, last5]
theorem segs_last6 {xs : List (Option Int)} {X : List ByteArray} (h : Segs xs X) (o : Option Int) : Qr.lastR X (lay o) ⟨#[115]⟩ 6 = (0, false, 0) := by
  unfold Qr.lastR
  rw [if_pos h.ok, h.pts]
  have : xs.map lay ++ [lay o] = (xs ++ [o]).map lay := by rw [List.map_append]; rfl
  rw [this, last6]; rfl
theorem segs_range {xs : List (Option Int)} {X : List ByteArray} (h : Segs xs X) (o : Option Int) : Qm.rangeR X (lay o) ⟨#[115]⟩ 0 9 = (lay (lst (xs ++ [o])), 0) := by
  unfold Qm.rangeR
  rw [if_pos h.ok, h.pts]
  have : xs.map lay ++ [lay o] = (xs ++ [o]).map lay := by rw [List.map_append]; rfl
  rw [this, fold_lay]
theorem lay_len (x : Option Int) : (lay x).length = if x.isSome = true then 1 else 0 := by cases x <;> rfl
end Qn
end Go.Proofs.Ythdbmgjlegpbaaa
