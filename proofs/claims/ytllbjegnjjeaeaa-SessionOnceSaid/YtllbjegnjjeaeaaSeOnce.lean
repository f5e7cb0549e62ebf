/- Each request has an effect once at most: plain (chapter 10). No program in sight. -/
import Derived.Test.YtllbjegnjjeaeaaSePlain2
namespace Go.Proofs.Ytllbjegnjjeaeaa.Se
open Go.Proofs.Ytllbjegnjjeaeaa
set_option linter.unusedVariables false

structure OnceI (t own : Int) (rows : List Row) (done : List Int) : Prop where
  may : mayB rows = true
  le : ∀ r ∈ rows, r.1 ≤ t
  pos : 0 ≤ own ∧ own ≤ t
  zero : own = 0 → t = 0 ∧ rows = [] ∧ ∀ k : Nat, done.getD k 0 = 0
  tied : own ≠ 0 → ∀ r ∈ rows, r.1 = own → 0 ≤ r.2.1 ∧ (0 < r.2.1 → done.getD r.2.1.toNat 0 = r.2.2.1 ∧ 0 < r.2.2.1) ∧ ∀ k : Nat, r.2.1 < (k : Int) → done.getD k 0 = 0
theorem once_start : OnceI 0 0 [] (List.replicate 64 0) :=
  ⟨by decide +kernel, by simp, by omega, fun _ => ⟨rfl, rfl, fun k => by rw [List.getD_eq_getElem?_getD, List.getElem?_replicate]; split <;> rfl⟩, fun h => absurd rfl h⟩
theorem none_of_le {rows : List Row} {t : Int} (h : ∀ r ∈ rows, r.1 ≤ t) : ¬ idx rows (t + 1) < rows.length := by
  unfold idx
  rw [List.findIdx_lt_length]
  rintro ⟨r, hr, e⟩
  have := h r hr
  have := of_decide_eq_true e
  omega
theorem once_open {t own : Int} {rows : List Row} {done : List Int} (h : OnceI t own rows done) :
    applyR rows 0 0 (t + 1) = (openR rows (t + 1), t + 1, true) ∧ OnceI (t + 1) (if own = 0 then t + 1 else own) (openR rows (t + 1)) done := by
  have hn := none_of_le h.le
  have hp := h.pos
  refine ⟨?_, open_may h.may hn, fun r hr => ?_, ?_, ?_, ?_⟩
  · unfold applyR
    rw [if_neg, if_pos rfl]
    rintro (e | e | ⟨_, e⟩)
    · rw [h.may] at e; cases e
    · omega
    · exact hn e
  · rcases open_mem hr with hr | rfl
    · have := h.le r hr; omega
    · exact Int.le_refl _
  · split <;> omega
  · intro e
    split at e <;> omega
  · intro _ r hr e
    by_cases ho : own = 0
    · rw [if_pos ho] at e
      obtain ⟨h1, h2, h3⟩ := h.zero ho
      rcases open_mem hr with hr | rfl
      · rw [h2] at hr; simp at hr
      · exact ⟨Int.le_refl _, fun h => absurd h (by show ¬ (0 : Int) < 0; omega), fun k _ => h3 k⟩
    · rw [if_neg ho] at e
      rcases open_mem hr with hr | rfl
      · exact h.tied ho r hr e
      · have : t + 1 = own := e
        omega
theorem once_entry {t own : Int} {rows : List Row} {done : List Int} (h : OnceI t own rows done) (ho : own ≠ 0) (k : Nat) (hk : 1 ≤ k) (hkd : k < done.length) :
    ((applyR rows own (k : Int) (t + 1)).2.2 = true → done.getD k 0 = 0 ∧ (applyR rows own (k : Int) (t + 1)).2.1 = t + 1 ∧ OnceI (t + 1) own (applyR rows own (k : Int) (t + 1)).1 (done.set k (t + 1))) ∧
    ((applyR rows own (k : Int) (t + 1)).2.2 = false → (0 < (applyR rows own (k : Int) (t + 1)).2.1 → (applyR rows own (k : Int) (t + 1)).2.1 = done.getD k 0) ∧ OnceI (t + 1) own (applyR rows own (k : Int) (t + 1)).1 done) := by
  have hp := h.pos
  have keep : ∀ d, OnceI t own rows d → OnceI (t + 1) own rows d := fun d hd => ⟨hd.may, fun r hr => by have := hd.le r hr; omega, by omega, fun e => absurd e ho, hd.tied⟩
  have hnn : ¬ (mayB rows = false ∨ t + 1 < 1 ∨ (own = 0 ∧ idx rows (t + 1) < rows.length)) := by
    rintro (e | e | ⟨e, _⟩)
    · rw [h.may] at e; cases e
    · omega
    · exact ho e
  unfold applyR
  rw [if_neg hnn, if_neg ho]
  by_cases h1 : ¬ idx rows own < rows.length ∨ (k : Int) < (at_ rows own).2.1
  · rw [if_pos h1]
    exact ⟨fun e => (by cases e), fun _ => ⟨fun e => absurd e (by show ¬ (0 : Int) < -1; omega), keep _ h⟩⟩
  · rw [if_neg h1]
    have hi : idx rows own < rows.length := by
      by_cases hi : idx rows own < rows.length
      · exact hi
      · exact absurd (.inl hi) h1
    have hge : ¬ (k : Int) < (at_ rows own).2.1 := fun e => h1 (.inr e)
    have hat := at_lt hi
    have hse := idx_lt hi
    have hmem : at_ rows own ∈ rows := by rw [hat]; exact List.getElem_mem _
    have hown : (at_ rows own).1 = own := by rw [hat]; exact hse
    obtain ⟨t1, t2, t3⟩ := h.tied ho _ hmem hown
    by_cases h2 : (k : Int) = (at_ rows own).2.1
    · rw [if_pos h2]
      refine ⟨fun e => (by cases e), fun _ => ⟨fun _ => ?_, keep _ h⟩⟩
      have := (t2 (by omega)).1
      rw [← h2, Int.toNat_natCast] at this
      exact this.symm
    · rw [if_neg h2]
      refine ⟨fun _ => ⟨t3 k (by omega), rfl, ?_⟩, fun e => (by cases e)⟩
      refine ⟨set_may h.may hi, fun r hr => ?_, by omega, fun e => absurd e ho, fun _ r hr e => ?_⟩
      · rcases List.mem_or_eq_of_mem_set hr with hr | rfl
        · have := h.le r hr; omega
        · show own ≤ t + 1; omega
      · obtain ⟨j, hj, rfl⟩ := List.getElem_of_mem hr
        rw [List.length_set] at hj
        rw [List.getElem_set] at e ⊢
        by_cases ej : idx rows own = j
        · rw [if_pos ej]
          refine ⟨by show (0 : Int) ≤ (k : Int); omega, fun _ => ⟨?_, by show 0 < t + 1; omega⟩, fun i hik => ?_⟩
          · show (done.set k (t + 1)).getD ((k : Int)).toNat 0 = t + 1
            rw [Int.toNat_natCast, List.getD_eq_getElem?_getD, List.getElem?_set_self hkd]; rfl
          · have hik' : (k : Int) < (i : Int) := hik
            have hz := t3 i (by omega)
            rw [List.getD_eq_getElem?_getD, List.getElem?_set_ne (by omega), ← List.getD_eq_getElem?_getD]; exact hz
        · rw [if_neg ej] at e
          exfalso
          rcases Nat.lt_or_gt_of_ne ej with hlt | hlt
          · have := may_lt h.may _ _ hlt hj
            omega
          · have := may_lt h.may _ _ hlt hi
            omega
end Go.Proofs.Ytllbjegnjjeaeaa.Se
