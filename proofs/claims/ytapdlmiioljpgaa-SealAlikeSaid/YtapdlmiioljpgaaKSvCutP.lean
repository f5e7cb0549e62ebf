/- Plain facts of a log that is cut (chapter 14). No walk in sight. -/
import Derived.Test.YtapdlmiioljpgaaK14
import Derived.Test.YtapdlmiioljpgaaKIgLaws3
namespace Go.Proofs.Ytapdlmiioljpgaa
open Go.RowKit
set_option linter.unusedVariables false

/-- the same entry, applied to a machine with more seals ahead -/
theorem Sv.apply_pre (m : Ig.M) (s0 : List (Int × ByteArray)) (v c s n : Int) (bs : List Pt.Point) : (Ig.applyM (Ig.withS m (s0 ++ m.seals)) v c s n bs).1 = Ig.withS (Ig.applyM m v c s n bs).1 (s0 ++ (Ig.applyM m v c s n bs).1.seals) := by
  unfold Ig.applyM
  have hat : (Ig.withS m (s0 ++ m.seals)).at_ = m.at_ := rfl
  rw [hat]
  split
  · rfl
  · have hu : Ig.up (Ig.withS m (s0 ++ m.seals)) = Ig.withS (Ig.up m) (s0 ++ m.seals) := rfl
    obtain ⟨h1, h2, h3⟩ := Ig.take_withS (Ig.up m) (s0 ++ m.seals) v c s n bs
    rw [hu, h1]
    simp only
    have h2' : (Ig.takeM (Ig.up m) v c s n bs).1.seals = m.seals := h2
    split
    · show Ig.sealM _ = Ig.withS (Ig.sealM _) _
      unfold Ig.sealM Ig.withS Ig.segB
      simp only [h2', List.append_assoc]
    · show Ig.withS _ _ = Ig.withS _ _
      simp only [h2']
theorem Sv.run_pre (m : Ig.M) (s0 : List (Int × ByteArray)) (es : List Ent) : Sv.runM (Ig.withS m (s0 ++ m.seals)) es = Ig.withS (Sv.runM m es) (s0 ++ (Sv.runM m es).seals) := by
  induction es generalizing m with
  | nil => rfl
  | cons q es ih =>
    show Sv.runM (Ig.applyM (Ig.withS m (s0 ++ m.seals)) _ _ _ _ _).1 es = Ig.withS (Sv.runM (Ig.applyM m _ _ _ _ _).1 es) _
    rw [Sv.apply_pre, ih]
    rfl
theorem Sv.run_append (m : Ig.M) (a b : List Ent) : Sv.runM m (a ++ b) = Sv.runM (Sv.runM m a) b := by unfold Sv.runM; rw [List.foldl_append]
theorem Sv.out_pre {m : Ig.M} (s0 : List (Int × ByteArray)) (h : m.seals ≠ []) : Sv.segOut (Ig.withS m (s0 ++ m.seals)) = Sv.segOut m := by
  show ((s0 ++ m.seals).getLastD (0, ⟨#[]⟩)).2 = (m.seals.getLastD (0, ⟨#[]⟩)).2
  rw [List.getLastD_eq_getLast?, List.getLastD_eq_getLast?, List.getLast?_append]
  obtain ⟨x, hx⟩ : ∃ x, m.seals.getLast? = some x := by
    cases hs : m.seals.getLast? with
    | none => rw [List.getLast?_eq_none_iff] at hs; exact absurd hs h
    | some x => exact ⟨x, rfl⟩
  rw [hx]; rfl
theorem Sv.run_fit {m : Ig.M} (hI : Ig.Inv m) (h : Ig.Fit m) (es : List Ent) : Ig.Fit (Sv.runM m es) := by
  induction es generalizing m with
  | nil => exact h
  | cons q es ih => exact ih (Ig.inv_apply hI _ _ _ _ _) (Ig.fit_apply hI h _ _ _ _ _)
theorem Sv.fit0 : Ig.Fit Ig.m0 := by show Ig.m0.rows.all Se.fitsB = true; rfl
/-- behind a multiple of eight entries the buffer is empty -/
theorem Sv.run_open {es : List Ent} (h : es.length ≤ 4096) (h8 : es.length % 8 = 0) : (Sv.runM Ig.m0 es).opn = [] := by
  by_cases hne : es = []
  · subst hne; rfl
  · obtain ⟨l, q, rfl⟩ : ∃ l q, es = l ++ [q] := ⟨es.dropLast, es.getLast hne, (List.dropLast_concat_getLast hne).symm⟩
    rw [List.length_append, List.length_singleton] at h h8
    have h0 : Ig.m0.at_ = 0 := rfl
    have ha := Sv.run_at (m := Ig.m0) l (by rw [h0]; omega)
    rw [h0] at ha
    rw [Sv.run_snoc]
    unfold Ig.applyM
    rw [if_neg (by omega), if_pos (by omega)]
    rfl
/-- the snapshot behind c entries -/
def Sv.snapC (L : List Ent) (c : Nat) : ByteArray := if c = 0 then ⟨#[]⟩ else ⟨(Ig.snapL (Sv.runM Ig.m0 (L.take c))).toArray⟩
theorem Sv.run_len {L : List Ent} {c : Nat} (hc : c ≤ L.length) (hl : L.length ≤ 4096) : (Sv.runM Ig.m0 (L.take c)).at_ = (c : Int) := by
  have h0 : Ig.m0.at_ = 0 := rfl
  have hlen : (L.take c).length = c := by rw [List.length_take]; omega
  rw [Sv.run_at (m := Ig.m0) _ (by rw [h0, hlen]; omega), h0, hlen]; omega
theorem Sv.start_cut {L : List Ent} {c : Nat} (hc : c ≤ L.length) (hl : L.length ≤ 64) (h8 : c % 8 = 0) : ∃ m, Sv.startR (c : Int) (Sv.snapC L c) = some m ∧ ∃ S, Sv.runM Ig.m0 (L.take c) = Ig.withS m (S ++ m.seals) := by
  by_cases h0 : c = 0
  · subst h0
    exact ⟨Ig.m0, Sv.start_zero _, [], rfl⟩
  · have hI := Sv.run_inv Ig.inv0 (L.take c)
    have ha := Sv.run_len hc (by omega)
    have ho : (Sv.runM Ig.m0 (L.take c)).opn = [] := Sv.run_open (by rw [List.length_take]; omega) (by rw [List.length_take, Nat.min_eq_left hc]; exact h8)
    refine ⟨⟨(Sv.runM Ig.m0 (L.take c)).at_, (Sv.runM Ig.m0 (L.take c)).rows, [], (Sv.runM Ig.m0 (L.take c)).digs, []⟩, ?_, (Sv.runM Ig.m0 (L.take c)).seals, ?_⟩
    · unfold Sv.snapC
      rw [if_neg h0, Sv.start_some (by omega) (Ig.load_snap hI (Sv.run_fit Ig.inv0 Sv.fit0 _) (by rw [ha]; omega)), if_pos ha]
    · generalize Sv.runM Ig.m0 (L.take c) = m at *
      obtain ⟨a, r, o, d, s⟩ := m
      simp only at ho
      subst ho
      unfold Ig.withS
      simp
theorem Sv.snapC_size {L : List Ent} {c : Nat} (hc : c ≤ L.length) (hl : L.length ≤ 64) : (Sv.snapC L c).size ≤ 65536 := by
  unfold Sv.snapC
  split
  · decide
  · have h1 := snapL_len (Sv.runM Ig.m0 (L.take c))
    have h2 := (Sv.run_inv Ig.inv0 (L.take c)).dl
    rw [Sv.run_len hc (by omega)] at h2
    rw [← Wr.len_list]
    show (Ig.snapL _).length ≤ _
    omega
theorem Sv.log_cut {L : List Ent} {c : Nat} (hc : c ≤ L.length) (hl : L.length ≤ 64) (ha : L.all Sv.entB = true) : Sv.logB (c : Int) (Sv.snapC L c) (L.drop c) = true := by
  refine Sv.log_yes ?_ ?_
  · have hz := Sv.snapC_size hc hl
    unfold Sv.headB
    rw [List.length_drop]
    have h1 : decide ((0 : Int) ≤ (c : Int)) = true := decide_eq_true (by omega)
    have h2 : decide ((c : Int) ≤ 2147483647) = true := decide_eq_true (by omega)
    have h3 : decide (L.length - c ≤ 4096) = true := decide_eq_true (by omega)
    rw [h1, h2, decide_eq_true hz, h3]
    by_cases h0 : c = 0
    · subst h0; rfl
    · rw [decide_eq_false (by omega : ¬ (c : Int) = 0)]; rfl
  · rw [List.all_eq_true] at ha ⊢
    exact fun q hq => ha q (List.mem_of_mem_drop hq)
theorem Sv.log_full {L : List Ent} (hl : L.length ≤ 64) (ha : L.all Sv.entB = true) : Sv.logB 0 ⟨#[]⟩ L = true := by
  have := Sv.log_cut (L := L) (c := 0) (Nat.zero_le _) hl ha
  exact this
theorem Sv.cut_full {L : List Ent} {r : Nat} (hl : L.length ≤ 64) (ha : L.all Sv.entB = true) (h1 : 1 ≤ r) (h2 : r * 8 ≤ L.length) : (Sv.segR 0 ⟨#[]⟩ L (r : Int)).2 = 0 := by
  have hr : Sv.rangeB 0 L.length (r : Int) = true := by
    unfold Sv.rangeB
    rw [decide_eq_true (by omega), decide_eq_true (by omega), decide_eq_true (by omega), decide_eq_true (by omega)]; rfl
  rw [Sv.seg_zero (Sv.log_full hl ha) hr]
theorem Sv.cut_old {L : List Ent} {c r : Nat} (hc : c ≤ L.length) (hl : L.length ≤ 64) (h8 : c % 8 = 0) (ha : L.all Sv.entB = true) (h : r * 8 ≤ c) : (Sv.segR (c : Int) (Sv.snapC L c) (L.drop c) (r : Int)).2 = 1400 := by
  obtain ⟨m, hm, _⟩ := Sv.start_cut hc hl h8
  rw [Sv.seg_out ⟨Sv.log_cut hc hl ha, by omega⟩ hm]
  unfold Sv.rangeB
  by_cases h1 : 1 ≤ (r : Int)
  · rw [decide_eq_false (by omega : ¬ (c : Int) ≤ ((r : Int) - 1) * 8)]; simp
  · rw [decide_eq_false h1]; simp
theorem Sv.cut_new {L : List Ent} {c r : Nat} (hc : c ≤ L.length) (hl : L.length ≤ 64) (h8 : c % 8 = 0) (ha : L.all Sv.entB = true) (h : ¬ r * 8 ≤ c) (h2 : r * 8 ≤ L.length) : (Sv.segR (c : Int) (Sv.snapC L c) (L.drop c) (r : Int)) = ((Sv.segR 0 ⟨#[]⟩ L (r : Int)).1, 0) := by
  obtain ⟨m, hm, S, hS⟩ := Sv.start_cut hc hl h8
  have hr : Sv.rangeB 0 L.length (r : Int) = true := by
    unfold Sv.rangeB
    rw [decide_eq_true (by omega), decide_eq_true (by omega), decide_eq_true (by omega), decide_eq_true (by omega)]; rfl
  have hr2 : Sv.rangeB (c : Int) (L.drop c).length (r : Int) = true := by
    rw [List.length_drop]
    unfold Sv.rangeB
    rw [decide_eq_true (by omega), decide_eq_true (by omega), decide_eq_true (by omega), decide_eq_true (by omega)]; rfl
  rw [Sv.seg_zero (Sv.log_full hl ha) hr, Sv.seg_in ⟨Sv.log_cut hc hl ha, by omega⟩ hm hr2]
  have e1 : ((r : Int) * 8 - 0).toNat = c + (r * 8 - c) := by omega
  have e2 : ((r : Int) * 8 - (c : Int)).toNat = r * 8 - c := by omega
  have e3 : L.take (c + (r * 8 - c)) = L.take c ++ (L.drop c).take (r * 8 - c) := by rw [List.take_add]
  obtain ⟨hI, hat⟩ := Sv.start_inv hm
  have hlen : ((L.drop c).take (r * 8 - c)).length = r * 8 - c := by rw [List.length_take, List.length_drop]; omega
  have hne : (Sv.runM m ((L.drop c).take (r * 8 - c))).seals ≠ [] := Sv.run_seal (fun h => by rw [h] at hlen; simp at hlen; omega) (by rw [hat, hlen]; omega) (by rw [hat, hlen]; omega)
  rw [e1, e2, e3, Sv.run_append, hS, Sv.run_pre, Sv.out_pre _ hne]
end Go.Proofs.Ytapdlmiioljpgaa
