/- Columns there and back: plain (chapter 12). No program in sight. -/
import Derived.Test.YthdbmgjlegpbaaaClPlain
namespace Go.Proofs.Ythdbmgjlegpbaaa.Cl
open Go.Proofs.Ythdbmgjlegpbaaa
set_option linter.unusedVariables false

theorem idx_mem {ws : List ByteArray} {x : ByteArray} : idx ws x < ws.length ↔ x ∈ ws := by
  unfold idx
  rw [List.findIdx_lt_length]
  simp
theorem tx_prefix (ws xs : List ByteArray) : ∃ r, (txGo ws xs).1 = ws ++ r := by
  induction xs generalizing ws with
  | nil => exact ⟨[], by simp [txGo]⟩
  | cons x xs ih =>
    rw [txGo]
    split
    · obtain ⟨r, hr⟩ := ih ws; exact ⟨r, hr⟩
    · obtain ⟨r, hr⟩ := ih (ws ++ [x]); exact ⟨[x] ++ r, by simp [hr]⟩
theorem tx_nodup (ws xs : List ByteArray) (h : ws.Nodup) : (txGo ws xs).1.Nodup := by
  induction xs generalizing ws with
  | nil => exact h
  | cons x xs ih =>
    rw [txGo]
    split
    · exact ih ws h
    · rename_i hn
      rw [idx_mem] at hn
      exact ih _ (by rw [List.nodup_append]; exact ⟨h, by simp, fun a ha b hb => by simp at hb; subst hb; exact fun e => hn (e ▸ ha)⟩)
theorem tx_short (ws xs : List ByteArray) (h : ∀ w ∈ ws, w.size ≤ 12) (hx : ∀ x ∈ xs, x.size ≤ 12) : ∀ w ∈ (txGo ws xs).1, w.size ≤ 12 := by
  induction xs generalizing ws with
  | nil => exact h
  | cons x xs ih =>
    rw [txGo]
    split
    · exact ih ws h fun y hy => hx y (by simp [hy])
    · exact ih _ (fun w hw => by
        rcases List.mem_append.1 hw with hw | hw
        · exact h w hw
        · simp at hw; subst hw; exact hx _ (by simp)) fun y hy => hx y (by simp [hy])
theorem tx_len (ws xs : List ByteArray) : (txGo ws xs).1.length ≤ ws.length + xs.length ∧ (txGo ws xs).2.length = xs.length := by
  induction xs generalizing ws with
  | nil => simp [txGo]
  | cons x xs ih =>
    rw [txGo]
    split
    · have := ih ws; simp; omega
    · have := ih (ws ++ [x]); simp at this ⊢; omega
theorem tx_places (ws xs : List ByteArray) : ∀ k ∈ (txGo ws xs).2, k < (txGo ws xs).1.length := by
  induction xs generalizing ws with
  | nil => simp [txGo]
  | cons x xs ih =>
    rw [txGo]
    split
    · rename_i h
      intro k hk
      rcases List.mem_cons.1 hk with rfl | hk
      · obtain ⟨r, hr⟩ := tx_prefix ws xs
        simp only [hr, List.length_append]; omega
      · exact ih ws k hk
    · intro k hk
      rcases List.mem_cons.1 hk with rfl | hk
      · obtain ⟨r, hr⟩ := tx_prefix (ws ++ [x]) xs
        simp only [hr, List.length_append, List.length_cons, List.length_nil]; omega
      · exact ih _ k hk
theorem rdWords_put (s : ByteArray) (ws ws0 : List ByteArray) (pre post : List UInt8) (hl : s.data.toList = pre ++ (wordsL ws ++ post)) (hs : ∀ w ∈ ws, w.size ≤ 12) (hn : (ws0 ++ ws).Nodup) :
    rdWords s ws.length ws0 (pre.length : Int) = some (ws0 ++ ws, (pre.length : Int) + ((wordsL ws).length : Int)) := by
  induction ws generalizing ws0 pre with
  | nil => simp [rdWords, wordsL]
  | cons w ws ih =>
    have hw : wordsL (w :: ws) = (Wr.textB w).data.toList ++ wordsL ws := by simp [wordsL]
    rw [hw, List.append_assoc] at hl
    have hg := Pt.getT_at_text s pre (wordsL ws ++ post) w 12 hl (by have := hs w (by simp); omega) (by have := hs w (by simp); omega)
    have hni : ¬ idx ws0 w < ws0.length := by
      rw [idx_mem]
      intro hm
      rw [List.nodup_append] at hn
      exact hn.2.2 w hm w (by simp) rfl
    have h2 := ih (ws0 ++ [w]) (pre ++ (Wr.textB w).data.toList) (by rw [hl]; simp) (fun x hx => hs x (by simp [hx])) (by simpa using hn)
    rw [List.length_append, Int.natCast_add] at h2
    rw [List.length_cons, rdWords, hg, if_pos ⟨rfl, hni⟩, h2, hw]
    simp only [List.append_assoc, List.cons_append, List.nil_append, List.length_append, Int.natCast_add, Int.add_assoc]
theorem rdPlaces_put (l : List UInt8) (xs ws : List ByteArray) (pre post : List UInt8) (hl : l = pre ++ (placesL (txGo ws xs).2 ++ post)) (hb : (txGo ws xs).1.length ≤ 9007199254740992) :
    rdPlaces l (txGo ws xs).1 xs.length ws.length (pre.length : Int) = some (xs, (txGo ws xs).1.length, (pre.length : Int) + ((placesL (txGo ws xs).2).length : Int)) := by
  induction xs generalizing ws pre with
  | nil => simp [rdPlaces, txGo, placesL]
  | cons x xs ih =>
    rw [txGo] at hl hb ⊢
    by_cases h : idx ws x < ws.length
    · rw [if_pos h] at hl hb ⊢
      simp only at hl hb ⊢
      obtain ⟨r, hr⟩ := tx_prefix ws xs
      have hp : placesL (idx ws x :: (txGo ws xs).2) = Wr.putL (idx ws x : Int) ++ placesL (txGo ws xs).2 := by simp [placesL]
      rw [hp, List.append_assoc] at hl
      have hW : ws.length ≤ (txGo ws xs).1.length := by rw [hr, List.length_append]; omega
      have hg : Wr.getN l (pre.length : Int) = ((idx ws x : Int), (pre.length : Int) + ((Wr.putL (idx ws x : Int)).length : Int), 0) := by
        rw [hl]; exact Wr.getN_put _ _ _ ((Wr.isNum_iff _).2 (by omega))
      have h2 := ih ws (pre ++ Wr.putL (idx ws x : Int)) (by rw [hl]; simp) hb
      rw [List.length_append, Int.natCast_add] at h2
      rw [List.length_cons, rdPlaces, hg, if_pos ⟨rfl, by simp, by simp; omega, by simp; omega⟩]
      simp only [Int.toNat_natCast]
      rw [if_neg (by omega), h2, hp]
      have hx : (txGo ws xs).1.getD (idx ws x) ⟨#[]⟩ = x := by
        rw [hr, List.getD_eq_getElem?_getD, List.getElem?_append_left h, List.getElem?_eq_getElem h, idx_lt h]; rfl
      rw [hx]
      simp only [Option.map_some, List.length_append, Int.natCast_add, Int.add_assoc]
    · rw [if_neg h] at hl hb ⊢
      simp only at hl hb ⊢
      obtain ⟨r, hr⟩ := tx_prefix (ws ++ [x]) xs
      have hp : placesL (ws.length :: (txGo (ws ++ [x]) xs).2) = Wr.putL (ws.length : Int) ++ placesL (txGo (ws ++ [x]) xs).2 := by simp [placesL]
      rw [hp, List.append_assoc] at hl
      have hW : ws.length < (txGo (ws ++ [x]) xs).1.length := by rw [hr]; simp
      have hg : Wr.getN l (pre.length : Int) = ((ws.length : Int), (pre.length : Int) + ((Wr.putL (ws.length : Int)).length : Int), 0) := by
        rw [hl]; exact Wr.getN_put _ _ _ ((Wr.isNum_iff _).2 (by omega))
      have h2 := ih (ws ++ [x]) (pre ++ Wr.putL (ws.length : Int)) (by rw [hl]; simp) hb
      rw [show (ws ++ [x]).length = ws.length + 1 from by simp, List.length_append, Int.natCast_add] at h2
      rw [List.length_cons, rdPlaces, hg, if_pos ⟨rfl, by simp, by simp; omega, by simp⟩]
      simp only [Int.toNat_natCast, if_true]
      rw [h2, hp]
      have hx : (txGo (ws ++ [x]) xs).1.getD ws.length ⟨#[]⟩ = x := by
        rw [hr, List.getD_eq_getElem?_getD, List.append_assoc, List.getElem?_append_right (Nat.le_refl _)]; simp
      rw [hx]
      simp only [Option.map_some, List.length_append, Int.natCast_add, Int.add_assoc]
theorem short_all {xs : List ByteArray} (h : shortB xs = true) : ∀ x ∈ xs, x.size ≤ 12 := by
  unfold shortB at h; simpa using h
theorem getTexts_put (s : ByteArray) (xs : List ByteArray) (pre post : List UInt8) (hl : s.data.toList = pre ++ (textsL xs ++ post)) (hs : shortB xs = true) (hn : xs.length ≤ 65536) :
    getTexts s (pre.length : Int) (xs.length : Int) = (xs, (pre.length : Int) + ((textsL xs).length : Int), 0) := by
  have hlen := tx_len [] xs
  simp only [List.length_nil, Nat.zero_add] at hlen
  have hsz : s.size = pre.length + ((textsL xs).length + post.length) := by rw [← Wr.len_list, hl]; simp
  have ht : textsL xs = Wr.putL ((txGo [] xs).1.length : Int) ++ (wordsL (txGo [] xs).1 ++ placesL (txGo [] xs).2) := by unfold textsL; simp
  have hg : Wr.getN s.data.toList (pre.length : Int) = (((txGo [] xs).1.length : Int), (pre.length : Int) + ((Wr.putL ((txGo [] xs).1.length : Int)).length : Int), 0) := by
    rw [hl, ht, List.append_assoc]; exact Wr.getN_put _ _ _ ((Wr.isNum_iff _).2 (by omega))
  have h1 := rdWords_put s (txGo [] xs).1 [] (pre ++ Wr.putL ((txGo [] xs).1.length : Int)) (placesL (txGo [] xs).2 ++ post) (by rw [hl, ht]; simp) (tx_short [] xs (by simp) (short_all hs)) (by simpa using tx_nodup [] xs (by simp))
  have h2 := rdPlaces_put s.data.toList xs [] (pre ++ Wr.putL ((txGo [] xs).1.length : Int) ++ wordsL (txGo [] xs).1) post (by rw [hl, ht]; simp) (by omega)
  rw [List.length_append, Int.natCast_add] at h1
  rw [List.length_append, List.length_append, Int.natCast_add, Int.natCast_add] at h2
  unfold getTexts
  rw [if_neg (by omega), hg]
  simp only [Int.toNat_natCast]
  rw [if_neg (by simp; omega), h1]
  simp only [List.nil_append]
  rw [show ([] : List ByteArray).length = 0 from rfl] at h2
  rw [h2]
  simp only [if_true, ht, List.length_append, Int.natCast_add, Int.add_assoc]
theorem getInts_put (s : ByteArray) (xs : List Int) (pre post : List UInt8) (hl : s.data.toList = pre ++ (intsD 0 xs ++ post)) (h : xs.all Pt.smallB = true) (hn : xs.length ≤ 65536) :
    getInts s (pre.length : Int) (xs.length : Int) = (xs, (pre.length : Int) + ((intsD 0 xs).length : Int), 0) := by
  have hsz : s.size = pre.length + ((intsD 0 xs).length + post.length) := by rw [← Wr.len_list, hl]; simp
  unfold getInts
  rw [if_neg (by omega), Int.toNat_natCast, goInts_put _ xs pre post 0 hl (by decide) h]
end Go.Proofs.Ythdbmgjlegpbaaa.Cl
