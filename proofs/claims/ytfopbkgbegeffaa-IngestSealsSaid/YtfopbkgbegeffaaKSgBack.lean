/- A segment there and back: plain (chapter 13). No program in sight. -/
import Derived.Test.YtfopbkgbegeffaaKSgRget
namespace Go.Proofs.Ytfopbkgbegeffaa
open Go.RowKit
set_option linter.unusedVariables false

theorem names_len (ps : List Pt.Point) : (Sg.names ps).length = ps.length := by simp [Sg.names]
theorem times_len (ps : List Pt.Point) : (Sg.times ps).length = ps.length := by simp [Sg.times]
theorem vals_len (ps : List Pt.Point) : (Sg.vals ps).length = ps.length := by simp [Sg.vals]
theorem zip_back (ps : List Pt.Point) : Sg.zip ps.length (Sg.names ps) (Sg.times ps) (Sg.vals ps) = ps := by
  apply List.ext_getElem (by simp [Sg.zip])
  intro i h1 h2
  simp [Sg.zip, Sg.names, Sg.times, Sg.vals, List.getD_eq_getElem?_getD, List.getElem?_eq_getElem h2]
theorem sg_names_short {ps : List Pt.Point} (h : Sg.riseB ps = true) : Cl.shortB (Sg.names ps) = true := by
  unfold Cl.shortB; rw [List.all_eq_true]; exact fun x hx => decide_eq_true (names_short (rise_may h) x hx)
theorem sg_times_all {ps : List Pt.Point} (h : Sg.riseB ps = true) : (Sg.times ps).all Pt.smallB = true := List.all_eq_true.2 (times_small (rise_may h))
theorem sg_vals_all {ps : List Pt.Point} (h : Sg.riseB ps = true) : (Sg.vals ps).all Pt.smallB = true := List.all_eq_true.2 (vals_small (rise_may h))
theorem sg_ints_list {xs : List Int} (h : xs.all Pt.smallB = true) : (Cl.intsB xs).data.toList = Cl.intsD 0 xs := by unfold Cl.intsB; rw [if_pos h]
theorem sg_texts_list {xs : List ByteArray} (h : Cl.shortB xs = true) : (Cl.textsB xs).data.toList = Cl.textsL xs := by unfold Cl.textsB; rw [if_pos h]
theorem body_list {r : Int} {ps : List Pt.Point} (h : Sg.riseB ps = true) : (Sg.bodyB r ps).data.toList = [83, 69, 71, 49] ++ (Wr.putL r ++ (Wr.putL (ps.length : Int) ++ (Cl.textsL (Sg.names ps) ++ (Cl.intsD 0 (Sg.times ps) ++ Cl.intsD 0 (Sg.vals ps))))) := by
  unfold Sg.bodyB
  simp only [Wr.append_list, Wr.putB_list, sg_texts_list (sg_names_short h), sg_ints_list (sg_times_all h), sg_ints_list (sg_vals_all h), List.append_assoc]
  rfl
theorem cols_body {r : Int} {ps : List Pt.Point} (hr : 1 ≤ r ∧ r ≤ 512) (hp : Sg.riseB ps = true) : Sg.colsR (Sg.bodyB r ps) = (r, ps, true) := by
  have hl := body_list (r := r) hp
  have hn := rise_len hp
  have hz := zip_back ps
  have hsh := sg_names_short hp
  have hti := sg_times_all hp
  have hva := sg_vals_all hp
  have hN := names_len ps
  have hT := times_len ps
  have hV := vals_len ps
  have hsz : (Sg.bodyB r ps).size = (Sg.bodyB r ps).data.toList.length := (Wr.len_list _).symm
  rw [hl] at hsz
  generalize Sg.bodyB r ps = s at *
  generalize Sg.names ps = N at *
  generalize Sg.times ps = T at *
  generalize Sg.vals ps = V at *
  have hm : s.extract 0 4 = Sg.mark := by
    apply Wr.ext_list
    rw [Lib.extract_data, hl]; rfl
  have g1 : Wr.getN s.data.toList 4 = (r, 4 + ((Wr.putL r).length : Int), 0) := by
    have := Wr.getN_put [83, 69, 71, 49] (Wr.putL (ps.length : Int) ++ (Cl.textsL N ++ (Cl.intsD 0 T ++ Cl.intsD 0 V))) r ((Wr.isNum_iff r).2 (by omega))
    rw [← hl] at this
    simpa using this
  have g2 : Wr.getN s.data.toList (4 + ((Wr.putL r).length : Int)) = ((ps.length : Int), 4 + ((Wr.putL r).length : Int) + ((Wr.putL (ps.length : Int)).length : Int), 0) := by
    have := Wr.getN_put ([83, 69, 71, 49] ++ Wr.putL r) (Cl.textsL N ++ (Cl.intsD 0 T ++ Cl.intsD 0 V)) (ps.length : Int) ((Wr.isNum_iff _).2 (by omega))
    rw [List.append_assoc, ← hl, List.length_append, Int.natCast_add] at this
    exact this
  have g3 := Cl.getTexts_put s N ([83, 69, 71, 49] ++ Wr.putL r ++ Wr.putL (ps.length : Int)) (Cl.intsD 0 T ++ Cl.intsD 0 V) (by rw [hl]; simp) hsh (by omega)
  have g4 := Cl.getInts_put s T ([83, 69, 71, 49] ++ Wr.putL r ++ Wr.putL (ps.length : Int) ++ Cl.textsL N) (Cl.intsD 0 V) (by rw [hl]; simp) hti (by omega)
  have g5 := Cl.getInts_put s V ([83, 69, 71, 49] ++ Wr.putL r ++ Wr.putL (ps.length : Int) ++ Cl.textsL N ++ Cl.intsD 0 T) [] (by rw [hl]; simp) hva (by omega)
  rw [hN] at g3
  rw [hT] at g4
  rw [hV] at g5
  simp only [List.length_append, Int.natCast_add, List.length_cons, List.length_nil] at g3 g4 g5
  have h1 := rd_good g1 hr
  have h2 := rd_good (lo := 0) (hi := 64) g2 (by omega)
  have hend : (0 : Int) + 1 + 1 + 1 + 1 + ((Wr.putL r).length : Int) + ((Wr.putL (ps.length : Int)).length : Int) + ((Cl.textsL N).length : Int) + ((Cl.intsD 0 T).length : Int) + ((Cl.intsD 0 V).length : Int) = (s.size : Int) := by
    rw [hsz]; simp; omega
  rw [cols_yes (n := ps.length) h1 h2 hm g3 g4 (by rw [← hend]; exact g5), hz, hp]
theorem body_size {r : Int} {ps : List Pt.Point} : 4 ≤ (Sg.bodyB r ps).size := by
  unfold Sg.bodyB
  simp only [ByteArray.size_append]
  have : Sg.mark.size = 4 := rfl
  omega
theorem body_le {r : Int} {ps : List Pt.Point} (h : Sg.riseB ps = true) : (Sg.bodyB r ps).size ≤ 4000 := by
  have h1 := rise_len h
  have h2 := textsB_le (names_short (rise_may h)) (by rw [names_len]; omega)
  have h3 := intsB_le (times_small (rise_may h))
  have h4 := intsB_le (vals_small (rise_may h))
  have h5 := Wr.putL_len r
  have h6 := Wr.putL_len (ps.length : Int)
  rw [names_len] at h2
  rw [times_len] at h3
  rw [vals_len] at h4
  unfold Sg.bodyB
  simp only [ByteArray.size_append, Wr.putB_size]
  have : Sg.mark.size = 4 := rfl
  omega
theorem file_size (b : ByteArray) : (Sg.fileB b).size = b.size + 8 := by
  unfold Sg.fileB; rw [ByteArray.size_append, Sg.tailB_size]
theorem file_list (b : ByteArray) : (Sg.fileB b).data.toList = b.data.toList ++ Sg.tailL (Sm.hashL b.data.toList) := by
  unfold Sg.fileB; rw [Wr.append_list]; rfl
theorem file_front (b : ByteArray) : (Sg.fileB b).extract 0 b.size = b := by
  apply Wr.ext_list
  rw [Lib.extract_data, file_list, ← Wr.len_list]; simp
theorem file_back (b : ByteArray) : (Sg.fileB b).extract b.size (b.size + 8) = Sg.tailB (Sm.hashL b.data.toList) := by
  apply Wr.ext_list
  rw [Lib.extract_data, file_list, ← Wr.len_list]
  have h8 := Sg.tailL_length (Sm.hashL b.data.toList)
  show _ = Sg.tailL _
  generalize Sg.tailL (Sm.hashL b.data.toList) = t at *
  simp [← h8]
theorem get_file {r : Int} {ps : List Pt.Point} (hr : 1 ≤ r ∧ r ≤ 512) (hp : Sg.riseB ps = true) : Sg.getR (Sg.fileB (Sg.bodyB r ps)) = (r, ps, 0) := by
  have hc := cols_body hr hp
  rw [get_good (m := (Sg.bodyB r ps).size) (file_size _) body_size (file_front _) (file_back _) rfl (by rw [hc]), hc]
/-- a byte more: the tail does not fit -/
theorem get_cut {s : ByteArray} (h : s.size < 12) : (Sg.getR s).2.2 = 1300 := by rw [get_short h]
theorem take_set_list {l : List UInt8} (n k : Nat) (b : UInt8) : (l.set k b).take n = (l.take n).set k b := by rw [List.take_set]
/-- one byte turned: the sum tells -/
theorem get_turned {b : ByteArray} (hb : 4 ≤ b.size) (k : Nat) (hk : k < (Sg.fileB b).size) (d : UInt8) (hd : d ≠ (Sg.fileB b)[k]) : Sg.getR (turned (Sg.fileB b) k d) = (0, [], 1301) := by
  have hl := file_list b
  have hsz := file_size b
  have hlen := Wr.len_list b
  have h8 := Sg.tailL_length (Sm.hashL b.data.toList)
  have htl : (turned (Sg.fileB b) k d).data.toList = (Sg.fileB b).data.toList.set k d := rfl
  have hts : (turned (Sg.fileB b) k d).size = b.size + 8 := by rw [turned_size, hsz]
  have hlk : k < (Sg.fileB b).data.toList.length := by rw [Wr.len_list]; exact hk
  have hd' : d ≠ (Sg.fileB b).data.toList[k] := by
    have e : (Sg.fileB b)[k] = (Sg.fileB b).data.toList[k] := by simp; rfl
    rw [← e]; exact hd
  have hx : ∀ a c, ((turned (Sg.fileB b) k d).extract a c).data.toList = (((b.data.toList ++ Sg.tailL (Sm.hashL b.data.toList)).set k d).drop a).take (c - a) := fun a c => by rw [Lib.extract_data, htl, hl]
  have hk2 : k < b.data.toList.length + (Sg.tailL (Sm.hashL b.data.toList)).length := by rw [hlen, h8, ← hsz]; exact hk
  have hdk : d ≠ (b.data.toList ++ Sg.tailL (Sm.hashL b.data.toList))[k]'(by rw [List.length_append]; exact hk2) := by
    intro e; apply hd'; rw [e]; simp only [hl]
  clear hd hd' hl
  have hn : b.size = b.data.toList.length := hlen.symm
  have hsub : b.size + 8 - b.size = 8 := by omega
  refine get_tail (m := b.size) hts hb rfl rfl ?_
  intro he
  have he' : Sg.tailL (Sm.hashL ((turned (Sg.fileB b) k d).extract 0 b.size).data.toList) = ((turned (Sg.fileB b) k d).extract b.size (b.size + 8)).data.toList := congrArg (fun x : ByteArray => x.data.toList) he
  rw [hx, hx, hsub, hn, Nat.sub_zero, List.drop_zero] at he'
  generalize hB : b.data.toList = B at *
  by_cases hkB : k < B.length
  · rw [List.set_append, if_pos hkB, List.take_left' (by simp), List.drop_left' (by simp), List.take_of_length_le (by omega)] at he'
    have h3 := Sg.tail_inj (Sm.hashL_lt _) (Sm.hashL_lt _) he'
    rw [List.set_eq_take_append_cons_drop, if_pos hkB] at h3
    have h4 : B = B.take k ++ B[k] :: B.drop (k + 1) := by rw [← List.drop_eq_getElem_cons hkB, List.take_append_drop]
    have hne : d ≠ B[k] := by
      intro e; apply hdk; rw [List.getElem_append_left hkB]; exact e
    exact Sm.hash_turned (B.take k) (B.drop (k + 1)) d B[k] hne (h3.trans (congrArg Sm.hashL h4))
  · rw [List.set_append, if_neg hkB, List.take_left' rfl, List.drop_left' rfl, List.take_of_length_le (by simp; omega)] at he'
    generalize Sg.tailL (Sm.hashL B) = T at *
    have hlt : k - B.length < T.length := by omega
    have h5 : T[k - B.length] = d := by
      have : T[k - B.length]? = (T.set (k - B.length) d)[k - B.length]? := by rw [← he']
      rw [List.getElem?_set_self hlt, List.getElem?_eq_getElem hlt] at this
      exact Option.some.inj this
    apply hdk
    rw [List.getElem_append_right (by omega)]
    exact h5.symm
end Go.Proofs.Ytfopbkgbegeffaa
