/- Joined texts: SgBack, IgSnapP, IgTwo, SvText, SvPts, SvAwake. -/
import Derived.Test.YtapdlmiioljpgaaK1
import Derived.Test.YtapdlmiioljpgaaK11
import Derived.Test.YtapdlmiioljpgaaK12
import Derived.Test.YtapdlmiioljpgaaK13
import Derived.Test.YtapdlmiioljpgaaK2
import Derived.Test.YtapdlmiioljpgaaK3
import Derived.Test.YtapdlmiioljpgaaK5
import Derived.Test.YtapdlmiioljpgaaK6
import Derived.Test.YtapdlmiioljpgaaK9
import Derived.WalkMore
/- A segment there and back: plain (chapter 13). No program in sight. -/
namespace Go.Proofs.Ytapdlmiioljpgaa
open Go.RowKit
set_option linter.unusedVariables false

theorem names_len (ps : List Pt.Point) : (Sg.names ps).length = ps.length := by simp [Sg.names]
theorem times_len (ps : List Pt.Point) : (Sg.times ps).length = ps.length := by simp [Sg.times]
theorem vals_len (ps : List Pt.Point) : (Sg.vals ps).length = ps.length := by simp [Sg.vals]
theorem zip_back (ps : List Pt.Point) : Sg.zip ps.length (Sg.names ps) (Sg.times ps) (Sg.vals ps) = ps := by
  apply List.ext_getElem (by simp [Sg.zip])
  intro i h1 h2
  simp [Sg.zip, Sg.names, Sg.times, Sg.vals, List.getD_eq_getElem?_getD, List.getElem?_eq_getElem h2]
theorem sg_names_short {ps : List Pt.Point} (h : Sg.riseB ps = true) : Cl.shortB (Sg.names ps) = true := by
  unfold Cl.shortB; rw [List.all_eq_true]; exact fun x hx => decide_eq_true (names_short (rise_may h) x hx)
theorem sg_times_all {ps : List Pt.Point} (h : Sg.riseB ps = true) : (Sg.times ps).all Pt.smallB = true := List.all_eq_true.2 (times_small (rise_may h))
theorem sg_vals_all {ps : List Pt.Point} (h : Sg.riseB ps = true) : (Sg.vals ps).all Pt.smallB = true := List.all_eq_true.2 (vals_small (rise_may h))
theorem sg_ints_list {xs : List Int} (h : xs.all Pt.smallB = true) : (Cl.intsB xs).data.toList = Cl.intsD 0 xs := by unfold Cl.intsB; rw [if_pos h]
theorem sg_texts_list {xs : List ByteArray} (h : Cl.shortB xs = true) : (Cl.textsB xs).data.toList = Cl.textsL xs := by unfold Cl.textsB; rw [if_pos h]
theorem body_list {r : Int} {ps : List Pt.Point} (h : Sg.riseB ps = true) : (Sg.bodyB r ps).data.toList = [83, 69, 71, 49] ++ (Wr.putL r ++ (Wr.putL (ps.length : Int) ++ (Cl.textsL (Sg.names ps) ++ (Cl.intsD 0 (Sg.times ps) ++ Cl.intsD 0 (Sg.vals ps))))) := by
  unfold Sg.bodyB
  simp only [Wr.append_list, Wr.putB_list, sg_texts_list (sg_names_short h), sg_ints_list (sg_times_all h), sg_ints_list (sg_vals_all h), List.append_assoc]
  rfl
theorem cols_body {r : Int} {ps : List Pt.Point} (hr : 1 ≤ r ∧ r ≤ 512) (hp : Sg.riseB ps = true) : Sg.colsR (Sg.bodyB r ps) = (r, ps, true) := by
  have hl := body_list (r := r) hp
  have hn := rise_len hp
  have hz := zip_back ps
  have hsh := sg_names_short hp
  have hti := sg_times_all hp
  have hva := sg_vals_all hp
  have hN := names_len ps
  have hT := times_len ps
  have hV := vals_len ps
  have hsz : (Sg.bodyB r ps).size = (Sg.bodyB r ps).data.toList.length := (Wr.len_list _).symm
  rw [hl] at hsz
  generalize Sg.bodyB r ps = s at *
  generalize Sg.names ps = N at *
  generalize Sg.times ps = T at *
  generalize Sg.vals ps = V at *
  have hm : s.extract 0 4 = Sg.mark := by
    apply Wr.ext_list
    rw [Lib.extract_data, hl]; rfl
  have g1 : Wr.getN s.data.toList 4 = (r, 4 + ((Wr.putL r).length : Int), 0) := by
    have := Wr.getN_put [83, 69, 71, 49] (Wr.putL (ps.length : Int) ++ (Cl.textsL N ++ (Cl.intsD 0 T ++ Cl.intsD 0 V))) r ((Wr.isNum_iff r).2 (by omega))
    rw [← hl] at this
    simpa using this
  have g2 : Wr.getN s.data.toList (4 + ((Wr.putL r).length : Int)) = ((ps.length : Int), 4 + ((Wr.putL r).length : Int) + ((Wr.putL (ps.length : Int)).length : Int), 0) := by
    have := Wr.getN_put ([83, 69, 71, 49] ++ Wr.putL r) (Cl.textsL N ++ (Cl.intsD 0 T ++ Cl.intsD 0 V)) (ps.length : Int) ((Wr.isNum_iff _).2 (by omega))
    rw [List.append_assoc, ← hl, List.length_append, Int.natCast_add] at this
    exact this
  have g3 := Cl.getTexts_put s N ([83, 69, 71, 49] ++ Wr.putL r ++ Wr.putL (ps.length : Int)) (Cl.intsD 0 T ++ Cl.intsD 0 V) (by rw [hl]; simp) hsh (by omega)
  have g4 := Cl.getInts_put s T ([83, 69, 71, 49] ++ Wr.putL r ++ Wr.putL (ps.length : Int) ++ Cl.textsL N) (Cl.intsD 0 V) (by rw [hl]; simp) hti (by omega)
  have g5 := Cl.getInts_put s V ([83, 69, 71, 49] ++ Wr.putL r ++ Wr.putL (ps.length : Int) ++ Cl.textsL N ++ Cl.intsD 0 T) [] (by rw [hl]; simp) hva (by omega)
  rw [hN] at g3
  rw [hT] at g4
  rw [hV] at g5
  simp only [List.length_append, Int.natCast_add, List.length_cons, List.length_nil] at g3 g4 g5
  have h1 := rd_good g1 hr
  have h2 := rd_good (lo := 0) (hi := 64) g2 (by omega)
  have hend : (0 : Int) + 1 + 1 + 1 + 1 + ((Wr.putL r).length : Int) + ((Wr.putL (ps.length : Int)).length : Int) + ((Cl.textsL N).length : Int) + ((Cl.intsD 0 T).length : Int) + ((Cl.intsD 0 V).length : Int) = (s.size : Int) := by
    rw [hsz]; simp; omega
  rw [cols_yes (n := ps.length) h1 h2 hm g3 g4 (by rw [← hend]; exact g5), hz, hp]
theorem body_size {r : Int} {ps : List Pt.Point} : 4 ≤ (Sg.bodyB r ps).size := by
  unfold Sg.bodyB
  simp only [ByteArray.size_append]
  have : Sg.mark.size = 4 := rfl
  omega
theorem body_le {r : Int} {ps : List Pt.Point} (h : Sg.riseB ps = true) : (Sg.bodyB r ps).size ≤ 4000 := by
  have h1 := rise_len h
  have h2 := textsB_le (names_short (rise_may h)) (by rw [names_len]; omega)
  have h3 := intsB_le (times_small (rise_may h))
  have h4 := intsB_le (vals_small (rise_may h))
  have h5 := Wr.putL_len r
  have h6 := Wr.putL_len (ps.length : Int)
  rw [names_len] at h2
  rw [times_len] at h3
  rw [vals_len] at h4
  unfold Sg.bodyB
  simp only [ByteArray.size_append, Wr.putB_size]
  have : Sg.mark.size = 4 := rfl
  omega
theorem file_size (b : ByteArray) : (Sg.fileB b).size = b.size + 8 := by
  unfold Sg.fileB; rw [ByteArray.size_append, Sg.tailB_size]
theorem file_list (b : ByteArray) : (Sg.fileB b).data.toList = b.data.toList ++ Sg.tailL (Sm.hashL b.data.toList) := by
  unfold Sg.fileB; rw [Wr.append_list]; rfl
theorem file_front (b : ByteArray) : (Sg.fileB b).extract 0 b.size = b := by
  apply Wr.ext_list
  rw [Lib.extract_data, file_list, ← Wr.len_list]; simp
theorem file_back (b : ByteArray) : (Sg.fileB b).extract b.size (b.size + 8) = Sg.tailB (Sm.hashL b.data.toList) := by
  apply Wr.ext_list
  rw [Lib.extract_data, file_list, ← Wr.len_list]
  have h8 := Sg.tailL_length (Sm.hashL b.data.toList)
  show _ = Sg.tailL _
  generalize Sg.tailL (Sm.hashL b.data.toList) = t at *
  simp [← h8]
theorem get_file {r : Int} {ps : List Pt.Point} (hr : 1 ≤ r ∧ r ≤ 512) (hp : Sg.riseB ps = true) : Sg.getR (Sg.fileB (Sg.bodyB r ps)) = (r, ps, 0) := by
  have hc := cols_body hr hp
  rw [get_good (m := (Sg.bodyB r ps).size) (file_size _) body_size (file_front _) (file_back _) rfl (by rw [hc]), hc]
/-- a byte more: the tail does not fit -/
theorem get_cut {s : ByteArray} (h : s.size < 12) : (Sg.getR s).2.2 = 1300 := by rw [get_short h]
theorem take_set_list {l : List UInt8} (n k : Nat) (b : UInt8) : (l.set k b).take n = (l.take n).set k b := by rw [List.take_set]
/-- one byte turned: the sum tells -/
theorem get_turned {b : ByteArray} (hb : 4 ≤ b.size) (k : Nat) (hk : k < (Sg.fileB b).size) (d : UInt8) (hd : d ≠ (Sg.fileB b)[k]) : Sg.getR (turned (Sg.fileB b) k d) = (0, [], 1301) := by
  have hl := file_list b
  have hsz := file_size b
  have hlen := Wr.len_list b
  have h8 := Sg.tailL_length (Sm.hashL b.data.toList)
  have htl : (turned (Sg.fileB b) k d).data.toList = (Sg.fileB b).data.toList.set k d := rfl
  have hts : (turned (Sg.fileB b) k d).size = b.size + 8 := by rw [turned_size, hsz]
  have hlk : k < (Sg.fileB b).data.toList.length := by rw [Wr.len_list]; exact hk
  have hd' : d ≠ (Sg.fileB b).data.toList[k] := by
    have e : (Sg.fileB b)[k] = (Sg.fileB b).data.toList[k] := by simp; rfl
    rw [← e]; exact hd
  have hx : ∀ a c, ((turned (Sg.fileB b) k d).extract a c).data.toList = (((b.data.toList ++ Sg.tailL (Sm.hashL b.data.toList)).set k d).drop a).take (c - a) := fun a c => by rw [Lib.extract_data, htl, hl]
  have hk2 : k < b.data.toList.length + (Sg.tailL (Sm.hashL b.data.toList)).length := by rw [hlen, h8, ← hsz]; exact hk
  have hdk : d ≠ (b.data.toList ++ Sg.tailL (Sm.hashL b.data.toList))[k]'(by rw [List.length_append]; exact hk2) := by
    intro e; apply hd'; rw [e]; simp only [hl]
  clear hd hd' hl
  have hn : b.size = b.data.toList.length := hlen.symm
  have hsub : b.size + 8 - b.size = 8 := by omega
  refine get_tail (m := b.size) hts hb rfl rfl ?_
  intro he
  have he' : Sg.tailL (Sm.hashL ((turned (Sg.fileB b) k d).extract 0 b.size).data.toList) = ((turned (Sg.fileB b) k d).extract b.size (b.size + 8)).data.toList := congrArg (fun x : ByteArray => x.data.toList) he
  rw [hx, hx, hsub, hn, Nat.sub_zero, List.drop_zero] at he'
  generalize hB : b.data.toList = B at *
  by_cases hkB : k < B.length
  · rw [List.set_append, if_pos hkB, List.take_left' (by simp), List.drop_left' (by simp), List.take_of_length_le (by omega)] at he'
    have h3 := Sg.tail_inj (Sm.hashL_lt _) (Sm.hashL_lt _) he'
    rw [List.set_eq_take_append_cons_drop, if_pos hkB] at h3
    have h4 : B = B.take k ++ B[k] :: B.drop (k + 1) := by rw [← List.drop_eq_getElem_cons hkB, List.take_append_drop]
    have hne : d ≠ B[k] := by
      intro e; apply hdk; rw [List.getElem_append_left hkB]; exact e
    exact Sm.hash_turned (B.take k) (B.drop (k + 1)) d B[k] hne (h3.trans (congrArg Sm.hashL h4))
  · rw [List.set_append, if_neg hkB, List.take_left' rfl, List.drop_left' rfl, List.take_of_length_le (by simp; omega)] at he'
    generalize Sg.tailL (Sm.hashL B) = T at *
    have hlt : k - B.length < T.length := by omega
    have h5 : T[k - B.length] = d := by
      have : T[k - B.length]? = (T.set (k - B.length) d)[k - B.length]? := by rw [← he']
      rw [List.getElem?_set_self hlt, List.getElem?_eq_getElem hlt] at this
      exact Option.some.inj this
    apply hdk
    rw [List.getElem_append_right (by omega)]
    exact h5.symm
end Go.Proofs.Ytapdlmiioljpgaa
/- A machine's text, there and back: plain (chapter 11). No walk in sight. -/
namespace Go.Proofs.Ytapdlmiioljpgaa
open Go.RowKit
set_option linter.unusedVariables false
namespace Ig

theorem num8_tail (x : Nat) (h : x < 18446744073709551616) : num8 (Sg.tailL x) = x := by
  have e : Sg.tailL x = [Sg.tailAt x 0, Sg.tailAt x 1, Sg.tailAt x 2, Sg.tailAt x 3, Sg.tailAt x 4, Sg.tailAt x 5, Sg.tailAt x 6, Sg.tailAt x 7] := rfl
  have t : ∀ j, (Sg.tailAt x j).toNat = x / 256 ^ (7 - j) % 256 := fun j => by
    unfold Sg.tailAt
    rw [UInt8.toNat_ofNat']
    exact Nat.mod_mod _ _
  rw [e]
  unfold num8
  simp only [List.foldl_cons, List.foldl_nil, t]
  simp only [Nat.reduceSub, Nat.reducePow]
  omega
def Fit (m : M) : Prop := m.rows.all Se.fitsB = true
theorem tails_list (s : ByteArray) (pre post : List UInt8) (d : Int) (hl : s.data.toList = pre ++ ((Sg.tailB d.toNat).data.toList ++ post)) : rdBytes s ((pre.length : Int), false) = (Sg.tailB d.toNat, (((pre ++ (Sg.tailB d.toNat).data.toList).length : Int), false)) := by
  have h8 : (Sg.tailB d.toNat).data.toList.length = 8 := by have := Sg.tailB_size d.toNat; simpa using this
  have hs : s.size = pre.length + (8 + post.length) := by
    have := congrArg List.length hl
    rw [List.length_append, List.length_append, h8] at this
    rw [← this]; simp
  rw [bytes_yes (by omega)]
  congr 1
  · apply Wr.ext_list
    rw [Lib.extract_data, hl, List.drop_left, Nat.add_sub_cancel_left, List.take_append_of_le_length (by omega), List.take_of_length_le (by omega)]
  · congr 1
    rw [List.length_append, h8]; simp
theorem digs_back (s : ByteArray) (pre : List UInt8) (ds : List Int) (post : List UInt8) (hr : ∀ d ∈ ds, 0 ≤ d ∧ d < 18446744073709551616) (hl : s.data.toList = pre ++ (ds.flatMap (fun x => (Sg.tailB x.toNat).data.toList) ++ post)) (k : Nat) (hk : k ≤ ds.length) :
    rdDigs s ((pre.length : Int), false) k = (ds.take k, (((pre ++ (ds.take k).flatMap (fun x => (Sg.tailB x.toNat).data.toList)).length : Int), false)) := by
  induction k with
  | zero => simp [rdDigs]
  | succ k ih =>
    have hk' : k < ds.length := by omega
    rw [rdDigs, ih (by omega)]
    simp only
    have hd := hr ds[k] (List.getElem_mem hk')
    rw [tails_list s (pre ++ (ds.take k).flatMap (fun x => (Sg.tailB x.toNat).data.toList)) ((ds.drop (k + 1)).flatMap (fun x => (Sg.tailB x.toNat).data.toList) ++ post) ds[k] ?_]
    · simp only
      rw [List.take_succ_eq_append_getElem hk', List.flatMap_append]
      congr 1
      · congr 2
        show (num8 (Sg.tailL ds[k].toNat) : Int) = _
        rw [num8_tail _ (by omega)]
        omega
      · congr 2
        simp
    · rw [hl]
      have : ds.flatMap (fun x => (Sg.tailB x.toNat).data.toList) = (ds.take k ++ ds[k] :: ds.drop (k + 1)).flatMap (fun x => (Sg.tailB x.toNat).data.toList) := by rw [← List.drop_eq_getElem_cons hk', List.take_append_drop]
      rw [this, List.flatMap_append, List.flatMap_cons]
      simp only [List.append_assoc]
theorem load_parts {m : M} (hI : Inv m) (hf : Fit m) (h8 : m.at_ % 8 = 0) (s : ByteArray) (post : List UInt8) (hl : s.data.toList = snapL m ++ post) :
    loadR s = if post = [] then some ⟨m.at_, m.rows, [], m.digs, []⟩ else none := by
  have hp := Se.put_ok hI.rows hf
  have hg := Se.get_put hI.rows hf
  have h0 := hI.at0
  have h1 := hI.at1
  have hdl := hI.dl
  have hsz := putR_size m.rows
  rw [hp] at hsz
  simp only at hsz
  unfold snapL at hl
  rw [hp] at hl
  simp only at hl
  generalize (⟨(Se.rowsL m.rows).toArray⟩ : ByteArray) = T at *
  have n1 : Wr.isNum m.at_ = true := Pt.small_num ((Pt.smallB_iff _).2 (by omega))
  have n2 : Wr.isNum (m.digs.length : Int) = true := Pt.small_num ((Pt.smallB_iff _).2 (by omega))
  have r1 := Pt.rdNum_put s [] ((Wr.textB T).data.toList ++ (Wr.putL (m.digs.length : Int) ++ m.digs.flatMap (fun x => (Sg.tailB x.toNat).data.toList)) ++ post) m.at_ 0 4096 (by rw [hl]; simp) n1 h0 h1
  have r2 := Pt.getT_at_text s (Wr.putL m.at_) (Wr.putL (m.digs.length : Int) ++ m.digs.flatMap (fun x => (Sg.tailB x.toNat).data.toList) ++ post) T 65536 (by rw [hl]; simp) (by omega) (by omega)
  have r4 := Pt.rdNum_put s (Wr.putL m.at_ ++ (Wr.textB T).data.toList) (m.digs.flatMap (fun x => (Sg.tailB x.toNat).data.toList) ++ post) (m.digs.length : Int) 0 512 (by rw [hl]; simp) n2 (by omega) (by omega)
  have r5 := digs_back s (Wr.putL m.at_ ++ (Wr.textB T).data.toList ++ Wr.putL (m.digs.length : Int)) m.digs post hI.dr (by rw [hl]; simp) m.digs.length (Nat.le_refl _)
  rw [List.take_length] at r5
  have hsz2 : s.size = (Wr.putL m.at_ ++ (Wr.textB T).data.toList ++ Wr.putL (m.digs.length : Int) ++ m.digs.flatMap (fun x => (Sg.tailB x.toNat).data.toList)).length + post.length := by
    rw [← Wr.len_list s, hl]; simp only [List.length_append]; omega
  rw [List.length_nil] at r1
  have e1 : ((0 : Nat) : Int) + ((Wr.putL m.at_).length : Int) = ((Wr.putL m.at_).length : Int) := by omega
  rw [e1] at r1
  have r3 : Pt.rdText s 65536 (((Wr.putL m.at_).length : Int), false) = (T, (((Wr.putL m.at_ ++ (Wr.textB T).data.toList).length : Int), false)) := by
    unfold Pt.rdText
    rw [r2]
    simp only
    rw [if_neg (by simp), List.length_append]
    congr 2
  have e4 : ((Wr.putL m.at_ ++ (Wr.textB T).data.toList).length : Int) + ((Wr.putL (m.digs.length : Int)).length : Int) = ((Wr.putL m.at_ ++ (Wr.textB T).data.toList ++ Wr.putL (m.digs.length : Int)).length : Int) := by
    simp only [List.length_append]; omega
  rw [e4] at r4
  have hn : (m.at_ / 8).toNat = m.digs.length := by omega
  have hcond : ¬ ((m.digs.length : Int) ≠ m.at_ / 8 ∨ m.at_ % 8 ≠ 0 ∨ false = true ∨ (0 : Int) ≠ 0) := by
    rintro (h | h | h | h)
    · exact h hdl
    · exact h h8
    · cases h
    · exact h rfl
  by_cases hpost : post = []
  · subst hpost
    rw [if_pos rfl]
    have h5 : (rdDigs s (((Wr.putL m.at_ ++ (Wr.textB T).data.toList ++ Wr.putL (m.digs.length : Int)).length : Int), false) (m.at_ / 8).toNat).2 = ((s.size : Int), false) := by
      rw [hn, r5, hsz2]; simp
    rw [load_yes (by exact r1) r3 hg r4 hcond h5, hn, r5]
  · rw [if_neg hpost]
    refine load_over (by exact r1) r3 hg r4 ?_
    rw [hn, r5, hsz2]
    intro e
    have := (Prod.mk.inj e).1
    have hp : 0 < post.length := List.length_pos_iff.2 hpost
    omega
theorem load_snap {m : M} (hI : Inv m) (hf : Fit m) (h8 : m.at_ % 8 = 0) : loadR ⟨(snapL m).toArray⟩ = some ⟨m.at_, m.rows, [], m.digs, []⟩ := by
  rw [load_parts hI hf h8 _ [] (by simp), if_pos rfl]
theorem load_more {m : M} (hI : Inv m) (hf : Fit m) (h8 : m.at_ % 8 = 0) (t : ByteArray) (ht : t.data.toList ≠ []) : loadR (⟨(snapL m).toArray⟩ ++ t) = none := by
  rw [load_parts hI hf h8 _ t.data.toList (by rw [Wr.append_list]), if_neg ht]
/-- the numbers of a table stay numbers that are written -/
theorem fit_row {a b c d : Int} (h1 : Wr.isNum a = true) (h2 : Wr.isNum b = true) (h3 : Wr.isNum c = true) (h4 : Wr.isNum d = true) : Se.fitsB (a, b, c, d) = true := by
  unfold Se.fitsB; simp only [h1, h2, h3, h4]; rfl
theorem small_num' {x : Int} (h : 0 ≤ x ∧ x ≤ 2147483647) : Wr.isNum x = true := Pt.small_num ((Pt.smallB_iff _).2 (by omega))
theorem fit_take {m : M} (h : Fit m) (h0 : 0 ≤ m.at_ ∧ m.at_ ≤ 4096) (v c s n : Int) (bs : List Pt.Point) : Fit (takeM m v c s n bs).1 := by
  unfold takeM
  split
  · rename_i hmay
    have hn : numB s = true ∧ numB n = true := by
      unfold mayB at hmay
      rw [Bool.and_eq_true, List.all_eq_true] at hmay
      exact ⟨hmay.1 s (by simp), hmay.1 n (by simp)⟩
    have hb : ∀ x : Int, numB x = true → 0 ≤ x ∧ x ≤ 2147483647 := fun x hx => by unfold numB at hx; simpa using hx
    have n1 := small_num' (hb s hn.1)
    have n2 := small_num' (hb n hn.2)
    have n3 : Wr.isNum m.at_ = true := small_num' (by omega)
    have n0 : Wr.isNum 0 = true := small_num' (by omega)
    show (Se.applyR m.rows s n m.at_).1.all Se.fitsB = true
    unfold Fit at h
    rw [List.all_eq_true] at h ⊢
    intro r hr
    unfold Se.applyR at hr
    split at hr
    · exact h r hr
    · split at hr
      · rcases Se.open_mem hr with q | q
        · exact h r q
        · subst q; exact fit_row n3 n0 n3 n3
      · split at hr
        · exact h r hr
        · split at hr
          · exact h r hr
          · rcases List.mem_or_eq_of_mem_set hr with q | q
            · exact h r q
            · subst q; exact fit_row n1 n2 n3 n3
  · exact h
theorem fit_apply {m : M} (hI : Inv m) (h : Fit m) (v c s n : Int) (bs : List Pt.Point) : Fit (applyM m v c s n bs).1 := by
  have h0 := hI.at0
  unfold applyM
  split
  · exact h
  · have := fit_take (m := up m) h (by show 0 ≤ m.at_ + 1 ∧ m.at_ + 1 ≤ 4096; omega) v c s n bs
    simp only
    split
    · exact this
    · exact this
theorem at_apply {m : M} (v c s n : Int) (bs : List Pt.Point) (h : m.at_ < 4096) : (applyM m v c s n bs).1.at_ = m.at_ + 1 := by
  unfold applyM
  rw [if_neg (by omega)]
  simp only
  split
  · exact take_at (up m) v c s n bs
  · exact take_at (up m) v c s n bs
theorem fit1 : Fit m1 := by show m1.rows.all Se.fitsB = true; decide +kernel
end Ig
end Go.Proofs.Ytapdlmiioljpgaa
/- Two machines in memory, apart; what an entry does to two machines that differ in their seals alone (chapter 11). -/
namespace Go.Proofs.Ytapdlmiioljpgaa
open Go.RowKit
set_option linter.unusedVariables false

/-- two machines in memory, no block of the one is the other's -/
def Two (w : World) (base ga : Nat) (ma : Ig.M) (gb : Nat) (mb : Ig.M) : Prop :=
  ∃ ra oa da sa rb ob db sb, Mach w base ga ma ra oa da sa ∧ Mach w base gb mb rb ob db sb ∧ ∀ k, Foot ga ra oa da sa k → ¬ Foot gb rb ob db sb k
theorem Mach.down {w : World} {base base' g : Nat} {m : Ig.M} {vr vo vd vs : Value} (h : Mach w base g m vr vo vd vs) (hb : base' ≤ base) : Mach w base' g m vr vo vd vs :=
  ⟨h.blk, Nat.le_trans hb h.low, own_down h.rows hb, own_down h.opn hb, own_down h.digs hb, own_down h.seals hb⟩
section
variable {w w' : World} {base ga gb : Nat} {ma mb : Ig.M}
theorem Two.symm (h : Two w base ga ma gb mb) : Two w base gb mb ga ma := by
  obtain ⟨ra, oa, da, sa, rb, ob, db, sb, ha, hb, hd⟩ := h
  exact ⟨rb, ob, db, sb, ra, oa, da, sa, hb, ha, fun k h1 h2 => hd k h2 h1⟩
theorem Two.below (h : Two w base ga ma gb mb) (hb : Below w.heap.size w w') : Two w' base ga ma gb mb := by
  obtain ⟨ra, oa, da, sa, rb, ob, db, sb, h1, h2, hd⟩ := h
  exact ⟨ra, oa, da, sa, rb, ob, db, sb, h1.below hb, h2.below hb, hd⟩
theorem Two.fst (h : Two w base ga ma gb mb) : MachX w base ga ma (fun _ => False) := by
  obtain ⟨ra, oa, da, sa, rb, ob, db, sb, h1, h2, hd⟩ := h
  exact ⟨ra, oa, da, sa, h1, fun _ _ q => q⟩
theorem Two.snd (h : Two w base ga ma gb mb) : MachX w base gb mb (fun _ => False) := h.symm.fst
/-- an entry is applied to the first -/
def TwoPost (w : World) (base ga gb : Nat) (mb : Ig.M) (q : Ig.M × Int × Int) (e : Ending) (w' : World) : Prop :=
  e = .returned (.tuple #[.int .i64 q.2.1, .int .i64 q.2.2]) ∧ Two w' base ga q.1 gb mb ∧ Below base w w'
theorem applyT (h : Two w base ga ma gb mb) (hI : Ig.Inv ma) (v c s n : Int) (A : Option Addr) (d : Nat) (bs : List Pt.Point) (hr : Reads w w.heap.size 3 A bs.length (bs.flatMap pointCells)) (hwf : ∀ p ∈ bs, Pt.wf p) (hn : bs.length ≤ 140737488355328) (hA : 0 < bs.length → ∀ b off, A = some ⟨b, off, none⟩ → b < base) (hbase : base ≤ w.heap.size) :
    Calls Try.prog 38 #[.pointer (some ⟨ga, 0, none⟩), .agg #[.int .i64 v, .int .i64 c, .int .i64 s, .int .i64 n, .slice A bs.length d]] w (TwoPost w base ga gb mb (Ig.applyM ma v c s n bs)) := by
  obtain ⟨ra, oa, da, sa, rb, ob, db, sb, h1, h2, hd⟩ := h
  refine (apply_mach h1 hI v c s n A d bs hr (fun h0 b off e q => by have := (h1.lt q).1; have := hA h0 b off e; omega) hwf hn hbase).mono fun e w' h => ?_
  obtain ⟨vr', vo', vd', vs', he, hm', ho, hf⟩ := h
  refine ⟨he, ⟨vr', vo', vd', vs', rb, ob, db, sb, hm', h2.only ho (fun k hk q => hd k q hk), fun k hk q => ?_⟩, ho.below (fun k hk q => by have := (h1.lt q).1; omega) hbase⟩
  rcases hf k hk with z | z
  · exact hd k z q
  · have := (h2.lt q).2; omega
/-- the second is loaded anew -/
theorem Two.loaded (h : Two w base ga ma gb mb) {g : Nat} {m : Ig.M} {vr vd : Value} (hm : Mach w' w.heap.size g m vr (.slice none 0 0) vd (.slice none 0 0)) (hb : Below w.heap.size w w') (hbase : base ≤ w.heap.size) : Two w' base ga ma g m := by
  obtain ⟨ra, oa, da, sa, rb, ob, db, sb, h1, h2, hd⟩ := h
  refine ⟨ra, oa, da, sa, vr, _, vd, _, h1.below hb, hm.down hbase, fun k hk q => ?_⟩
  have := (h1.lt hk).2
  have := (hm.lt q).1
  omega
end
theorem twoNew {w w1 w2 : World} (h1 : MachX w1 w.heap.size w.heap.size Ig.m0 (fun _ => False)) (hb : Below w.heap.size w w1) (h2 : MachX w2 w1.heap.size w1.heap.size Ig.m0 (fun _ => False)) (hb2 : Below w1.heap.size w1 w2) : Two w2 w.heap.size w.heap.size Ig.m0 w1.heap.size Ig.m0 := by
  obtain ⟨ra, oa, da, sa, ha, _⟩ := h1
  obtain ⟨rb, ob, db, sb, hb', _⟩ := h2
  refine ⟨ra, oa, da, sa, rb, ob, db, sb, ha.below hb2, hb'.down hb.size, fun k hk q => ?_⟩
  have := (ha.lt hk).2
  have := (hb'.lt q).1
  omega
namespace Ig
def withS (m : M) (s : List (Int × ByteArray)) : M := ⟨m.at_, m.rows, m.opn, m.digs, s⟩
theorem take_withS (m : M) (s0 : List (Int × ByteArray)) (v c s n : Int) (bs : List Pt.Point) : takeM (withS m s0) v c s n bs = (withS (takeM m v c s n bs).1 s0, (takeM m v c s n bs).2) ∧ (takeM m v c s n bs).1.seals = m.seals ∧ (takeM m v c s n bs).1.digs = m.digs := by
  unfold takeM withS
  split <;> exact ⟨rfl, rfl, rfl⟩
/-- the same entry, applied to a machine without seals and to one with some -/
theorem apply_withS (m : M) (s0 : List (Int × ByteArray)) (v c s n : Int) (bs : List Pt.Point) (h0 : m.seals = []) : applyM (withS m s0) v c s n bs = (withS (applyM m v c s n bs).1 (s0 ++ (applyM m v c s n bs).1.seals), (applyM m v c s n bs).2) := by
  unfold applyM
  have hat : (withS m s0).at_ = m.at_ := rfl
  rw [hat]
  split
  · rw [h0]; simp
  · have hu : up (withS m s0) = withS (up m) s0 := rfl
    obtain ⟨h1, h2, h3⟩ := take_withS (up m) s0 v c s n bs
    rw [hu, h1]
    simp only
    have h2' : (takeM (up m) v c s n bs).1.seals = [] := by rw [h2]; exact h0
    split
    · refine Prod.ext ?_ rfl
      show sealM _ = withS (sealM _) _
      unfold sealM withS segB
      simp only [h2', List.nil_append]
    · refine Prod.ext ?_ rfl
      show withS _ _ = withS _ _
      simp only [h2', List.append_nil]
theorem apply_noseal {m : M} (v c s n : Int) (bs : List Pt.Point) (h0 : m.seals = []) (h : m.at_ < 4096) (h8 : ¬ (m.at_ + 1) % 8 = 0) : (applyM m v c s n bs).1.seals = [] ∧ (applyM m v c s n bs).1.digs = m.digs := by
  obtain ⟨_, h2, h3⟩ := take_withS (up m) [] v c s n bs
  rw [apply_open v c s n bs h h8]
  exact ⟨h2.trans h0, h3⟩
theorem apply_sealed {m : M} (v c s n : Int) (bs : List Pt.Point) (h0 : m.seals = []) (h : m.at_ < 4096) (h8 : (m.at_ + 1) % 8 = 0) : ∃ r S, (applyM m v c s n bs).1.seals = [(r, S)] ∧ (applyM m v c s n bs).1.digs = m.digs ++ [(Sm.hashL S.data.toList : Int)] ∧ (applyM m v c s n bs).1.opn = [] ∧ S.size ≤ maxLen := by
  obtain ⟨_, h2, h3⟩ := take_withS (up m) [] v c s n bs
  rw [apply_seal (by omega) h8]
  refine ⟨(takeM (up m) v c s n bs).1.at_ / 8, segB (takeM (up m) v c s n bs).1, ?_, ?_, rfl, putR_small _ _⟩
  · show (takeM (up m) v c s n bs).1.seals ++ _ = _
    rw [h2]
    show m.seals ++ _ = _
    rw [h0]; rfl
  · show (takeM (up m) v c s n bs).1.digs ++ _ = _
    rw [h3]; rfl
end Ig
end Go.Proofs.Ytapdlmiioljpgaa
/- Plain facts of a segment's text (chapter 14). No walk in sight. -/
namespace Go.Proofs.Ytapdlmiioljpgaa
open Go.RowKit
set_option linter.unusedVariables false

theorem Sv.rise_of {ps : List Pt.Point} (hs : Ig.Sorted ps) (hm : ∀ p ∈ ps, Pt.mayB p = true) (hl : ps.length ≤ 64) : Sg.riseB ps = true := by
  unfold Sg.riseB
  rw [decide_eq_true hl, Bool.true_and, List.all_eq_true]
  intro i hi
  rw [List.mem_range] at hi
  rw [okAt_eq hi, hm _ (List.getElem_mem hi), Bool.true_and]
  by_cases h0 : i = 0
  · simp [h0]
  · rw [getD_lt (by omega : i - 1 < ps.length)]
    have := hs (i - 1) i (by omega) hi
    unfold Pt.lessB
    rw [decide_eq_true this, Bool.or_true]
theorem Sv.mid_rise {m : Ig.M} (h : Ig.Mid m) : Sg.riseB m.opn = true := Sv.rise_of h.sorted h.pts (by have := h.many; omega)
theorem Sv.seg_text {m : Ig.M} (hI : Ig.Inv m) (h : m.at_ < 4096) (h8 : (m.at_ + 1) % 8 = 0) (v c s n : Int) (bs : List Pt.Point) : Sv.segOut (Ig.applyM m v c s n bs).1 = Sg.fileB (Sg.bodyB ((m.at_ + 1) / 8) (Ig.takeM (Ig.up m) v c s n bs).1.opn) ∧ Sg.riseB (Ig.takeM (Ig.up m) v c s n bs).1.opn = true := by
  have hr := Sv.mid_rise (Ig.mid_take hI (by omega) v c s n bs)
  have ha : (Ig.takeM (Ig.up m) v c s n bs).1.at_ = m.at_ + 1 := Ig.take_at (Ig.up m) v c s n bs
  refine ⟨?_, hr⟩
  unfold Ig.applyM
  rw [if_neg (by omega), if_pos h8]
  show ((_ ++ [(_, Ig.segB (Ig.takeM (Ig.up m) v c s n bs).1)]).getLastD (0, ⟨#[]⟩)).2 = _
  rw [List.getLastD_eq_getLast?, List.getLast?_concat]
  show Ig.segB _ = _
  unfold Ig.segB
  rw [ha, putR_good (by have := hI.at0; omega) hr]
theorem Sv.putL_pos {x : Int} (h : 0 ≤ x ∧ x ≤ 4096) : 0 < (Wr.putL x).length := by
  unfold Wr.putL
  rw [if_pos (by unfold Wr.isNum; simp; omega)]
  exact Wr.vb_pos _ _
theorem Sv.file_big {r : Int} {ps : List Pt.Point} (hr : 0 ≤ r ∧ r ≤ 4096) (hl : ps.length ≤ 4096) : 12 < (Sg.fileB (Sg.bodyB r ps)).size := by
  have h1 := Sv.putL_pos hr
  have h2 := Sv.putL_pos (x := (ps.length : Int)) (by omega)
  rw [file_size]
  unfold Sg.bodyB
  simp only [ByteArray.size_append, Wr.putB_size]
  have : Sg.mark.size = 4 := rfl
  omega
theorem Sv.run_big {m : Ig.M} (hI : Ig.Inv m) {es : List Ent} (hne : es ≠ []) (h : m.at_ + es.length ≤ 4096) (h8 : (m.at_ + es.length) % 8 = 0) : 12 < (Sv.segOut (Sv.runM m es)).size := by
  obtain ⟨l, q, rfl⟩ : ∃ l q, es = l ++ [q] := ⟨es.dropLast, es.getLast hne, (List.dropLast_concat_getLast hne).symm⟩
  rw [List.length_append, List.length_singleton] at h h8
  have ha := Sv.run_at (m := m) l (by omega)
  obtain ⟨h1, h2⟩ := Sv.seg_text (Sv.run_inv hI l) (by omega) (by omega) q.1.1 q.1.2.1 q.1.2.2.1 q.1.2.2.2 q.2.2.2
  have hl := rise_len h2
  have h0 := hI.at0
  rw [Sv.run_snoc, h1]
  exact Sv.file_big (by omega) (by omega)
theorem Sv.start_zero2 (snap : ByteArray) : Sv.startR 0 snap = some Ig.m0 := Sv.start_zero snap
/-- a log that begins at nothing -/
theorem Sv.seg_zero {es : List Ent} {r : Int} (hl : Sv.logB 0 ⟨#[]⟩ es = true) (hr : Sv.rangeB 0 es.length r = true) : Sv.segR 0 ⟨#[]⟩ es r = (Sv.segOut (Sv.runM Ig.m0 (es.take (r * 8 - 0).toNat)), 0) :=
  Sv.seg_in ⟨hl, rfl⟩ (Sv.start_zero _) hr
theorem Sv.seg_zero_big {es : List Ent} {r : Int} (hl : Sv.logB 0 ⟨#[]⟩ es = true) (hr : Sv.rangeB 0 es.length r = true) : 12 < (Sv.segR 0 ⟨#[]⟩ es r).1.size ∧ (Sv.segR 0 ⟨#[]⟩ es r).2 = 0 := by
  rw [Sv.seg_zero hl hr]
  obtain ⟨h1, h2, h3, h4⟩ := Sv.range_parts hr
  refine ⟨?_, rfl⟩
  have hlen : (es.take (r * 8 - 0).toNat).length = (r * 8).toNat := by rw [List.length_take]; omega
  have h0 : Ig.m0.at_ = 0 := rfl
  exact Sv.run_big Ig.inv0 (fun h => by rw [h] at hlen; simp at hlen; omega) (by rw [h0, hlen]; omega) (by rw [h0, hlen]; omega)
theorem Sv.seg_same {a b : List Ent} {snap : ByteArray} {r : Int} (h : a.take (r * 8 - 0).toNat = b.take (r * 8 - 0).toNat) (ha : (Sv.segR 0 snap a r).2 = 0) (hb : (Sv.segR 0 snap b r).2 = 0) : (Sv.segR 0 snap a r).1 = (Sv.segR 0 snap b r).1 := by
  unfold Sv.segR at ha hb ⊢
  rw [Sv.start_zero] at ha hb ⊢
  split at ha
  · rename_i h1
    rw [if_pos h1]
    split at hb
    · rename_i h2
      rw [if_pos h2]
      simp only at ha hb ⊢
      split at ha
      · rename_i h3
        rw [if_pos h3]
        split at hb
        · rename_i h4
          rw [if_pos h4, h]
        · simp at hb
      · simp at ha
    · simp at hb
  · simp at ha
theorem Sv.run_small {m : Ig.M} (hI : Ig.Inv m) {es : List Ent} (hne : es ≠ []) (h : m.at_ + es.length ≤ 4096) (h8 : (m.at_ + es.length) % 8 = 0) : (Sv.segOut (Sv.runM m es)).size ≤ 5000 := by
  obtain ⟨l, q, rfl⟩ : ∃ l q, es = l ++ [q] := ⟨es.dropLast, es.getLast hne, (List.dropLast_concat_getLast hne).symm⟩
  rw [List.length_append, List.length_singleton] at h h8
  have ha := Sv.run_at (m := m) l (by omega)
  obtain ⟨h1, h2⟩ := Sv.seg_text (Sv.run_inv hI l) (by omega) (by omega) q.1.1 q.1.2.1 q.1.2.2.1 q.1.2.2.2 q.2.2.2
  have hb := body_le (r := ((Sv.runM m l).at_ + 1) / 8) h2
  rw [Sv.run_snoc, h1, file_size]
  omega
theorem Sv.segR_size (base : Int) (snap : ByteArray) (es : List Ent) (r : Int) : (Sv.segR base snap es r).1.size ≤ 5000 := by
  unfold Sv.segR
  split
  · rename_i hl
    split
    · decide
    · rename_i m hst
      split
      · rename_i hr
        obtain ⟨h1, h2, h3, h4⟩ := Sv.range_parts hr
        obtain ⟨p1, p2, p3, p4⟩ := Sv.log_parts hl.1
        obtain ⟨hI, hat⟩ := Sv.start_inv hst
        have hlen : (es.take (r * 8 - base).toNat).length = (r * 8 - base).toNat := by rw [List.length_take]; omega
        exact Sv.run_small hI (fun h => by rw [h] at hlen; simp at hlen; omega) (by rw [hat, hlen]; omega) (by rw [hat, hlen]; omega)
      · decide
  · decide
end Go.Proofs.Ytapdlmiioljpgaa
/- The walk through seal.Points behind no table (chapter 14). -/
namespace Go.Proofs.Ytapdlmiioljpgaa
open Go.RowKit
set_option linter.unusedVariables false

def Sv.ptStep (fr : Int) (q : List Se.Row × List Pt.Point) (i : Nat) (e : Ent) : List Se.Row × List Pt.Point :=
  ((Se.applyR q.1 e.1.2.2.1 e.1.2.2.2 (fr + (i : Int) + 1)).1, if (Se.applyR q.1 e.1.2.2.1 e.1.2.2.2 (fr + (i : Int) + 1)).2.2 = true ∧ e.1.2.2.1 ≠ 0 then Ig.setAll q.2 e.2.2.2 else q.2)
def Sv.ptsN (fr : Int) (es : List Ent) : Nat → List Se.Row × List Pt.Point
  | 0 => ([], [])
  | k + 1 => match es[k]? with
    | some e => Sv.ptStep fr (Sv.ptsN fr es k) k e
    | none => Sv.ptsN fr es k
theorem Sv.ptsN_succ {fr : Int} {es : List Ent} {k : Nat} (hk : k < es.length) : Sv.ptsN fr es (k + 1) = Sv.ptStep fr (Sv.ptsN fr es k) k es[k] := by
  show (match es[k]? with | some e => _ | none => _) = _
  rw [List.getElem?_eq_getElem hk]
theorem Sv.ptsN_stay {fr : Int} {es : List Ent} {k : Nat} (hk : ¬ k < es.length) : Sv.ptsN fr es (k + 1) = Sv.ptsN fr es k := by
  show (match es[k]? with | some e => _ | none => _) = _
  rw [List.getElem?_eq_none (by omega)]
theorem Sv.pts_sorted (fr : Int) (es : List Ent) (k : Nat) : Ig.Sorted (Sv.ptsN fr es k).2 := by
  induction k with
  | zero => exact Ig.sorted_nil
  | succ k ih =>
    by_cases hk : k < es.length
    · rw [Sv.ptsN_succ hk]
      unfold Sv.ptStep
      simp only
      split
      · exact Ig.setAll_sorted ih _
      · exact ih
    · rw [Sv.ptsN_stay hk]; exact ih
theorem semayE_any (A : Option Addr) (c : Nat) (ps : List Se.Row) (w : World) (B : Nat) (hr : Reads w B 4 A ps.length (ps.flatMap rowCells)) :
    Calls Try.prog 123 #[.slice A ps.length c] w fun e w' => e = .returned (.bool (Se.mayB ps)) ∧ Drawn w w' := by
  have HM := fun W => Lib.hid (semay_any A c ps W B)
  have HR := Lib.hid hr
  clear hr
  go_enter Try.func123, Try.ntmps123
  go_wp2_with fail
  refine ((HM _).out HR.out).mono ?_
  rintro e w' ⟨rfl, hd⟩
  go_wp2_with fail
  go_ret
  exact ⟨rfl, hd⟩
set_option maxRecDepth 100000 in
set_option maxHeartbeats 4000000 in
theorem points_any (fr : Int) (hf0 : ¬ fr < 0) (hf1 : fr ≤ 4096) (A : Option Addr) (c : Nat) (es : List Ent) (w : World) (h : LogOk w A es) (hn : es.length ≤ 64) (hall : es.all Sv.entB = true) (hb : ∀ k, k ≤ es.length → (Sv.ptsN fr es k).1.length ≤ 1000 ∧ (Sv.ptsN fr es k).2.length ≤ 1000) :
    Calls Try.prog 95 #[.slice A es.length c, .slice none 0 0, .int .i64 fr] w fun e w' => ∃ v, e = .returned (.tuple #[v, .int .i64 0]) ∧ w'.ownsRow w.heap.size 88 3 v (Sv.ptsN fr es es.length).2.length ((Sv.ptsN fr es es.length).2.flatMap pointCells) ∧ Below w.heap.size w w' := by
  have HC := Lib.hid (ent_cells h.rd)
  have HE := Lib.hid (fun (j : Nat) (hj : j < es.length) => And.intro (ent_pts (h.ok es[j] (List.getElem_mem hj))) (h.big es[j] (List.getElem_mem hj)))
  have HSo := Lib.hid (Sv.pts_sorted fr es)
  have HSu := Lib.hid (fun k hk => @Sv.ptsN_succ fr es k hk)
  have HLn := Lib.hid hb
  have HB : Hid (∀ j (hj : j < es.length), Sv.entB es[j] = true ∧ es[j].2.2.2.length ≤ 64) := fun j hj => by
    have := List.all_eq_true.1 hall es[j] (List.getElem_mem hj)
    exact ⟨this, Nat.le_trans (Ig.may_len this) (by omega)⟩
  clear h hb hall
  have HM : Hid (∀ W, Below w.heap.size w W → ∀ (j : Nat) (hj : j < es.length), Calls Try.prog 120 #[.agg #[.int .i64 es[j].1.1, .int .i64 es[j].1.2.1, .int .i64 es[j].1.2.2.1, .int .i64 es[j].1.2.2.2, .slice es[j].2.1 es[j].2.2.2.length es[j].2.2.1]] W fun e w' => e = .returned (.bool true) ∧ Below W.heap.size W w') := fun W hb j hj => by
    obtain ⟨⟨h1, h2⟩, h3⟩ := HE.out j hj
    have := mayEntry_any es[j].1.1 es[j].1.2.1 es[j].1.2.2.1 es[j].1.2.2.2 es[j].2.1 es[j].2.2.1 es[j].2.2.2 W w.heap.size (h1.below hb) hb.size (by omega) h2
    rw [show Ig.mayB es[j].1.1 es[j].1.2.1 es[j].1.2.2.1 es[j].1.2.2.2 es[j].2.2.2 = true from (HB.out j hj).1] at this
    exact this
  have HSM := fun W => Lib.hid (semayE_any none 0 [] W 0 Reads.none_)
  go_enter Try.func95, Try.ntmps95
  go_wp2_with fail
  go_step3
  go_wp2_with fail
  refine (HSM _).out.mono ?_
  rintro e w1 ⟨rfl, n1, rfl⟩
  have Hb1 : Hid (Below w.heap.size w (w.drewN n1)) := below_drewN (Below.refl _ _) n1
  have hs1 := Hb1.out.size
  generalize w.drewN n1 = w1 at *
  rw [show Se.mayB [] = true from rfl]
  go_wp2_with fail
  go_loopw [9, 25] (fun _ i wr => ∃ k : Nat, k ≤ es.length ∧ i = .int .i64 (k : Int) ∧ Hid (Below w.heap.size w wr)) (fun _ i _ => es.length - (intOf i).toNat)
  case atStart => exact ⟨0, Nat.zero_le _, rfl, Hb1⟩
  case round =>
    obtain ⟨k, hk, rfl, hbw⟩ := hrel
    by_cases hlt : k < es.length
    · obtain ⟨b, off, rfl, hbl, e0, e1, e2, e3, e4⟩ := HC.out k hlt
      rw [← hbw.out.cell (p := ⟨b, _, none⟩) hbl] at e0 e1 e2 e3 e4
      have HM1 := Lib.hid (fun W hb => HM.out W hb k hlt)
      clear HM HC HE HSo HSu HB HLn
      go_wp2_with fail
      have hb1 := hbw.out.alloc hbw.out.size (.cells #[.int .i64 es[k].1.1, .int .i64 es[k].1.2.1, .int .i64 es[k].1.2.2.1, .int .i64 es[k].1.2.2.2, .slice es[k].2.1 es[k].2.2.2.length es[k].2.2.1] 43)
      refine (HM1.out _ hb1).mono ?_
      rintro e w3 ⟨rfl, hb3⟩
      have Hb3 := Lib.hid (hb1.trans (hb3.mono hb1.size))
      clear hb1 hb3 HM1
      go_wp2_with fail
      go_roundw
      case rel => exact ⟨k + 1, by omega, by go_num, Hb3⟩
      case measure => simp [intOf]; omega
    · have hsw := hbw.out.size
      generalize wr = w2 at *
      clear HM
      go_wp2_with fail
      go_step3
      go_wp2_with fail
      go_loopw [1, 10, 11, 12, 13, 14, 15, 35] (fun vr vo _ _ _ _ _ i wr => ∃ k : Nat, k ≤ es.length ∧ i = .int .i64 (k : Int) ∧ (∃ Ar cr, vr = .slice Ar (Sv.ptsN fr es k).1.length cr ∧ Hid (Reads wr wr.heap.size 4 Ar (Sv.ptsN fr es k).1.length ((Sv.ptsN fr es k).1.flatMap rowCells))) ∧ Hid (wr.ownsRow w.heap.size 88 3 vo (Sv.ptsN fr es k).2.length ((Sv.ptsN fr es k).2.flatMap pointCells)) ∧ Hid (Below w.heap.size w wr)) (fun _ _ _ _ _ _ _ i _ => es.length - (intOf i).toNat)
      case atStart => exact ⟨0, Nat.zero_le _, rfl, ⟨none, 0, rfl, Lib.hid Reads.none_⟩, Lib.hid (own_nil _ _ _ _), hbw⟩
      case round =>
        obtain ⟨k, hk, rfl, ⟨Ar, cr, rfl, hrr⟩, hown, hbw⟩ := hrel
        have hsw := hbw.out.size
        by_cases hlt : k < es.length
        · obtain ⟨b, off, rfl, hbl, e0, e1, e2, e3, e4⟩ := HC.out k hlt
          rw [← hbw.out.cell (p := ⟨b, _, none⟩) hbl] at e0 e1 e2 e3 e4
          obtain ⟨l1, l2⟩ := HLn.out k hk
          obtain ⟨l3, l4⟩ := HLn.out (k + 1) hlt
          have HSo1 := Lib.hid (HSo.out k)
          have HSu1 := Lib.hid (HSu.out k hlt)
          obtain ⟨⟨hrp, hwp⟩, hnp⟩ := HE.out k hlt
          have hnb := (HB.out k hlt).2
          have hap := apply_any Ar cr (Sv.ptsN fr es k).1 es[k].1.1 es[k].1.2.1 es[k].1.2.2.1 es[k].1.2.2.2 (fr + (k : Int) + 1) es[k].2.1 es[k].2.2.2.length es[k].2.2.1 (wr.alloc (.cells #[.int .i64 es[k].1.1, .int .i64 es[k].1.2.1, .int .i64 es[k].1.2.2.1, .int .i64 es[k].1.2.2.2, .slice es[k].2.1 es[k].2.2.2.length es[k].2.2.1] 43)) wr.heap.size (hrr.out.alloc (Nat.le_refl _) _) (by simp) (by omega)
          unfold ApplyPost entryCells at hap
          have HAp := Lib.hid hap
          have HRp := Lib.hid hrp
          clear hap HC HE HSo HSu HB HLn hrr hwp hnp
          unfold Sv.ptStep at HSu1
          have HRw := Lib.hid HRp.out
          have Hbw := Lib.hid hbw.out
          obtain ⟨Ao, co, rfl, hnco, _⟩ := own_slice hown.out
          have HSet : Hid (∀ W (ho : Below wr.heap.size wr W), Calls Try.prog 121 #[.slice Ao (Sv.ptsN fr es k).2.length co, .slice es[k].2.1 es[k].2.2.2.length es[k].2.2.1] W (SetPost W w.heap.size (.slice Ao (Sv.ptsN fr es k).2.length co) (Ig.setAll (Sv.ptsN fr es k).2 es[k].2.2.2))) := fun W ho => by
            have hsz := ho.size
            refine set_any _ (Sv.ptsN fr es k).2 es[k].2.1 es[k].2.2.1 es[k].2.2.2 W w.heap.size (own_only hown.out (Only.new (fun _ => False) ho) (fun _ _ h => h)) (by omega) HSo1.out (((HRw.out.below hbw.out).below (ho.mono hsw)).more (by omega)) (fun h0 b off e q => ?_) (by omega)
            obtain ⟨b', off', e', hb', _⟩ := HRw.out.2 h0
            rw [e] at e'; injection e' with e'; injection e' with e' _ _
            have := (own_lt hown.out q).1
            omega
          have Hown := Lib.hid hown.out
          have hogb : Hid (∀ g, Value.ownBlock (.slice Ao (Sv.ptsN fr es k).2.length co) = some g → g < wr.heap.size) := fun g hg => (own_lt hown.out hg).2
          clear HRw HRp hown HSo1
          rename_i hjunk
          obtain ⟨nx, hnx⟩ : ∃ nx, Sv.ptsN fr es (k + 1) = nx := ⟨_, rfl⟩
          rw [hnx] at HSu1 l3 l4
          have Hnx := Lib.hid hnx
          clear hnx
          generalize Se.applyR (Sv.ptsN fr es k).1 es[k].1.2.2.1 es[k].1.2.2.2 (fr + (k : Int) + 1) = ap at *
          generalize Ig.setAll (Sv.ptsN fr es k).2 es[k].2.2.2 = st at *
          generalize Sv.ptsN fr es k = cu at *
          generalize es[k] = q at *
          obtain ⟨⟨ev, ec, esn, en⟩, EA, ecp, bs⟩ := q
          obtain ⟨R', rs, eff⟩ := ap
          obtain ⟨R0, o0⟩ := cu
          obtain ⟨n1, n2⟩ := nx
          simp only at *
          have HSu2 := HSu1.out
          rw [Prod.mk.injEq] at HSu2
          obtain ⟨hn1, hn2⟩ := HSu2
          subst hn1
          have Hn2 := Lib.hid hn2
          clear hn2 HSu1
          go_wp2_with fail
          have hb1 : Below wr.heap.size wr (wr.alloc (.cells #[.int .i64 ev, .int .i64 ec, .int .i64 esn, .int .i64 en, .slice EA bs.length ecp] 43)) := (Below.refl _ _).alloc (Nat.le_refl _) _
          have HE := Lib.hid (Blk.new wr 43 #[.int .i64 ev, .int .i64 ec, .int .i64 esn, .int .i64 en, .slice EA bs.length ecp])
          generalize wr.alloc (.cells #[.int .i64 ev, .int .i64 ec, .int .i64 esn, .int .i64 en, .slice EA bs.length ecp] 43) = w3 at *
          refine HAp.out.mono ?_
          rintro e w4 ⟨v4, rfl, hown4, hb4⟩
          have hs3 := hb1.size
          obtain ⟨A4, c4, rfl, _, hr4⟩ := own_slice hown4
          have HE4 := Lib.hid (Blk.below HE.out hb4 HE.out.lt)
          have Hb4 : Hid (Below wr.heap.size wr w4) := hb1.trans (hb4.mono hs3)
          have Hlow4 : Hid (∀ b off, A4 = some ⟨b, off, none⟩ → wr.heap.size ≤ b) := fun b off e => by
            have := (own_lt hown4 (g := b) (by rw [e]; rfl)).1
            omega
          have Hr4 := Lib.hid hr4
          have f2 := HE4.out.cell 2
          have f4 := HE4.out.cell 4
          simp only [List.getElem?_toArray, List.getElem?_cons_zero, List.getElem?_cons_succ] at f2 f4
          have Hbw4 : Hid (Below w.heap.size w w4) := Hbw.out.trans (Hb4.out.mono hsw)
          clear hown4 hr4 hb4 hb1 HAp HE e0 e1 e2 e3 e4
          have HSet4 := Lib.hid (HSet.out w4 Hb4.out)
          have Hown4 := Lib.hid (own_only Hown.out (Only.new (fun _ => False) Hb4.out) (fun _ _ h => h))
          clear HSet
          by_cases hdo : eff = true ∧ esn ≠ 0
          · rw [if_pos hdo] at Hn2
            obtain ⟨rfl, hs0⟩ := hdo
            have hz : (esn == 0) = false := by simpa using hs0
            obtain rfl : n2 = st := Hn2.out
            clear Hn2 hs0
            go_wp2_with fail
            refine HSet4.out.mono ?_
            rintro e w6 ⟨v6, rfl, hown6, ho6, hg6⟩
            have Hown6 := Lib.hid hown6
            have Hbw6 : Hid (Below w.heap.size w w6) := Hbw4.out.trans (ho6.below (fun j hj q => by have := (own_lt Hown4.out q).1; omega) Hbw4.out.size)
            have Hr6 : Hid (Reads w6 w6.heap.size 4 A4 n1.length (n1.flatMap rowCells)) := by
              refine ⟨Hr4.out.1, fun h0 => ?_⟩
              obtain ⟨b, off, e, hb, hc⟩ := Hr4.out.2 h0
              refine ⟨b, off, e, Nat.lt_of_lt_of_le hb ho6.size, fun j u hu => ?_⟩
              rw [ho6.cell (p := ⟨b, off + j, none⟩) hb (fun q => by have := hogb.out b q; have := Hlow4.out b off e; omega)]
              exact hc j u hu
            clear hown6 ho6 hg6 HSet4 Hown4 Hown Hr4 HE4 f2 f4
            go_wp2_with fail
            go_roundw
            case rel => exact ⟨k + 1, by omega, by go_num, ⟨A4, c4, by rw [Hnx.out], Lib.hid (by rw [Hnx.out]; exact Hr6.out)⟩, Lib.hid (by rw [Hnx.out]; exact Hown6.out), Hbw6⟩
            case measure => simp [intOf]; omega
          · rw [if_neg hdo] at Hn2
            obtain rfl : n2 = o0 := Hn2.out
            have hcs : eff = false ∨ (eff = true ∧ (esn == 0) = true) := by
              cases eff
              · exact .inl rfl
              · right; refine ⟨rfl, ?_⟩; by_cases hz : esn = 0
                · simp [hz]
                · exact absurd ⟨rfl, hz⟩ hdo
            clear Hn2 hdo HSet4
            rcases hcs with rfl | ⟨rfl, hz⟩
            all_goals
              go_wp2_with fail
              go_roundw
              case rel => exact ⟨k + 1, by omega, by go_num, ⟨A4, c4, by rw [Hnx.out], Lib.hid (by rw [Hnx.out]; exact Hr4.out)⟩, Lib.hid (by rw [Hnx.out]; exact Hown4.out), Hbw4⟩
              case measure => simp [intOf]; omega
        · obtain rfl : k = es.length := by omega
          have Hfin := Lib.hid (And.intro hown.out hbw.out)
          clear HC HE HSo HSu HB HLn hrr hown
          go_wp2_with fail
          (try rw [Exit.noGoto_ret])
          go_ret2
          exact ⟨_, rfl, Hfin.out.1, Hfin.out.2⟩
end Go.Proofs.Ytapdlmiioljpgaa
/- The walks through seal.Digest and the awake of chapter 14. -/
namespace Go.Proofs.Ytapdlmiioljpgaa
open Go.RowKit
set_option linter.unusedVariables false

def Sv.digR (base : Int) (snap : ByteArray) (es : List Ent) (r : Int) : Int × Int :=
  if (Sv.segR base snap es r).2 = 0 then ((Sm.hashL (Sv.segR base snap es r).1.data.toList : Int), 0) else (0, (Sv.segR base snap es r).2)
theorem Sv.dig_close {q : Int × Int} {x y : Int} (h : q = (x, y)) : Ending.returned (.tuple #[.int .u64 x, .int .i64 y]) = .returned (.tuple #[.int .u64 q.1, .int .i64 q.2]) := by rw [h]
set_option maxRecDepth 100000 in
set_option maxHeartbeats 2000000 in
theorem digest_any (base : Int) (snap : ByteArray) (A : Option Addr) (c : Nat) (es : List Ent) (r : Int) (w : World) (h : LogOk w A es) (hs : snap.size ≤ maxLen) (hn : es.length * 56 ≤ 140737488355328) (hcap : es.length ≤ c) (hr : -9223372036854775808 ≤ r ∧ r < 9223372036854775808) :
    Calls Try.prog 53 #[.agg #[.int .i64 base, .string snap, .slice A es.length c], .int .i64 r] w fun e w' => e = .returned (.tuple #[.int .u64 (Sv.digR base snap es r).1, .int .i64 (Sv.digR base snap es r).2]) ∧ Below w.heap.size w w' := by
  have Hb1 : Hid (Below w.heap.size w (w.alloc (.cells #[.int .i64 base, .string snap, .slice A es.length c] 84))) := (Below.refl _ _).alloc (Nat.le_refl _) _
  have HS := fun W (hb : Below w.heap.size w W) => Lib.hid (segment_any base snap A c es r W (h.below hb) hs hn hcap hr)
  have hsz := Sv.segR_size base snap es r
  have HB := Lib.hid (Blk.new w 84 #[.int .i64 base, .string snap, .slice A es.length c])
  have HD : Hid (Sv.digR base snap es r = if (Sv.segR base snap es r).2 = 0 then ((Sm.hashL (Sv.segR base snap es r).1.data.toList : Int), 0) else (0, (Sv.segR base snap es r).2)) := rfl
  have HH := fun W => Lib.hid (hash_any (Sv.segR base snap es r).1 W (by unfold maxLen; omega))
  generalize Sv.digR base snap es r = dg at *
  generalize Sv.segR base snap es r = sg at *
  obtain ⟨tx, er⟩ := sg
  simp only at HD HH HS hsz
  clear h
  go_enter Try.func53, Try.ntmps53
  go_wp2_with fail
  refine (HS _ Hb1.out).out.mono ?_
  rintro e w2 ⟨rfl, hb2⟩
  have Hb2 : Hid (Below w.heap.size w w2) := Hb1.out.trans (hb2.mono Hb1.out.size)
  clear hb2 HB Hb1 HS
  by_cases h0 : er = 0
  · have hq : (er != 0) = false := by simpa using h0
    rw [if_pos h0] at HD
    clear h0
    go_wp2_with fail
    refine (HH _).out.mono ?_
    rintro e w3 ⟨rfl, rfl⟩
    go_wp2_with fail
    go_ret2
    exact ⟨Sv.dig_close HD.out, Hb2.out⟩
  · have hq : (er != 0) = true := by simpa using h0
    rw [if_neg h0] at HD
    clear h0
    go_wp2_with fail
    go_ret2
    exact ⟨Sv.dig_close HD.out, Hb2.out⟩
/-- an entry with nothing in it -/
def Sv.e0 : Ent := ((0, 0, 0, 0), (none, 0, []))
theorem Sv.e0_ok (w : World) : EntOk w Sv.e0 := ⟨Reads.none_, (by intro f hf; simp [Sv.e0] at hf), ⟨by decide, by decide, by decide, by decide⟩⟩
theorem Sv.zeros_log (n : Nat) (h : n ≤ 4096) : Sv.logB 0 ⟨#[]⟩ (List.replicate n Sv.e0) = true := by
  refine Sv.log_yes ?_ ?_
  · rw [List.length_replicate]; unfold Sv.headB; rw [show (⟨#[]⟩ : ByteArray).size = 0 from rfl]; simp; omega
  · rw [List.all_eq_true]
    intro q hq
    rw [List.mem_replicate] at hq
    rw [hq.2]
    rfl
theorem Sv.zeros_range {n : Nat} {r : Int} (h1 : 1 ≤ r) (h2 : r * 8 ≤ n) (h3 : n ≤ 4096) : Sv.rangeB 0 (List.replicate n Sv.e0).length r = true := by
  rw [List.length_replicate]
  unfold Sv.rangeB
  rw [decide_eq_true (by omega), decide_eq_true (by omega), decide_eq_true (by omega), decide_eq_true (by omega)]
  rfl
theorem Sv.zeros_good {n : Nat} {r : Int} (h1 : 1 ≤ r) (h2 : r * 8 ≤ n) (h3 : n ≤ 4096) : 12 < (Sv.segR 0 ⟨#[]⟩ (List.replicate n Sv.e0) r).1.size ∧ (Sv.segR 0 ⟨#[]⟩ (List.replicate n Sv.e0) r).2 = 0 :=
  Sv.seg_zero_big (Sv.zeros_log n h3) (Sv.zeros_range h1 h2 h3)
theorem Sv.zeros_bad {n : Nat} {r : Int} (h : r < 1 ∨ n < r * 8) (h3 : n ≤ 4096) : Sv.segR 0 ⟨#[]⟩ (List.replicate n Sv.e0) r = (⟨#[]⟩, 1400) := by
  refine Sv.seg_out ⟨Sv.zeros_log n h3, rfl⟩ (Sv.start_zero _) ?_
  rw [List.length_replicate]
  unfold Sv.rangeB
  rcases h with h | h
  · rw [decide_eq_false (by omega)]; rfl
  · rw [decide_eq_false (by omega : ¬ r * 8 ≤ 0 + (n : Int))]; simp
theorem Sv.zeros_ok {w : World} {A : Option Addr} {n : Nat} (h : Reads w w.heap.size 5 A n ((List.replicate n Sv.e0).flatMap entCells)) : LogOk w A (List.replicate n Sv.e0) :=
  ⟨by rw [List.length_replicate]; exact h, fun q hq => by rw [List.mem_replicate] at hq; rw [hq.2]; exact Sv.e0_ok w, fun q hq => by rw [List.mem_replicate] at hq; rw [hq.2]; decide⟩
/-- the entries of Points in awake -/
def Sv.e1 (b : Nat) : Ent := ((0, 0, 1, 1), (some ⟨b, 0, none⟩, 1, [(⟨#[115]⟩, 0, 0)]))
theorem Sv.aw_pts (b : Nat) : Sv.ptsN 0 [Sv.e0, Sv.e1 b] 2 = ([(1, 1, 2, 2)], [(⟨#[115]⟩, 0, 0)]) := by rfl
theorem info_entry : (Try.prog.info? 43).map (fun i => (i.zero, i.size, i.bytes)) = some (some (.agg #[.int .i64 0, .int .i64 0, .int .i64 0, .int .i64 0, .slice none 0 0]), 5, 56) := by kernel_rfl
theorem Sv.zeros_snoc (j : Nat) : (List.replicate j Sv.e0).flatMap entCells ++ [.int .i64 0, .int .i64 0, .int .i64 0, .int .i64 0, .slice none 0 0] = (List.replicate (j + 1) Sv.e0).flatMap entCells := by
  rw [List.replicate_succ', List.flatMap_append]; rfl
theorem Sv.e1_nums (b : Nat) : (Lit.int .i64 (Sv.e1 b).1.1).wf = true ∧ (Lit.int .i64 (Sv.e1 b).1.2.1).wf = true ∧ (Lit.int .i64 (Sv.e1 b).1.2.2.1).wf = true ∧ (Lit.int .i64 (Sv.e1 b).1.2.2.2).wf = true := by
  have h : (Lit.int .i64 0).wf = true ∧ (Lit.int .i64 0).wf = true ∧ (Lit.int .i64 1).wf = true ∧ (Lit.int .i64 1).wf = true := by decide
  exact h
theorem Sv.aw_ok (W : World) (b : Nat) (hB : Blk W b 88 #[.string ⟨#[115]⟩, .int .i64 0, .int .i64 0]) (g : Nat) (hG : Blk W g 43 ((entCells Sv.e0 ++ entCells (Sv.e1 b)).toArray)) : LogOk W (some ⟨g, 0, none⟩) [Sv.e0, Sv.e1 b] := by
  have hbl := hB.lt
  refine ⟨⟨rfl, fun _ => ⟨g, 0, rfl, hG.lt, fun j u hu => ?_⟩⟩, fun q hq => ?_, fun q hq => ?_⟩
  · rw [Nat.zero_add, hG.cell j, List.getElem?_toArray]
    exact hu
  · rcases List.mem_cons.1 hq with rfl | hq
    · exact Sv.e0_ok W
    · rw [List.mem_singleton] at hq
      subst hq
      refine ⟨⟨rfl, fun _ => ⟨b, 0, rfl, hbl, fun j u hu => ?_⟩⟩, fun f hf => ?_, Sv.e1_nums b⟩
      · rw [Nat.zero_add, hB.cell j, List.getElem?_toArray]
        exact hu
      · have : f = (⟨#[115]⟩, 0, 0) := by simpa [Sv.e1] using hf
        subst this
        exact ⟨by decide, by decide, by decide⟩
  · rcases List.mem_cons.1 hq with rfl | hq
    · decide
    · rw [List.mem_singleton] at hq
      subst hq
      show 1 * 32 ≤ _
      omega
set_option maxRecDepth 100000 in
set_option maxHeartbeats 4000000 in
theorem awake14 (w : World) : Calls Try.prog 51 #[] w fun e w' => e = .returned (.bool true) ∧ Below w.heap.size w w' := by
  obtain ⟨i0, hi, hz0, hz1, hz2⟩ := info_parts info_entry
  have HZ := Lib.hid Sv.zeros_snoc
  go_enter Try.func51, Try.ntmps51
  go_wp2_with fail
  go_loopw [1, 2] (fun v i wr => ∃ j : Nat, j ≤ 8 ∧ i = .int .i64 (j : Int) ∧ Hid (wr.ownsRow w.heap.size 43 5 v j ((List.replicate j Sv.e0).flatMap entCells)) ∧ Hid (Below w.heap.size w wr)) (fun _ i _ => 8 - (intOf i).toNat)
  case atStart => exact ⟨0, Nat.zero_le _, rfl, Lib.hid (own_nil w w.heap.size 43 5), Lib.hid (Below.refl _ _)⟩
  case round =>
    obtain ⟨j, hj, rfl, hown, hbw⟩ := hrel
    have hsw := hbw.out.size
    by_cases hlt : j < 8
    · have Hc := Lib.hid (HZ.out j)
      go_wp2_with (at_builtin; refine wpList_push wr rfl _ _ 66 rfl w.heap.size 43 i0 _ 5 56 Try.underlying66 hi hz0 hz1 hz2 rfl (by decide) _ j _ (by rfl) hown.out [.int .i64 0, .int .i64 0, .int .i64 0, .int .i64 0, .slice none 0 0] (by rfl) rfl (by simp [Value.oneCell']) (by unfold maxLen; omega) (by omega) w hbw.out hsw ?_; intro v8 w8 hown8 hb8)
      have Hown8 : Hid (w8.ownsRow w.heap.size 43 5 v8 (j + 1) ((List.replicate (j + 1) Sv.e0).flatMap entCells)) := by rw [← Hc.out]; exact hown8
      have Hb8 := Lib.hid hb8
      clear hown8 hb8
      go_roundw
      case rel => exact ⟨j + 1, by omega, by go_num, Hown8, Hb8⟩
      case measure => simp [intOf]; omega
    · obtain rfl : j = 8 := by omega
      obtain ⟨A, cp, rfl, hnc, hrd⟩ := own_slice hown.out
      have hlg := Sv.zeros_ok hrd
      obtain ⟨g1, g2⟩ := Sv.zeros_good (n := 8) (r := 1) (by omega) (by omega) (by omega)
      have g3 := Sv.zeros_bad (n := 8) (r := 2) (by omega) (by omega)
      have hS1 := fun W (hb : Below wr.heap.size wr W) => segment_any 0 ⟨#[]⟩ A cp (List.replicate 8 Sv.e0) 1 W (hlg.below hb) (by decide) (by decide) hnc (by omega)
      have hS2 := fun W (hb : Below wr.heap.size wr W) => segment_any 0 ⟨#[]⟩ A cp (List.replicate 8 Sv.e0) 2 W (hlg.below hb) (by decide) (by decide) hnc (by omega)
      have hDg := fun W (hb : Below wr.heap.size wr W) => digest_any 0 ⟨#[]⟩ A cp (List.replicate 8 Sv.e0) 1 W (hlg.below hb) (by decide) (by decide) hnc (by omega)
      unfold Sv.digR at hDg
      rw [if_pos g2] at hDg
      rw [g2] at hS1
      rw [g3] at hS2
      have hsz := Sv.segR_size 0 ⟨#[]⟩ (List.replicate 8 Sv.e0) 1
      have HS1 := Lib.hid hS1
      have HS2 := Lib.hid hS2
      have HDg := Lib.hid hDg
      clear hS1 hS2 hDg hlg hrd g2 g3 hown HZ
      generalize (Sv.segR 0 ⟨#[]⟩ (List.replicate 8 Sv.e0) 1).1 = tx at *
      have HH := fun W => Lib.hid (hash_any tx W (by unfold maxLen; omega))
      go_wp2_with fail
      refine (HS1.out _ (Below.refl _ _)).mono ?_
      rintro e w2 ⟨rfl, hb2⟩
      have Hb2 := Lib.hid hb2
      clear hb2
      go_wp2_with fail
      refine (HDg.out _ Hb2.out).mono ?_
      rintro e w3 ⟨rfl, hb3⟩
      have Hb3 : Hid (Below wr.heap.size wr w3) := Hb2.out.trans (hb3.mono Hb2.out.size)
      clear hb3
      go_wp2_with fail
      refine (HS2.out _ Hb3.out).mono ?_
      rintro e w4 ⟨rfl, hb4⟩
      have Hb4 : Hid (Below wr.heap.size wr w4) := Hb3.out.trans (hb4.mono Hb3.out.size)
      clear hb4 HS1 HDg HS2
      go_wp2_with fail
      have hP := (Blk.new w4 88 #[.string ⟨#[115]⟩, .int .i64 0, .int .i64 0]).alloc (.cells (entCells Sv.e0 ++ entCells (Sv.e1 w4.heap.size)).toArray 43)
      have hE := Blk.new (w4.alloc (.cells #[.string ⟨#[115]⟩, .int .i64 0, .int .i64 0] 88)) 43 ((entCells Sv.e0 ++ entCells (Sv.e1 w4.heap.size)).toArray)
      rw [World.size_alloc] at hE
      have hpt := points_any 0 (by omega) (by omega) (some ⟨w4.heap.size + 1, 0, none⟩) 2 [Sv.e0, Sv.e1 w4.heap.size] _ (Sv.aw_ok _ w4.heap.size hP _ hE) (by show 2 ≤ 64; omega) rfl (fun k hk => by
        have hk2 : k ≤ 2 := hk
        rcases (by omega : k = 0 ∨ k = 1 ∨ k = 2) with rfl | rfl | rfl
        · exact ⟨Nat.zero_le _, Nat.zero_le _⟩
        · exact ⟨by show 1 ≤ 1000; omega, by show 0 ≤ 1000; omega⟩
        · rw [Sv.aw_pts]; exact ⟨by show 1 ≤ 1000; omega, by show 1 ≤ 1000; omega⟩)
      have hpt2 : (Sv.ptsN 0 [Sv.e0, Sv.e1 w4.heap.size] [Sv.e0, Sv.e1 w4.heap.size].length).2 = [Ig.pt 0 0] := by show (Sv.ptsN 0 [Sv.e0, Sv.e1 w4.heap.size] 2).2 = _; rw [Sv.aw_pts]; rfl
      rw [hpt2] at hpt
      have hb5 : Below w4.heap.size w4 ((w4.alloc (.cells #[.string ⟨#[115]⟩, .int .i64 0, .int .i64 0] 88)).alloc (.cells (entCells Sv.e0 ++ entCells (Sv.e1 w4.heap.size)).toArray 43)) := ((Below.refl _ _).alloc (Nat.le_refl _) _).alloc (by simp) _
      have Hb5 : Hid (Below wr.heap.size wr _) := Hb4.out.trans (hb5.mono Hb4.out.size)
      clear hP hE hpt2 hb5
      refine hpt.mono ?_
      clear hpt
      rintro e w6 ⟨v6, rfl, hown6, hb6⟩
      obtain ⟨A6, c6, rfl, _, hr6⟩ := own_slice hown6
      have Hr6 := Lib.hid hr6
      have Hb6 : Hid (Below wr.heap.size wr w6) := Hb5.out.trans (hb6.mono Hb5.out.size)
      clear hown6 hr6 hb6 Hb5 Hb4
      rw [show [Ig.pt 0 0].length = 1 from rfl]
      have hg1 : (12 : Int) < (tx.size : Int) := by omega
      have hg2 : decide ((12 : Int) < (tx.size : Int)) = true := decide_eq_true hg1
      have hg3 : ((Sm.hashL tx.data.toList : Int) == (Sm.hashL tx.data.toList : Int)) = true := by simp
      generalize (Sm.hashL tx.data.toList : Int) = hx at *
      go_wp2_with fail
      refine (errno_any _ _).mono ?_
      rintro e w' ⟨rfl, rfl⟩
      go_wp2_with fail
      refine (errno_any _ _).mono ?_
      rintro e w' ⟨rfl, rfl⟩
      go_wp2_with fail
      refine (HH _).out.mono ?_
      rintro e w' ⟨rfl, rfl⟩
      go_wp2_with fail
      refine (errno_any _ _).mono ?_
      rintro e w' ⟨rfl, rfl⟩
      go_wp2_with fail
      have hb7 : Below w6.heap.size w6 (w6.alloc (.cells #[.string ⟨#[115]⟩, .int .i64 0, .int .i64 0] 88)) := (Below.refl _ _).alloc (Nat.le_refl _) _
      refine (samePoints_true A6 _ c6 _ [Ig.pt 0 0] _ w6.heap.size (w6.heap.size + 1) (Hr6.out.below hb7) (ig_reads_one w6 0 0) (by simp)).mono ?_
      rintro e w9 ⟨rfl, n9, rfl⟩
      have Hb9 : Hid (Below w.heap.size w ((w6.alloc (.cells #[.string ⟨#[115]⟩, .int .i64 0, .int .i64 0] 88)).drewN n9)) := below_drewN (hbw.out.trans ((Hb6.out.trans (hb7.mono Hb6.out.size)).mono hsw)) n9
      clear hb7
      go_wp2_with fail
      refine (errno_any _ _).mono ?_
      rintro e w' ⟨rfl, rfl⟩
      go_wp2_with fail
      go_ret
      exact ⟨rfl, Hb9.out⟩
end Go.Proofs.Ytapdlmiioljpgaa
