/- The walk through column.Texts. -/
import Derived.Test.YthdbmgjlegpbaaaClInts
import Derived.Deep.LoopGhost
namespace Go.Proofs.Ythdbmgjlegpbaaa
open Go.RowKit
set_option linter.unusedVariables false

theorem info_string : (Try.prog.info? 9).map (fun i => (i.zero, i.size, i.bytes)) = some (some (.string ⟨#[]⟩), 1, 16) := by kernel_rfl
/-- a builder beside a row of another type that is pushed to -/
theorem bld_push {B b : Nat} {bs : List Value} {w w' : World} (h : Bld B b bs w) {base : Nat} {T : TypeId} {size n : Nat} {v : Value} {xs : List Value} (hown : w.ownsRow base T size v n xs) (ho : Only (fun k => v.ownBlock = some k) w w') (h1 : T ≠ 72) (h2 : T ≠ 5) : Bld B b bs w' := by
  have hne : ∀ g cs t fz, w.heap[g]? = some (.cells cs t fz) → T ≠ t → v.ownBlock ≠ some g := by
    intro g cs t fz hg hT e
    rcases hown.2 with ⟨rfl, _⟩ | ⟨g', cap, cur, rfl, _, hh, _⟩
    · simp [Value.ownBlock] at e
    · have : g' = g := by simpa [Value.ownBlock] using e
      subst this
      rw [hh] at hg
      injection hg with hg
      injection hg with _ ht
      exact hT ht
  have up : ∀ p, Lib.BuilderAtF 72 5 B b p bs w → Lib.BuilderAtF 72 5 B b p bs w' := by
    rintro p hh
    have hlt := hh.lt
    obtain ⟨e1, v', e2, e3, e4⟩ := hh
    refine ⟨e1, v', (ho.block b hlt (hne b _ _ _ e2 h1)).trans e2, ⟨e3.1, ?_⟩, e4⟩
    rcases e3.2 with h0 | ⟨g, cap, cur, fz, q1, q2, q3, q4⟩
    · exact .inl h0
    · exact .inr ⟨g, cap, cur, fz, q1, q2, (ho.block g (Array.getElem?_eq_some_iff.1 q3).1 (hne g _ _ _ q3 h2)).trans q3, q4⟩
  rcases h with h | h
  · exact .inl (up _ h)
  · exact .inr (up _ h)
theorem textsB_no {xs : List ByteArray} {k : Nat} (hk : k < xs.length) (h : ¬ xs[k].size ≤ 12) : Cl.textsB xs = ⟨#[]⟩ := by
  unfold Cl.textsB Cl.shortB
  rw [if_neg]
  rw [List.all_eq_true]
  intro e
  exact h (of_decide_eq_true (e xs[k] (List.getElem_mem _)))
/-- what has been done with the first k texts -/
def TxRel (xs : List ByteArray) (k : Nat) (ws : List ByteArray) (ks : List Nat) : Prop := (Cl.txGo [] xs).1 = (Cl.txGo ws (xs.drop k)).1 ∧ (Cl.txGo [] xs).2 = ks ++ (Cl.txGo ws (xs.drop k)).2 ∧ (∀ x ∈ xs.take k, x.size ≤ 12)
theorem tx_start (xs : List ByteArray) : TxRel xs 0 [] [] := ⟨by simp, by simp, by simp⟩
theorem tx_found {xs ws : List ByteArray} {k : Nat} {ks : List Nat} (h : TxRel xs k ws ks) (hk : k < xs.length) (hx : xs[k].size ≤ 12) {j : Nat} (hj : j < ws.length) (he : ws[j] = xs[k]) (hf : ∀ i (hi : i < j), ws[i]'(by omega) ≠ xs[k]) : TxRel xs (k + 1) ws (ks ++ [j]) := by
  have hi := Cl.idx_first hj he hf
  obtain ⟨h1, h2, h3⟩ := h
  rw [List.drop_eq_getElem_cons hk, Cl.txGo, hi, if_pos hj] at h1 h2
  refine ⟨h1, by rw [h2]; simp, fun x hx' => ?_⟩
  rw [List.take_succ_eq_append_getElem hk] at hx'
  rcases List.mem_append.1 hx' with h | h
  · exact h3 x h
  · simp at h; subst h; exact hx
theorem tx_new {xs ws : List ByteArray} {k : Nat} {ks : List Nat} (h : TxRel xs k ws ks) (hk : k < xs.length) (hx : xs[k].size ≤ 12) (hf : ∀ i (hi : i < ws.length), ws[i] ≠ xs[k]) : TxRel xs (k + 1) (ws ++ [xs[k]]) (ks ++ [ws.length]) := by
  have hi := Cl.idx_none hf
  obtain ⟨h1, h2, h3⟩ := h
  rw [List.drop_eq_getElem_cons hk, Cl.txGo, hi, if_neg (Nat.lt_irrefl _)] at h1 h2
  refine ⟨h1, by rw [h2]; simp, fun x hx' => ?_⟩
  rw [List.take_succ_eq_append_getElem hk] at hx'
  rcases List.mem_append.1 hx' with h | h
  · exact h3 x h
  · simp at h; subst h; exact hx
theorem tx_done {xs ws : List ByteArray} {k : Nat} {ks : List Nat} (h : TxRel xs k ws ks) (hk : ¬ k < xs.length) : Cl.textsB xs = ⟨(Wr.putL (ws.length : Int) ++ Cl.wordsL ws ++ Cl.placesL ks).toArray⟩ ∧ ∀ w ∈ ws, w.size ≤ 12 := by
  obtain ⟨h1, h2, h3⟩ := h
  rw [List.drop_eq_nil_of_le (by omega), Cl.txGo] at h1 h2
  rw [List.take_of_length_le (by omega)] at h3
  have hs : Cl.shortB xs = true := by unfold Cl.shortB; rw [List.all_eq_true]; exact fun x hx => decide_eq_true (h3 x hx)
  refine ⟨?_, ?_⟩
  · unfold Cl.textsB
    rw [if_pos hs]
    unfold Cl.textsL
    rw [h1, h2]; simp
  · have h1' : (Cl.txGo [] xs).1 = ws := h1
    rw [← h1']
    exact Cl.tx_short [] xs (by simp) h3
theorem places_snoc (ks : List Nat) (j : Nat) : Cl.placesL (ks ++ [j]) = Cl.placesL ks ++ Wr.putL (j : Int) := by simp [Cl.placesL]
theorem words_take (ws : List ByteArray) (j : Nat) (h : j < ws.length) : Cl.wordsL (ws.take (j + 1)) = Cl.wordsL (ws.take j) ++ (Wr.textB ws[j]).data.toList := by
  unfold Cl.wordsL; rw [List.take_succ_eq_append_getElem h, List.flatMap_append]; simp
theorem textB_13 {s : ByteArray} (h : s.size ≤ 12) : (Wr.textB s).size ≤ 13 := by
  unfold Wr.textB; rw [ByteArray.size_append, Wr.putB_size, Cl.putL_one _ (by omega) (by omega)]; omega
theorem two_strings (a b : List UInt8) : (⟨a.toArray⟩ : ByteArray) ++ ⟨b.toArray⟩ = ⟨(a ++ b).toArray⟩ := by
  apply Wr.ext_list; rw [Wr.append_list]
theorem str_eq_of {a b : ByteArray} (h : a = b) : (a.toList == b.toList) = true := by subst h; simp
theorem str_ne_of {a b : ByteArray} (h : a ≠ b) : (a.toList == b.toList) = false := by
  rw [beq_eq_false_iff_ne, Lib.toList_data, Lib.toList_data]
  exact fun e => h (Wr.ext_list e)

set_option maxRecDepth 100000 in
set_option maxHeartbeats 2000000 in
theorem texts_any (A : Option Addr) (c : Nat) (xs : List ByteArray) (w : World) (B : Nat) (hr : Reads w B 1 A xs.length (xs.map Value.string)) (hB : B ≤ w.heap.size) (hn : xs.length * 16 ≤ 140737488355328) :
    Calls Try.prog 15 #[.slice A xs.length c] w fun e w' => e = .returned (.string (Cl.textsB xs)) ∧ Below w.heap.size w w' := by
  obtain ⟨i0, hi, hz0, hz1, hz2⟩ := info_parts info_string
  have HRd := Lib.hid hr
  have HD := Lib.hid (fun k (hk : k < xs.length) h => textsB_no hk h)
  have HE := Lib.hid (fun ws k ks h h' => @tx_done xs ws k ks h h')
  clear hr
  generalize Cl.textsB xs = res at *
  go_enter Try.func15, Try.ntmps15
  go_wp2_with fail
  go_step3
  go_wp2_with fail
  go_step3
  go_wp2_with fail
  have hbn := bld_new w
  have hba : Below w.heap.size w (w.alloc (.cells #[.pointer none, .slice none 0 0] 72)) := (Below.refl _ _).alloc (Nat.le_refl _) _
  have Hbn := Lib.hid hbn
  have Hba := Lib.hid hba
  clear hbn hba
  generalize w.alloc (.cells #[.pointer none, .slice none 0 0] 72) = w2 at *
  generalize hbe : w.heap.size = b at *
  have Hbe := Lib.hid hbe
  clear hbe
  go_loopg [3, 6, 7, 8, 14] xs.length (fun gg vw _ _ _ i wr => ∃ (k : Nat) (ws : List ByteArray) (ks : List Nat), k ≤ xs.length ∧ xs.length - k ≤ gg ∧ i = .int .i64 (k : Int) ∧ Hid (TxRel xs k ws ks) ∧ ws.length ≤ k ∧ (Cl.placesL ks).length ≤ 7 * k ∧ Hid (wr.ownsRow (b + 1) 9 1 vw ws.length (ws.map Value.string)) ∧ Hid (Bld b b (Lib.byteCells (Cl.placesL ks)) wr) ∧ Hid (Below b w wr))
  case atStart => exact ⟨0, [], [], Nat.zero_le _, by omega, rfl, Lib.hid (tx_start xs), by simp, by simp [Cl.placesL], Lib.hid (own_nil _ _ _ _), Hbn, Hba⟩
  case round =>
    obtain ⟨k, ws, ks, hk, hgg, rfl, hrel, hwl, hll, hown, hBl, hbl⟩ := hrel
    obtain ⟨Wo, hWo⟩ : ∃ Wo, Wo = wr := ⟨_, rfl⟩
    subst hWo
    have hltb := (bld_lt hBl.out).2
    by_cases hlt : k < xs.length
    · obtain ⟨bb, off, rfl, hbb, hc⟩ := HRd.out.2 (by omega)
      have hcell := map_cell (wr := Wo) hlt hc (fun p hp => hbl.out.cell (p := p) (by omega)) hbb
      clear hc
      by_cases h12 : xs[k].size ≤ 12
      · obtain ⟨Aw, cw, rfl, hnc, hrw⟩ := own_slice hown.out
        have HF := Lib.hid (fun j (hj : j < ws.length) he hf => tx_found hrel.out hlt h12 (j := j) hj he hf)
        have HN := Lib.hid (fun hf => tx_new hrel.out hlt h12 hf)
        have Hrw := Lib.hid hrw
        clear hrw hrel HD HE
        generalize hxk : xs[k] = x at *
        clear hxk
        go_wp2_with fail
        go_loopg [7, 8, 23] ws.length (fun g2 _ _ i w' => ∃ j : Nat, j ≤ ws.length ∧ ws.length - j ≤ g2 ∧ i = .int .i64 (j : Int) ∧ Hid (∀ i (hi : i < ws.length), i < j → ws[i] ≠ x) ∧ Wo = w')
        case atStart => exact ⟨0, Nat.zero_le _, by omega, rfl, Lib.hid (fun i hi h => absurd h (Nat.not_lt_zero _)), rfl⟩
        case round =>
          obtain ⟨j, hj, hg2, rfl, hfr, rfl⟩ := hrel
          by_cases hj2 : j < ws.length
          · obtain ⟨bw, ow, rfl, hbw, hcw⟩ := Hrw.out.2 (by omega)
            have hcellw := map_cell (wr := Wo) (B := Wo.heap.size) hj2 hcw (fun p hp => rfl) hbw
            clear hcw
            by_cases he : ws[j] = x
            · have hT := Lib.hid (HF.out j hj2 he (fun i hi => hfr.out i (by omega) hi))
              have hz := str_eq_of he
              have hj7 := Cl.putL_seven j (by omega)
              have hps := Wr.putB_size (j : Int)
              have hp7 : (Wr.putB (j : Int)).size ≤ 7 := by omega
              have Hpl := Lib.hid (Wr.putB_list (j : Int))
              have Hsn := Lib.hid (places_snoc ks j)
              have HP := fun W => Lib.hid (putNum_any (j : Int) W (by omega))
              clear HF HN hfr he hps
              go_wp2_with fail
              refine (HP _).out.mono ?_
              rintro e w3 ⟨rfl, hb3⟩
              have Hb3 := Lib.hid hb3
              have hs3 := hb3.size
              clear hb3
              generalize Wr.putB (j : Int) = PB at *
              go_wp2_with fail
              refine (write_any b b (Cl.placesL ks) PB w3 (bld_below hBl.out Hb3.out) (by omega) (by omega)).mono ?_
              rintro e w4 ⟨rfl, hB4, hb4, hk4⟩
              rw [Hpl.out, ← Hsn.out] at hB4
              have HB4 := Lib.hid hB4
              have Hb4 : Hid (Below b w w4) := hbl.out.trans ((Hb3.out.mono (by omega)).trans hb4)
              have Ho4 := Lib.hid (own_others (own_only hown.out (Only.new (fun _ => False) Hb3.out) (fun _ _ h => h)) hk4 (own_ne_lt hown.out (Nat.lt_succ_self b)) (by decide))
              have hl2 : (Cl.placesL (ks ++ [j])).length ≤ 7 * (k + 1) := by rw [Hsn.out, List.length_append]; omega
              clear hB4 hb4 hk4
              go_wp2_with fail
              go_roundg (xs.length - (k + 1))
              case rel => exact ⟨k + 1, ws, ks ++ [j], by omega, by omega, by go_num, hT, by omega, hl2, Ho4, HB4, Hb4⟩
              case measure => omega
            · have hz := str_ne_of he
              have hF2 : Hid (∀ i (hi : i < ws.length), i < j + 1 → ws[i] ≠ x) := fun i hi h => by
                by_cases e : i = j
                · subst e; exact he
                · exact hfr.out i hi (by omega)
              clear HF HN hfr he
              go_wp2_with fail
              go_roundg (ws.length - (j + 1))
              case rel => exact ⟨j + 1, by omega, by omega, by go_num, hF2, rfl⟩
              case measure => omega
          · have hT := Lib.hid (HN.out (fun i hi => hfr.out i hi (by omega)))
            have hj7 := Cl.putL_seven ws.length (by omega)
            have hps := Wr.putB_size (ws.length : Int)
            have hp7 : (Wr.putB (ws.length : Int)).size ≤ 7 := by omega
            have Hpl := Lib.hid (Wr.putB_list (ws.length : Int))
            have Hsn := Lib.hid (places_snoc ks ws.length)
            have HP := fun W => Lib.hid (putNum_any (ws.length : Int) W (by omega))
            clear HF HN hfr hps
            go_wp2_with fail
            refine (HP _).out.mono ?_
            rintro e w3 ⟨rfl, hb3⟩
            have Hb3 := Lib.hid hb3
            have hs3 := hb3.size
            clear hb3
            generalize Wr.putB (ws.length : Int) = PB at *
            go_wp2_with fail
            refine (write_any b b (Cl.placesL ks) PB w3 (bld_below hBl.out Hb3.out) (by omega) (by omega)).mono ?_
            rintro e w4 ⟨rfl, hB4, hb4, hk4⟩
            rw [Hpl.out, ← Hsn.out] at hB4
            have HB4 := Lib.hid hB4
            have Hb4 : Hid (Below b w w4) := hbl.out.trans ((Hb3.out.mono (by omega)).trans hb4)
            have Ho4 := Lib.hid (own_others (own_only hown.out (Only.new (fun _ => False) Hb3.out) (fun _ _ h => h)) hk4 (own_ne_lt hown.out (Nat.lt_succ_self b)) (by decide))
            have hl2 : (Cl.placesL (ks ++ [ws.length])).length ≤ 7 * (k + 1) := by rw [Hsn.out, List.length_append]; omega
            have hs4 := (bld_lt HB4.out).2
            clear hB4 hb4 hk4
            go_wp2_with (at_builtin; refine wpList_push_only _ rfl _ _ 24 rfl (b + 1) 9 i0 _ 1 16 Try.underlying24 hi hz0 hz1 hz2 rfl (by decide) _ ws.length _ (by rfl) Ho4.out [.string x] (by rfl) rfl (by simp [Value.oneCell']) (by unfold maxLen; omega) (by omega) (by omega) ?_; intro v8 w8 hown8 ho8 _)
            have Hown8 : Hid (w8.ownsRow (b + 1) 9 1 v8 (ws ++ [x]).length ((ws ++ [x]).map Value.string)) := by
              show World.ownsRow _ _ _ _ _ _ _
              rw [List.length_append, List.map_append]; exact hown8
            have HB8 := Lib.hid (bld_push HB4.out Ho4.out ho8 (by decide) (by decide))
            have Hb8 : Hid (Below b w w8) := Hb4.out.trans (ho8.below (fun j hj e => own_ne_lt Ho4.out (by omega) e) (by omega))
            have hwl2 : (ws ++ [x]).length ≤ k + 1 := by simp; omega
            clear hown8 ho8
            go_wp2_with fail
            go_roundg (xs.length - (k + 1))
            case rel => exact ⟨k + 1, ws ++ [x], ks ++ [ws.length], by omega, by omega, by go_num, hT, hwl2, hl2, Hown8, HB8, Hb8⟩
            case measure => omega
      · have HR := Lib.hid (HD.out k hlt h12)
        have h12' : 12 < xs[k].size := by omega
        clear HD HE hrel
        generalize xs[k] = x at *
        go_wp2_with fail
        (try rw [Exit.noGoto_ret])
        go_ret
        exact ⟨ret_str HR.out.symm, by rw [Hbe.out]; exact hbl.out⟩
    · have hE := HE.out ws k ks hrel.out hlt
      have HRes := Lib.hid hE.1
      have HSh := Lib.hid hE.2
      obtain ⟨Aw, cw, rfl, hnc, hrw⟩ := own_slice hown.out
      have Hrw := Lib.hid hrw
      clear HD HE hrel hE hrw
      have hp8 := Wr.putL_len (ws.length : Int)
      have hps := Wr.putB_size (ws.length : Int)
      have hp8' : (Wr.putB (ws.length : Int)).size ≤ 8 := by omega
      have Hpl := Lib.hid (Wr.putB_list (ws.length : Int))
      have HP := fun W => Lib.hid (putNum_any (ws.length : Int) W (by omega))
      clear hps
      go_wp2_with fail
      have hbn := bld_new Wo
      have hba : Below Wo.heap.size Wo (Wo.alloc (.cells #[.pointer none, .slice none 0 0] 72)) := (Below.refl _ _).alloc (Nat.le_refl _) _
      have hzz : Wo.heap.size < (Wo.alloc (.cells #[.pointer none, .slice none 0 0] 72)).heap.size := by simp
      have Hbn2 := Lib.hid hbn
      have Hba2 := Lib.hid hba
      clear hbn hba
      generalize Wo.alloc (.cells #[.pointer none, .slice none 0 0] 72) = w5 at *
      generalize hb2e : Wo.heap.size = b2 at *
      have Hb2e := Lib.hid hb2e
      clear hb2e
      refine (HP _).out.mono ?_
      rintro e w6 ⟨rfl, hb6⟩
      have Hb6 := Lib.hid hb6
      have hs6 := hb6.size
      clear hb6
      generalize Wr.putB (ws.length : Int) = PB at *
      go_wp2_with fail
      refine (write_any b2 b2 [] PB w6 (bld_below Hbn2.out Hb6.out) (by simp; omega) (by omega)).mono ?_
      rintro e w7 ⟨rfl, hB7, hb7, _⟩
      rw [Hpl.out, List.nil_append] at hB7
      have HB7 := Lib.hid hB7
      have Hb7 : Hid (Below b2 Wo w7) := Hba2.out.trans ((Hb6.out.mono (by omega)).trans hb7)
      clear hB7 hb7
      go_wp2_with fail
      go_loopw [11, 50] (fun _ i w' => ∃ (j : Nat) (l : List UInt8), j ≤ ws.length ∧ i = .int .i64 (j : Int) ∧ Hid (l = Wr.putL (ws.length : Int) ++ Cl.wordsL (ws.take j)) ∧ l.length ≤ 8 + 13 * j ∧ Hid (Bld b2 b2 (Lib.byteCells l) w') ∧ Hid (Below b2 Wo w')) (fun _ i _ => ws.length - (intOf i).toNat)
      case atStart => exact ⟨0, _, Nat.zero_le _, rfl, Lib.hid (by simp [Cl.wordsL]), by omega, HB7, Hb7⟩
      case round =>
        obtain ⟨j, l, hj, rfl, hl, hl13, hBj, hbj⟩ := hrel
        have hltj := (bld_lt hBj.out).2
        by_cases hj2 : j < ws.length
        · obtain ⟨bw, ow, rfl, hbw, hcw⟩ := Hrw.out.2 (by omega)
          have hcellw := map_cell (wr := wr) (B := b2) hj2 hcw (fun p hp => hbj.out.cell (p := p) hp) hbw
          have hsz := HSh.out ws[j] (List.getElem_mem _)
          have h13 := textB_13 hsz
          have HT := fun W => Lib.hid (putText_any ws[j] W (by omega))
          have Hwt := Lib.hid (words_take ws j hj2)
          clear hcw
          generalize ws[j] = x at *
          go_wp2_with fail
          refine (HT _).out.mono ?_
          rintro e w8 ⟨rfl, hb8⟩
          have Hb8 := Lib.hid hb8
          have hs8 := hb8.size
          clear hb8
          generalize Wr.textB x = TB at *
          go_wp2_with fail
          refine (write_any b2 b2 l TB w8 (bld_below hBj.out Hb8.out) (by omega) (by omega)).mono ?_
          rintro e w9 ⟨rfl, hB9, hb9, _⟩
          have HB9 := Lib.hid hB9
          have Hb9 : Hid (Below b2 Wo w9) := hbj.out.trans ((Hb8.out.mono (by omega)).trans hb9)
          have HL9 : Hid (l ++ TB.data.toList = Wr.putL (ws.length : Int) ++ Cl.wordsL (ws.take (j + 1))) := by
            show _ = _
            rw [Hwt.out, hl.out, List.append_assoc]
          have hl9 : (l ++ TB.data.toList).length ≤ 8 + 13 * (j + 1) := by rw [List.length_append, Wr.len_list]; omega
          clear hB9 hb9
          generalize l ++ TB.data.toList = l2 at *
          go_wp2_with fail
          go_roundw
          case rel => exact ⟨j + 1, l2, by omega, by go_num, HL9, hl9, HB9, Hb9⟩
          case measure => simp [intOf]; omega
        · have hl' : Hid (l = Wr.putL (ws.length : Int) ++ Cl.wordsL ws) := by
            have := hl.out
            rw [List.take_of_length_le (by omega)] at this
            exact this
          have hB' : Hid (Bld b b (Lib.byteCells (Cl.placesL ks)) wr) := bld_below hBl.out (by rw [Hb2e.out]; exact hbj.out)
          go_wp2_with fail
          refine (bstring_any b2 b2 l wr hBj.out (by omega)).mono ?_
          rintro e w10 ⟨rfl, _, hb10, _⟩
          have Hb10 : Hid (Below b2 Wo w10) := hbj.out.trans hb10
          have hs10 := hb10.size
          clear hb10
          go_wp2_with fail
          refine (bstring_any b b (Cl.placesL ks) w10 (bld_below hBl.out (by rw [Hb2e.out]; exact Hb10.out)) (by omega)).mono ?_
          rintro e w11 ⟨rfl, _, hb11, _⟩
          have Hb11 : Hid (Below b w w11) := hbl.out.trans ((Hb10.out.mono (by omega)).trans hb11)
          have Hfin : Hid (res = ⟨l.toArray⟩ ++ ⟨(Cl.placesL ks).toArray⟩) := by
            show _ = _
            rw [HRes.out, two_strings, hl'.out]
          have hq1 : (⟨l.toArray⟩ : ByteArray).size ≤ 140737488355328 := by
            have : (⟨l.toArray⟩ : ByteArray).size = l.length := by rw [← Wr.len_list]
            omega
          have hq2 : (⟨(Cl.placesL ks).toArray⟩ : ByteArray).size ≤ 140737488355328 := by
            have : (⟨(Cl.placesL ks).toArray⟩ : ByteArray).size = (Cl.placesL ks).length := by rw [← Wr.len_list]
            omega
          clear hb11 hl hl' HRes
          generalize (⟨l.toArray⟩ : ByteArray) = S1 at *
          generalize (⟨(Cl.placesL ks).toArray⟩ : ByteArray) = S2 at *
          go_wp2_with fail
          (try rw [Exit.noGoto_ret])
          go_ret
          exact ⟨ret_str Hfin.out.symm, by rw [Hbe.out]; exact Hb11.out⟩
end Go.Proofs.Ythdbmgjlegpbaaa
