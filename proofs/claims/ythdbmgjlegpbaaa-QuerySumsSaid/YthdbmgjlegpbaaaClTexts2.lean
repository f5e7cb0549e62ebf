/- The walks through place, Contains and the reference's Texts. -/
import Derived.Test.YthdbmgjlegpbaaaClTexts
namespace Go.Proofs.Ythdbmgjlegpbaaa
open Go.RowKit
set_option linter.unusedVariables false

def Cl.placeI (ws : List ByteArray) (x : ByteArray) : Int := if Cl.idx ws x < ws.length then (Cl.idx ws x : Int) else -1
theorem place_found {ws : List ByteArray} {x : ByteArray} {j : Nat} (hj : j < ws.length) (he : ws[j] = x) (hf : ∀ i (hi : i < ws.length), i < j → ws[i] ≠ x) : Cl.placeI ws x = (j : Int) := by
  have hi := Cl.idx_first hj he (fun i hi => hf i (by omega) hi)
  unfold Cl.placeI; rw [hi, if_pos hj]
theorem place_none {ws : List ByteArray} {x : ByteArray} (hf : ∀ i (hi : i < ws.length), ws[i] ≠ x) : Cl.placeI ws x = -1 := by
  have hi := Cl.idx_none hf
  unfold Cl.placeI; rw [hi, if_neg (Nat.lt_irrefl _)]

set_option maxRecDepth 100000 in
set_option maxHeartbeats 400000 in
theorem place_any (A : Option Addr) (c : Nat) (ws : List ByteArray) (x : ByteArray) (w : World) (B : Nat) (hr : Reads w B 1 A ws.length (ws.map Value.string)) (hn : ws.length ≤ 140737488355328) :
    Calls Try.prog 88 #[.slice A ws.length c, .string x] w fun e w' => e = .returned (.int .i64 (Cl.placeI ws x)) ∧ w = w' := by
  have HR := Lib.hid hr
  have HF := Lib.hid (fun j (hj : j < ws.length) he hf => place_found (x := x) hj he hf)
  have HN := Lib.hid (fun hf => place_none (ws := ws) (x := x) hf)
  clear hr
  generalize Cl.placeI ws x = res at *
  go_enter Try.func88, Try.ntmps88
  go_wp2
  go_loop [5] (fun i => ∃ j : Nat, j ≤ ws.length ∧ i = .int .i64 (j : Int) ∧ Hid (∀ i (hi : i < ws.length), i < j → ws[i] ≠ x)) (fun i => ws.length - (intOf i).toNat)
  case atStart => exact ⟨0, Nat.zero_le _, rfl, Lib.hid (fun i hi h => absurd h (Nat.not_lt_zero _))⟩
  case round =>
    obtain ⟨j, hj, rfl, hfr⟩ := hrel
    by_cases hj2 : j < ws.length
    · obtain ⟨b, off, rfl, hb, hc⟩ := HR.out.2 (by omega)
      have hcell := map_cell (wr := w) (B := B) hj2 hc (fun p hp => rfl) hb
      clear hc
      by_cases he : ws[j] = x
      · have HRes := Lib.hid (HF.out j hj2 he hfr.out)
        have hz : (ws[j].toList == x.toList) = true := str_eq_of he
        clear HF HN hfr he
        go_wp2
        go_ret
        exact ⟨ret_int HRes.out.symm, rfl⟩
      · have hz : (ws[j].toList == x.toList) = false := str_ne_of he
        have hF2 : Hid (∀ i (hi : i < ws.length), i < j + 1 → ws[i] ≠ x) := fun i hi h => by
          by_cases e : i = j
          · subst e; exact he
          · exact hfr.out i hi (by omega)
        clear HF HN hfr he
        go_wp2
        go_round
        case rel => exact ⟨j + 1, by omega, by go_num, hF2⟩
        case measure => simp [intOf]; omega
    · have HRes := Lib.hid (HN.out (fun i hi => hfr.out i hi (by omega)))
      clear HF HN hfr
      go_wp2
      go_ret
      exact ⟨ret_int HRes.out.symm, rfl⟩


set_option maxRecDepth 100000 in
set_option maxHeartbeats 400000 in
theorem index_any (A : Option Addr) (c : Nat) (ws : List ByteArray) (x : ByteArray) (w : World) (B : Nat) (hr : Reads w B 1 A ws.length (ws.map Value.string)) (hn : ws.length ≤ 140737488355328) :
    Calls Try.prog 75 #[.slice A ws.length c, .string x] w fun e w' => e = .returned (.int .i64 (Cl.placeI ws x)) ∧ w = w' := by
  have HR := Lib.hid hr
  have HF := Lib.hid (fun j (hj : j < ws.length) he hf => place_found (x := x) hj he hf)
  have HN := Lib.hid (fun hf => place_none (ws := ws) (x := x) hf)
  clear hr
  generalize Cl.placeI ws x = res at *
  go_enter Try.func75, Try.ntmps75
  go_wp2
  go_loop [5, 8] (fun _ i => ∃ j : Nat, j ≤ ws.length ∧ i = .int .i64 (j : Int) ∧ Hid (∀ i (hi : i < ws.length), i < j → ws[i] ≠ x)) (fun _ i => ws.length - (intOf i).toNat)
  case atStart => exact ⟨0, Nat.zero_le _, rfl, Lib.hid (fun i hi h => absurd h (Nat.not_lt_zero _))⟩
  case round =>
    obtain ⟨j, hj, rfl, hfr⟩ := hrel
    by_cases hj2 : j < ws.length
    · obtain ⟨b, off, rfl, hb, hc⟩ := HR.out.2 (by omega)
      have hcell := map_cell (wr := w) (B := B) hj2 hc (fun p hp => rfl) hb
      clear hc
      by_cases he : ws[j] = x
      · have HRes := Lib.hid (HF.out j hj2 he hfr.out)
        have hz : (x.toList == ws[j].toList) = true := str_eq_of he.symm
        clear HF HN hfr he
        go_wp2
        go_ret
        exact ⟨ret_int HRes.out.symm, rfl⟩
      · have hz : (x.toList == ws[j].toList) = false := str_ne_of (fun e => he e.symm)
        have hF2 : Hid (∀ i (hi : i < ws.length), i < j + 1 → ws[i] ≠ x) := fun i hi h => by
          by_cases e : i = j
          · subst e; exact he
          · exact hfr.out i hi (by omega)
        clear HF HN hfr he
        go_wp2
        go_round
        case rel => exact ⟨j + 1, by omega, by go_num, hF2⟩
        case measure => simp [intOf]; omega
    · have HRes := Lib.hid (HN.out (fun i hi => hfr.out i hi (by omega)))
      clear HF HN hfr
      go_wp2
      go_ret
      exact ⟨ret_int HRes.out.symm, rfl⟩

theorem place_ge (ws : List ByteArray) (x : ByteArray) : decide (0 ≤ Cl.placeI ws x) = decide (Cl.idx ws x < ws.length) := by
  unfold Cl.placeI
  split
  · rename_i h; simp [h]
  · rename_i h; simp [h]
theorem contains_any (A : Option Addr) (c : Nat) (ws : List ByteArray) (x : ByteArray) (w : World) (B : Nat) (hr : Reads w B 1 A ws.length (ws.map Value.string)) (hn : ws.length ≤ 140737488355328) :
    Calls Try.prog 46 #[.slice A ws.length c, .string x] w fun e w' => e = .returned (.bool (decide (Cl.idx ws x < ws.length))) ∧ w = w' := by
  have H1 := Lib.hid (index_any A c ws x w B hr hn)
  have HP := Lib.hid (place_ge ws x)
  clear hr
  generalize decide (Cl.idx ws x < ws.length) = res at *
  generalize Cl.placeI ws x = p at *
  go_enter Try.func46, Try.ntmps46
  go_wp2_with fail
  refine H1.out.mono ?_
  rintro e w' ⟨rfl, rfl⟩
  go_wp2_with fail
  go_ret
  exact ⟨ret_bool HP.out, rfl⟩

/-- two rows of different types: a push to the one leaves the other -/
theorem own_push {w w' : World} {base base' : Nat} {T T' : TypeId} {size size' n n' : Nat} {v v' : Value} {xs xs' : List Value} (h : w.ownsRow base T size v n xs) (h' : w.ownsRow base' T' size' v' n' xs') (ho : Only (fun k => v'.ownBlock = some k) w w') (hne : T ≠ T') : w'.ownsRow base T size v n xs :=
  own_only h ho (fun g hg e => by
    rcases own_own_ne h h' hne with k | k
    · rw [k] at hg; cases hg
    · exact k (by rw [hg, e]))
def intsOf (ks : List Nat) : List Value := ks.map fun (k : Nat) => Value.int .i64 (k : Int)

theorem placesL_le (ks : List Nat) (m : Nat) (h : ∀ k ∈ ks, k ≤ 140737488355328) : (Cl.placesL ks).length ≤ 7 * ks.length := by
  induction ks with
  | nil => simp [Cl.placesL]
  | cons k ks ih =>
    have h1 := Cl.putL_seven k (h k (by simp))
    have h2 := ih (fun j hj => h j (by simp [hj]))
    unfold Cl.placesL at h2 ⊢
    rw [List.flatMap_cons, List.length_append, List.length_cons]; omega
theorem putL_len8 (x : Int) : (Wr.putB x).size ≤ 8 := by rw [Wr.putB_size]; exact Wr.putL_len x
theorem places_take (ks : List Nat) (j : Nat) (h : j < ks.length) : Cl.placesL (ks.take (j + 1)) = Cl.placesL (ks.take j) ++ Wr.putL (ks[j] : Int) := by
  rw [List.take_succ_eq_append_getElem h, places_snoc]

set_option maxRecDepth 100000 in
set_option maxHeartbeats 2000000 in
theorem rtexts_any (A : Option Addr) (c : Nat) (xs : List ByteArray) (w : World) (B : Nat) (hr : Reads w B 1 A xs.length (xs.map Value.string)) (hB : B ≤ w.heap.size) (hn : xs.length * 16 ≤ 140737488355328) :
    Calls Try.prog 64 #[.slice A xs.length c] w fun e w' => e = .returned (.string (Cl.textsB xs)) ∧ Below w.heap.size w w' := by
  obtain ⟨i0, hi, hz0, hz1, hz2⟩ := info_parts info_string
  obtain ⟨i1, hi', hy0, hy1, hy2⟩ := info_parts info_int
  have HRd := Lib.hid hr
  have HD := Lib.hid (fun k (hk : k < xs.length) h => textsB_no hk h)
  have HE := Lib.hid (fun ws k ks h h' => @tx_done xs ws k ks h h')
  clear hr
  generalize Cl.textsB xs = res at *
  go_enter Try.func64, Try.ntmps64
  go_wp2_with fail
  go_loopw [3, 4, 5, 6] (fun vw va i _ wr => ∃ (k : Nat) (ws : List ByteArray) (ks : List Nat), k ≤ xs.length ∧ i = .int .i64 (k : Int) ∧ Hid (TxRel xs k ws ks) ∧ ws.length ≤ k ∧ ks.length ≤ k ∧ Hid (∀ j ∈ ks, j ≤ 140737488355328) ∧ Hid (wr.ownsRow w.heap.size 9 1 vw ws.length (ws.map Value.string)) ∧ Hid (wr.ownsRow w.heap.size 3 1 va ks.length (intsOf ks)) ∧ Hid (Below w.heap.size w wr)) (fun _ _ i _ _ => xs.length - (intOf i).toNat)
  case atStart => exact ⟨0, [], [], Nat.zero_le _, rfl, Lib.hid (tx_start xs), by simp, by simp, Lib.hid (by simp), Lib.hid (own_nil _ _ _ _), Lib.hid (own_nil _ _ _ _), Lib.hid (Below.refl _ _)⟩
  case round =>
    obtain ⟨k, ws, ks, hk, rfl, hrel, hwl, hkl, hkb, hown, hownk, hbl⟩ := hrel
    obtain ⟨Wo, hWo⟩ : ∃ Wo, Wo = wr := ⟨_, rfl⟩
    subst hWo
    have hso := hbl.out.size
    by_cases hlt : k < xs.length
    · obtain ⟨bb, off, rfl, hbb, hc⟩ := HRd.out.2 (by omega)
      have hcell := map_cell (wr := Wo) hlt hc (fun p hp => hbl.out.cell (p := p) (by omega)) hbb
      by_cases h12 : xs[k].size ≤ 12
      · obtain ⟨Aw, cw, rfl, hnc, hrw⟩ := own_slice hown.out
        have H1 := Lib.hid (place_any Aw cw ws xs[k] Wo Wo.heap.size hrw (by omega))
        clear HD HE hrw
        have h12' : ¬ 12 < xs[k].size := by omega
        by_cases hfd : ∃ j, ∃ hj : j < ws.length, ws[j] = xs[k] ∧ ∀ i (hi : i < ws.length), i < j → ws[i] ≠ xs[k]
        · obtain ⟨j, hj, he, hf⟩ := hfd
          have HT := Lib.hid (tx_found hrel.out hlt h12 hj he (fun i hi => hf i (by omega) hi))
          rw [place_found hj he hf] at H1
          have Hkb : Hid (∀ i ∈ ks ++ [j], i ≤ 140737488355328) := fun i hi => by
            rcases List.mem_append.1 hi with h | h
            · exact hkb.out i h
            · simp at h; omega
          clear hrel he hf hkb hc
          generalize xs[k] = x at *
          go_wp2_with fail
          refine H1.out.mono ?_
          rintro e w' ⟨rfl, rfl⟩
          go_wp2_with (at_builtin; refine wpList_push_only _ rfl _ _ 22 rfl w.heap.size 3 i1 _ 1 8 Try.underlying22 hi' hy0 hy1 hy2 rfl (by decide) _ ks.length _ (by rfl) hownk.out [.int .i64 (j : Int)] (by rfl) rfl (by simp [Value.oneCell']) (by unfold maxLen; omega) (by omega) hso ?_; intro v8 w8 hown8 ho8 _)
          have Hown8 : Hid (w8.ownsRow w.heap.size 3 1 v8 (ks ++ [j]).length (intsOf (ks ++ [j]))) := by
            show World.ownsRow _ _ _ _ _ _ _
            unfold intsOf; rw [List.length_append, List.map_append]; exact hown8
          have Hw8 := Lib.hid (own_push hown.out hownk.out ho8 (by decide))
          have Hb8 : Hid (Below w.heap.size w w8) := hbl.out.trans (ho8.below (fun j hj e => own_ne_lt hownk.out hj e) hso)
          have hk2 : (ks ++ [j]).length ≤ k + 1 := by simp; omega
          clear hown8 ho8
          go_wp2_with fail
          go_roundw
          case rel => exact ⟨k + 1, ws, ks ++ [j], by omega, by go_num, HT, by omega, hk2, Hkb, Hw8, Hown8, Hb8⟩
          case measure => simp [intOf]; omega
        · have hf : ∀ i (hi : i < ws.length), ws[i] ≠ xs[k] := by
            intro i
            induction i using Nat.strongRecOn with
            | ind i ih => intro hi e; exact hfd ⟨i, hi, e, fun j hj hji => ih j hji hj⟩
          have HT := Lib.hid (tx_new hrel.out hlt h12 hf)
          rw [place_none hf] at H1
          have Hkb : Hid (∀ i ∈ ks ++ [ws.length], i ≤ 140737488355328) := fun i hi => by
            rcases List.mem_append.1 hi with h | h
            · exact hkb.out i h
            · simp at h; omega
          clear hrel hf hfd hkb hc
          generalize xs[k] = x at *
          go_wp2_with fail
          refine H1.out.mono ?_
          rintro e w' ⟨rfl, rfl⟩
          go_wp2_with (first
            | (at_builtin; refine wpList_push_only Wo (o := ⟨some 38, _, _, _, _, _⟩) rfl _ _ 24 rfl w.heap.size 9 i0 _ 1 16 Try.underlying24 hi hz0 hz1 hz2 rfl (by decide) _ ws.length _ (by rfl) hown.out [.string x] (by rfl) rfl (by simp [Value.oneCell']) (by unfold maxLen; omega) (by omega) hso ?_; intro v7 w7 hown7 ho7 _; have Hown7 : Hid (w7.ownsRow w.heap.size 9 1 v7 (ws ++ [x]).length ((ws ++ [x]).map Value.string)) := (by show World.ownsRow _ _ _ _ _ _ _; rw [List.length_append, List.map_append]; exact hown7); have Hk7 := Lib.hid (own_push hownk.out hown.out ho7 (by decide)); have Hb7 : Hid (Below w.heap.size w w7) := hbl.out.trans (ho7.below (fun j hj e => own_ne_lt hown.out hj e) hso); have hs7 := Hb7.out.size; clear hown7 ho7)
            | (at_builtin; refine wpList_push_only _ (o := ⟨some 42, _, _, _, _, _⟩) rfl _ _ 22 rfl w.heap.size 3 i1 _ 1 8 Try.underlying22 hi' hy0 hy1 hy2 rfl (by decide) _ ks.length _ (by rfl) Hk7.out [.int .i64 (ws.length : Int)] (by rfl) rfl (by simp [Value.oneCell']) (by unfold maxLen; omega) (by omega) hs7 ?_; intro v8 w8 hown8 ho8 _))
          have Hown8 : Hid (w8.ownsRow w.heap.size 3 1 v8 (ks ++ [ws.length]).length (intsOf (ks ++ [ws.length]))) := by
            show World.ownsRow _ _ _ _ _ _ _
            unfold intsOf; rw [List.length_append, List.map_append]; exact hown8
          have Hw8 := Lib.hid (own_push Hown7.out Hk7.out ho8 (by decide))
          have Hb8 : Hid (Below w.heap.size w w8) := Hb7.out.trans (ho8.below (fun j hj e => own_ne_lt Hk7.out hj e) hs7)
          have hk2 : (ks ++ [ws.length]).length ≤ k + 1 := by simp; omega
          have hw2 : (ws ++ [x]).length ≤ k + 1 := by simp; omega
          clear hown8 ho8
          go_wp2_with fail
          go_roundw
          case rel => exact ⟨k + 1, ws ++ [x], ks ++ [ws.length], by omega, by go_num, HT, hw2, hk2, Hkb, Hw8, Hown8, Hb8⟩
          case measure => simp [intOf]; omega
      · have HR := Lib.hid (HD.out k hlt h12)
        have h12' : 12 < xs[k].size := by omega
        clear HD HE hrel hc
        generalize xs[k] = x at *
        go_wp2_with fail
        go_ret
        exact ⟨ret_str HR.out.symm, hbl.out⟩
    · have hE := HE.out ws k ks hrel.out hlt
      have HRes := Lib.hid hE.1
      have HSh := Lib.hid hE.2
      obtain ⟨Aw, cw, rfl, hnc, hrw⟩ := own_slice hown.out
      obtain ⟨Ak, ck, rfl, hnk, hrk⟩ := own_slice hownk.out
      have Hrw := Lib.hid hrw
      have Hrk := Lib.hid hrk
      clear HD HE hrel hE hrw hrk
      have hp8' := Wr.putL_len (ws.length : Int)
      have hps := Wr.putB_size (ws.length : Int)
      have hp8 : (Wr.putB (ws.length : Int)).size ≤ 8 := by omega
      have Hpl := Lib.hid (Wr.putB_list (ws.length : Int))
      have HP := fun W => Lib.hid (rnum_any (ws.length : Int) W (by omega))
      clear hps
      go_wp2_with fail
      refine (HP _).out.mono ?_
      rintro e w6 ⟨rfl, hb6⟩
      have Hb6 := Lib.hid hb6
      clear hb6
      generalize Wr.putB (ws.length : Int) = PB at *
      go_wp2_with fail
      go_loopw [7, 8] (fun s i w' => ∃ (j : Nat) (S : ByteArray), j ≤ ws.length ∧ i = .int .i64 (j : Int) ∧ s = .string S ∧ Hid (S.data.toList = Wr.putL (ws.length : Int) ++ Cl.wordsL (ws.take j)) ∧ S.size ≤ 8 + 13 * j ∧ Hid (Below Wo.heap.size Wo w')) (fun _ i _ => ws.length - (intOf i).toNat)
      case atStart => exact ⟨0, PB, Nat.zero_le _, rfl, rfl, Lib.hid (by rw [Hpl.out]; simp [Cl.wordsL]), by omega, Hb6⟩
      case round =>
        obtain ⟨j, S, hj, rfl, rfl, hS, hS13, hbj⟩ := hrel
        obtain ⟨W1, hW1⟩ : ∃ W1, W1 = wr := ⟨_, rfl⟩
        subst hW1
        by_cases hj2 : j < ws.length
        · obtain ⟨bw, ow, rfl, hbw, hcw⟩ := Hrw.out.2 (by omega)
          have hcellw := map_cell (wr := W1) (B := Wo.heap.size) hj2 hcw (fun p hp => hbj.out.cell (p := p) hp) hbw
          have hsz := HSh.out ws[j] (List.getElem_mem _)
          have h13 := textB_13 hsz
          have HT := fun W => Lib.hid (rtext_any ws[j] W (by omega))
          have Hwt := Lib.hid (words_take ws j hj2)
          clear hcw
          generalize ws[j] = x at *
          go_wp2_with fail
          refine (HT _).out.mono ?_
          rintro e w8 ⟨rfl, hb8⟩
          have Hb8 : Hid (Below Wo.heap.size Wo w8) := hbj.out.trans (hb8.mono hbj.out.size)
          clear hb8
          generalize Wr.textB x = TB at *
          have HS2 : Hid ((S ++ TB).data.toList = Wr.putL (ws.length : Int) ++ Cl.wordsL (ws.take (j + 1))) := by
            show _ = _
            rw [Wr.append_list, hS.out, Hwt.out, List.append_assoc]
          have hS2 : (S ++ TB).size ≤ 8 + 13 * (j + 1) := by rw [ByteArray.size_append]; omega
          have hq : ¬ 9223372036854775807 < S.size + TB.size := by omega
          go_wp2_with fail
          generalize S ++ TB = S2 at *
          go_roundw
          case rel => exact ⟨j + 1, S2, by omega, by go_num, rfl, HS2, hS2, Hb8⟩
          case measure => simp [intOf]; omega
        · have hS' : Hid (S.data.toList = Wr.putL (ws.length : Int) ++ Cl.wordsL ws) := by
            have := hS.out
            rw [List.take_of_length_le (by omega)] at this
            exact this
          clear hS
          go_wp2_with fail
          go_loopw [7, 9] (fun s i w' => ∃ (j : Nat) (S2 : ByteArray), j ≤ ks.length ∧ i = .int .i64 (j : Int) ∧ s = .string S2 ∧ Hid (S2.data.toList = S.data.toList ++ Cl.placesL (ks.take j)) ∧ S2.size ≤ 8 + 13 * ws.length + 8 * j ∧ Hid (Below Wo.heap.size Wo w')) (fun _ i _ => ks.length - (intOf i).toNat)
          case atStart => exact ⟨0, S, Nat.zero_le _, rfl, rfl, Lib.hid (by simp [Cl.placesL]), by omega, hbj⟩
          case round =>
            obtain ⟨i, S2, hi2, rfl, rfl, hT, hT8, hbi⟩ := hrel
            by_cases hi3 : i < ks.length
            · obtain ⟨bk, ok, rfl, hbk, hck⟩ := Hrk.out.2 (by omega)
              have hcellk := map_cell (wr := wr) (B := Wo.heap.size) (V := fun k : Nat => Value.int .i64 (k : Int)) hi3 hck (fun p hp => hbi.out.cell (p := p) hp) hbk
              have hkk := hkb.out ks[i] (List.getElem_mem _)
              have HN := fun W => Lib.hid (rnum_any (ks[i] : Int) W (by omega))
              have hn8 := putL_len8 (ks[i] : Int)
              have Hpt := Lib.hid (places_take ks i hi3)
              have Hpl2 := Lib.hid (Wr.putB_list (ks[i] : Int))
              clear hck
              generalize ks[i] = q at *
              go_wp2_with fail
              refine (HN _).out.mono ?_
              rintro e w9 ⟨rfl, hb9⟩
              have Hb9 : Hid (Below Wo.heap.size Wo w9) := hbi.out.trans (hb9.mono hbi.out.size)
              clear hb9
              have HS3 : Hid ((S2 ++ Wr.putB (q : Int)).data.toList = S.data.toList ++ Cl.placesL (ks.take (i + 1))) := by
                show _ = _
                rw [Wr.append_list, hT.out, Hpt.out, Hpl2.out, List.append_assoc]
              have hS3 : (S2 ++ Wr.putB (q : Int)).size ≤ 8 + 13 * ws.length + 8 * (i + 1) := by rw [ByteArray.size_append]; omega
              have hq : ¬ 9223372036854775807 < S2.size + (Wr.putB (q : Int)).size := by omega
              go_wp2_with fail
              generalize S2 ++ Wr.putB (q : Int) = S3 at *
              go_roundw
              case rel => exact ⟨i + 1, S3, by omega, by go_num, rfl, HS3, hS3, Hb9⟩
              case measure => simp [intOf]; omega
            · have Hfin : Hid (res = S2) := by
                show _ = _
                rw [HRes.out]
                apply Wr.ext_list
                rw [hT.out, hS'.out, List.take_of_length_le (by omega)]
              go_wp2_with fail
              go_ret
              exact ⟨ret_str Hfin.out.symm, hbl.out.trans (hbi.out.mono hso)⟩
end Go.Proofs.Ythdbmgjlegpbaaa
