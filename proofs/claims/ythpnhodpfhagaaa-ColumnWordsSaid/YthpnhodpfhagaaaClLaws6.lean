/- The walk through ColumnWords. -/
import Derived.Test.YthpnhodpfhagaaaClLaws3
namespace Go.Proofs.Ythpnhodpfhagaaa
open Go.RowKit
set_option linter.unusedVariables false

def Cl.w3 : List ByteArray := [⟨#[97, 97]⟩, ⟨#[98]⟩, ⟨#[99, 99, 99, 99]⟩]
def Cl.pick3 (x : Int) : Nat := (wrap64 ((IntKind.u64.wrap x).tmod 3)).toNat
theorem pick3_eq (x : Int) : Cl.pick3 x < 3 ∧ wrap64 ((IntKind.u64.wrap x).tmod 3) = (Cl.pick3 x : Int) := by
  obtain ⟨k, hk, h⟩ := pick_of x 3 (by omega) (by omega)
  rw [show ((3 : Nat) : Int) = 3 from rfl] at h
  unfold Cl.pick3; rw [h]; simp [hk]
def Cl.at3 (m : Nat) : ByteArray := Cl.w3.getD m ⟨#[]⟩
def Cl.wd3 (x : Int) : ByteArray := Cl.at3 (Cl.pick3 x)
theorem at3_size (m : Nat) (h : m < 3) : (Cl.at3 m).size ≤ 4 := by
  obtain rfl | rfl | rfl : m = 0 ∨ m = 1 ∨ m = 2 := by omega
  all_goals decide
theorem at3_ne : ∀ i, i < 3 → ∀ j, j < 3 → i ≠ j → Cl.at3 i ≠ Cl.at3 j := by decide
def Cl.memB (ws : List ByteArray) (x : ByteArray) : Bool := decide (Cl.idx ws x < ws.length)
theorem memB_iff (ws : List ByteArray) (x : ByteArray) : Cl.memB ws x = true ↔ x ∈ ws := by
  unfold Cl.memB; rw [decide_eq_true_eq]; exact Cl.idx_mem
theorem memB_yes {ws : List ByteArray} {x : ByteArray} (h : x ∈ ws) : Cl.memB ws x = true := (memB_iff ws x).2 h
theorem memB_no {ws : List ByteArray} {x : ByteArray} (h : ¬ x ∈ ws) : Cl.memB ws x = false := by
  rw [Bool.eq_false_iff]; exact fun e => h ((memB_iff ws x).1 e)
def SeenOk (cs : Array Value) (ws : List ByteArray) : Prop := ∀ m, m < 3 → cs[m]? = some (.bool (Cl.memB ws (Cl.at3 m)))
theorem SeenOk.set_ {cs : Array Value} {ws : List ByteArray} (h : SeenOk cs ws) {m : Nat} (hm : m < 3) : SeenOk (cs.setIfInBounds m (.bool true)) (ws ++ [Cl.at3 m]) := by
  intro j hj
  by_cases e : j = m
  · subst e; rw [set_same (h j hj), memB_yes (by simp)]
  · rw [set_other (h j hj) e]
    have hne : Cl.at3 j ≠ Cl.at3 m := at3_ne j hj m hm e
    have : Cl.memB (ws ++ [Cl.at3 m]) (Cl.at3 j) = Cl.memB ws (Cl.at3 j) := by
      rw [Bool.eq_iff_iff, memB_iff, memB_iff]; simp [hne]
    rw [this]
def Cl.wsum (ws : List ByteArray) : Nat := (ws.map fun w => 1 + w.size).sum
theorem wsum_snoc (ws : List ByteArray) (x : ByteArray) : Cl.wsum (ws ++ [x]) = Cl.wsum ws + (1 + x.size) := by simp [Cl.wsum]
theorem tx_mem {xs ws : List ByteArray} {k : Nat} {ks : List Nat} (h : TxRel xs k ws ks) (hk : k < xs.length) (hx : xs[k].size ≤ 12) (hm : xs[k] ∈ ws) : TxRel xs (k + 1) ws (ks ++ [Cl.idx ws xs[k]]) := by
  have hi := Cl.idx_mem.2 hm
  obtain ⟨h1, h2, h3⟩ := h
  rw [List.drop_eq_getElem_cons hk, Cl.txGo, if_pos hi] at h1 h2
  refine ⟨h1, by rw [h2]; simp, fun x hx' => ?_⟩
  rw [List.take_succ_eq_append_getElem hk] at hx'
  rcases List.mem_append.1 hx' with h | h
  · exact h3 x h
  · simp at h; subst h; exact hx
theorem tx_notmem {xs ws : List ByteArray} {k : Nat} {ks : List Nat} (h : TxRel xs k ws ks) (hk : k < xs.length) (hx : xs[k].size ≤ 12) (hm : ¬ xs[k] ∈ ws) : TxRel xs (k + 1) (ws ++ [xs[k]]) (ks ++ [ws.length]) :=
  tx_new h hk hx (fun i hi e => hm (e ▸ List.getElem_mem hi))
theorem words_sum {ws : List ByteArray} (h : ∀ w ∈ ws, w.size ≤ 12) : (Cl.wordsL ws).length = Cl.wsum ws := by
  induction ws with
  | nil => rfl
  | cons w ws ih =>
    have h2 := ih (fun x hx => h x (by simp [hx]))
    have hw := h w (by simp)
    have e : Cl.wordsL (w :: ws) = (Wr.textB w).data.toList ++ Cl.wordsL ws := by simp [Cl.wordsL]
    have e2 : (Wr.textB w).size = 1 + w.size := by unfold Wr.textB; rw [ByteArray.size_append, Wr.putB_size, Cl.putL_one _ (by omega) (by omega)]
    rw [e, List.length_append, Wr.len_list, e2, h2]; simp [Cl.wsum]
theorem places_ones {ks : List Nat} (h : ∀ k ∈ ks, k ≤ 63) : (Cl.placesL ks).length = ks.length := by
  induction ks with
  | nil => rfl
  | cons k ks ih =>
    have h1 := Cl.putL_one (k : Int) (by omega) (by have := h k (by simp); omega)
    have h2 := ih (fun j hj => h j (by simp [hj]))
    have e : Cl.placesL (k :: ks) = Wr.putL (k : Int) ++ Cl.placesL ks := by simp [Cl.placesL]
    rw [e, List.length_append, h1, h2, List.length_cons]; omega
/-- the bytes of texts of few words -/
theorem few_bytes {xs ws : List ByteArray} {ks : List Nat} {k : Nat} (h : TxRel xs k ws ks) (hk : ¬ k < xs.length) (hn : xs.length ≤ 60) : Cl.shortB xs = true ∧ (Cl.textsL xs).length = 1 + xs.length + Cl.wsum ws := by
  have hd := tx_done h hk
  obtain ⟨h1, h2, h3⟩ := h
  rw [List.drop_eq_nil_of_le (by omega), Cl.txGo] at h1 h2
  rw [List.take_of_length_le (by omega)] at h3
  have h1' : (Cl.txGo [] xs).1 = ws := h1
  have hl := Cl.tx_len [] xs
  simp only [List.length_nil, Nat.zero_add] at hl
  have hp := Cl.tx_places [] xs
  refine ⟨short_of h3, ?_⟩
  unfold Cl.textsL
  rw [List.length_append, List.length_append, words_sum (Cl.tx_short [] xs (by simp) h3), places_ones (fun j hj => by have := hp j hj; omega), hl.2, h1', Cl.putL_one _ (by omega) (by rw [h1'] at hl; omega)]
  omega

set_option maxRecDepth 100000 in
set_option maxHeartbeats 2000000 in
theorem columnWords_walk {w : World} (A0 : Option Addr) (c0 : Nat) (z0 : List Int) (rd0 : Reads w w.heap.size 1 A0 z0.length (z0.map (Value.int .i64))) (wf0 : ∀ n ∈ z0, (Lit.int .i64 n).wf = true) (nb0 : z0.length * 8 ≤ 140737488351232) :
    Calls Try.prog 7 #[.slice A0 z0.length c0] w fun e w' => e = .returned (.bool true) ∧ Below w.heap.size w w' := by
  obtain ⟨i1, hi', hy0, hy1, hy2⟩ := info_parts info_string
  have Hr0 := Lib.hid rd0
  clear wf0 rd0
  obtain ⟨X, hX⟩ : ∃ X : List ByteArray, X = (z0.take 60).map Cl.wd3 := ⟨_, rfl⟩
  have hXl : X.length = min 60 z0.length := by rw [hX]; simp
  have hXk : ∀ k (hk : k < X.length) (hz : k < z0.length), X[k] = Cl.wd3 z0[k] := fun k hk hz => by subst hX; simp
  have HXk := Lib.hid hXk
  have hXn : X.length ≤ 60 ∧ X.length ≤ z0.length ∧ (X.length < 60 → z0.length ≤ X.length) := by omega
  clear hX hXk hXl
  go_enter Try.func7, Try.ntmps7
  go_wp2_with fail
  refine (awake12 _).mono ?_
  rintro e w1 ⟨rfl, hb1⟩
  have Hb1 := Lib.hid hb1
  have hs1 := hb1.size
  clear hb1
  go_wp2_with fail
  have hBw := Blk.alloc (Blk.new w1 9 #[.string ⟨#[97, 97]⟩, .string ⟨#[98]⟩, .string ⟨#[99, 99, 99, 99]⟩]) (.cells #[.bool false, .bool false, .bool false] 4)
  have hBs := Blk.new (w1.alloc (.cells #[.string ⟨#[97, 97]⟩, .string ⟨#[98]⟩, .string ⟨#[99, 99, 99, 99]⟩] 9)) 4 #[.bool false, .bool false, .bool false]
  rw [World.size_alloc] at hBs
  have hb2 : Below w.heap.size w ((w1.alloc (.cells #[.string ⟨#[97, 97]⟩, .string ⟨#[98]⟩, .string ⟨#[99, 99, 99, 99]⟩] 9)).alloc (.cells #[.bool false, .bool false, .bool false] 4)) := (Hb1.out.alloc hs1 _).alloc (by rw [World.size_alloc]; omega) _
  have HBw := Lib.hid hBw
  have HBs := Lib.hid hBs
  have Hb2 := Lib.hid hb2
  clear hBw hBs hb2
  generalize (w1.alloc (.cells #[.string ⟨#[97, 97]⟩, .string ⟨#[98]⟩, .string ⟨#[99, 99, 99, 99]⟩] 9)).alloc (.cells #[.bool false, .bool false, .bool false] 4) = w2 at *
  generalize w1.heap.size = h5 at *
  have hh5 := HBw.out.lt
  have hh6 := HBs.out.lt
  have hs2 := Hb2.out.size
  go_loopw [4, 6, 7, 8] (fun v sz i _ wr => ∃ (k : Nat) (ws : List ByteArray) (ks : List Nat) (cs : Array Value), k ≤ X.length ∧ i = .int .i64 (k : Int) ∧ sz = .int .i64 ((1 + k + Cl.wsum ws : Nat) : Int) ∧ Cl.wsum ws ≤ 5 * k ∧ Hid (TxRel X k ws ks) ∧ Hid (Blk wr (h5 + 1) 4 cs) ∧ Hid (SeenOk cs ws) ∧ Hid (wr.ownsRow w2.heap.size 9 1 v (X.take k).length ((X.take k).map Value.string)) ∧ Hid (Only (fun k => k = h5 + 1) w2 wr)) (fun _ _ i _ _ => 60 - (intOf i).toNat)
  case atStart => exact ⟨0, [], [], #[.bool false, .bool false, .bool false], Nat.zero_le _, rfl, rfl, by simp [Cl.wsum], Lib.hid (tx_start X), HBs, Lib.hid (fun m hm => by obtain rfl | rfl | rfl : m = 0 ∨ m = 1 ∨ m = 2 := (by omega); all_goals rfl), Lib.hid (own_nil _ _ _ _), Lib.hid (Only.refl _ _)⟩
  case round =>
    obtain ⟨k, ws, ks, cs, hk, rfl, rfl, hws, hrel, hBs, hsn, hown, ho⟩ := hrel
    have hsw := ho.out.size
    have hlen : (X.take k).length ≤ 60 := by rw [List.length_take]; omega
    by_cases hlt : k < X.length
    · have hl1 : k < z0.length := by omega
      have hl2 : k < 60 := by omega
      obtain ⟨bb, off, rfl, hbb, hc⟩ := Hr0.out.2 (by omega)
      have hcell := map_cell (wr := wr) hl1 hc (fun p hp => (ho.out.cell (p := p) (by omega) (by omega)).trans (Hb2.out.cell (p := p) hp)) hbb
      have hd : decide ((k : Int) < 60) = true := decide_eq_true (by omega)
      have Hsnoc : Hid (X.take (k + 1) = X.take k ++ [X[k]]) := List.take_succ_eq_append_getElem hlt
      have hxk := HXk.out k hlt hl1
      have hxw : X[k] = Cl.at3 (Cl.pick3 z0[k]) := hxk
      obtain ⟨hp3, hpe⟩ := pick3_eq z0[k]
      have h4 := at3_size (Cl.pick3 z0[k]) hp3
      have hcw : wr.cell? ⟨h5, Cl.pick3 z0[k], none⟩ = some (.string (Cl.at3 (Cl.pick3 z0[k]))) := by
        rw [(Blk.only HBw.out ho.out (by omega)).cell]
        generalize Cl.pick3 z0[k] = m at *
        obtain rfl | rfl | rfl : m = 0 ∨ m = 1 ∨ m = 2 := by omega
        all_goals rfl
      have hcs := (hBs.out.cell (Cl.pick3 z0[k])).trans (hsn.out _ hp3)
      have hfs := hBs.out.frozen (Cl.pick3 z0[k])
      have HM := Lib.hid (fun h12 hm => tx_mem hrel.out hlt h12 hm)
      have HNm := Lib.hid (fun h12 hm => tx_notmem hrel.out hlt h12 hm)
      have Hst := Lib.hid (hsn.out.set_ hp3)
      rw [hxw] at HM HNm Hsnoc
      clear hc hxk hxw
      generalize hr : Cl.at3 (Cl.pick3 z0[k]) = r at *
      have Hr := Lib.hid hr
      clear hr
      generalize Cl.pick3 z0[k] = m at *
      generalize z0[k] = x at *
      by_cases hmem : r ∈ ws
      · have HT := Lib.hid (HM.out (by omega) hmem)
        rw [memB_yes hmem] at hcs
        clear HM HNm Hst
        go_wp2_with (at_builtin; refine wpList_push_only _ rfl _ _ 35 rfl w2.heap.size 9 i1 _ 1 16 Try.underlying35 hi' hy0 hy1 hy2 rfl (by decide) _ (X.take k).length _ (by rfl) hown.out [.string r] (by rfl) rfl (by simp [Value.oneCell']) (by unfold maxLen; omega) (by omega) hsw ?_; intro v8 w8 hown8 ho8 _; have HB8 := Lib.hid (Blk.only hBs.out ho8 (own_ne_lt hown.out hh6)); have hcs8 := ((HB8.out.cell m).trans ((hBs.out.cell m).symm.trans hcs)))
        have Hown8 : Hid (w8.ownsRow w2.heap.size 9 1 v8 (X.take (k + 1)).length ((X.take (k + 1)).map Value.string)) := by
          show World.ownsRow _ _ _ _ _ _ _
          rw [Hsnoc.out, List.length_append, List.map_append]; exact hown8
        have HO8 : Hid (Only (fun k => k = h5 + 1) w2 w8) := ho.out.trans ho8 (fun j hj e => absurd e (own_ne_lt hown.out hj))
        clear hown8 ho8
        go_wp2_with fail
        go_roundw
        case rel => exact ⟨k + 1, ws, _, cs, by omega, by go_num, by first | rfl | (show Value.int .i64 _ = Value.int .i64 _; congr 1; omega), by omega, HT, HB8, hsn, Hown8, HO8⟩
        case measure => simp [intOf]; omega
      · have HT := Lib.hid (HNm.out (by omega) hmem)
        rw [memB_no hmem] at hcs
        have Hsum := Lib.hid (wsum_snoc ws r)
        clear HM HNm hmem
        go_wp2_with (at_builtin; refine wpList_push_only _ rfl _ _ 35 rfl w2.heap.size 9 i1 _ 1 16 Try.underlying35 hi' hy0 hy1 hy2 rfl (by decide) _ (X.take k).length _ (by rfl) hown.out [.string r] (by rfl) rfl (by simp [Value.oneCell']) (by unfold maxLen; omega) (by omega) hsw ?_; intro v8 w8 hown8 ho8 _; have HB8 := Lib.hid (Blk.only hBs.out ho8 (own_ne_lt hown.out hh6)); have hcs8 := ((HB8.out.cell m).trans ((hBs.out.cell m).symm.trans hcs)); have hfs8 := HB8.out.frozen m; have hcw8 := (ho8.cell (p := ⟨h5, m, none⟩) (show h5 < wr.heap.size by omega) (own_ne_lt hown.out hh5)).trans hcw)
        have Hown8 : Hid ((w8.setCell ⟨h5 + 1, m, none⟩ (.bool true)).ownsRow w2.heap.size 9 1 v8 (X.take (k + 1)).length ((X.take (k + 1)).map Value.string)) := by
          show World.ownsRow _ _ _ _ _ _ _
          refine own_only ?_ ((Only.refl (fun k => k = h5 + 1) w8).setCell (p := ⟨h5 + 1, m, none⟩) (fun _ => rfl) _) (fun g hg e => by have := (own_lt hown8 hg).1; omega)
          rw [Hsnoc.out, List.length_append, List.map_append]; exact hown8
        have HO8 : Hid (Only (fun k => k = h5 + 1) w2 (w8.setCell ⟨h5 + 1, m, none⟩ (.bool true))) := (ho.out.trans ho8 (fun j hj e => absurd e (own_ne_lt hown.out hj))).setCell (fun _ => rfl) _
        have HB9 := Lib.hid (HB8.out.set_ m (.bool true))
        have hws2 : Cl.wsum (ws ++ [r]) ≤ 5 * (k + 1) := by rw [Hsum.out]; omega
        clear hown8 ho8
        have hne51 : h5 ≠ h5 + 1 := by omega
        go_wp2_with fail
        go_roundw
        case rel => exact ⟨k + 1, ws ++ [r], _, _, by omega, by go_num, by rw [Hsum.out]; first | rfl | (show Value.int .i64 _ = Value.int .i64 _; congr 1; omega), hws2, HT, HB9, Hst, Hown8, HO8⟩
        case measure => simp [intOf]; omega
    · have hfb := few_bytes hrel.out hlt (by omega)
      have htk : X.take k = X := List.take_of_length_le (by omega)
      rw [htk] at hown
      have hts := texts_size hfb.1
      have Htl := Lib.hid (textsB_list hfb.1)
      have hg := Cl.getTexts_put (Cl.textsB X) X [] [] (by rw [Htl.out]; simp) hfb.1 (by omega)
      have hXe : X.length ≤ k ∧ k ≤ X.length := by omega
      have hsz : (Cl.textsB X).size = 1 + k + Cl.wsum ws := by rw [hts, hfb.2]; omega
      rw [← hts] at hg
      simp only [List.length_nil, Int.natCast_zero, Int.zero_add] at hg
      have HG := fun W => Lib.hid (getTexts_any (Cl.textsB X) 0 (X.length : Int) W (by omega) (by omega))
      rw [hg] at HG
      obtain ⟨AX, cX, rfl, hncX, hrX⟩ := own_slice hown.out
      have HrX := Lib.hid hrX
      have HP := Lib.hid (texts_any AX cX X wr wr.heap.size hrX (Nat.le_refl _) (by omega))
      have hzz : (((Cl.textsB X).size : Int) == ((1 + k + Cl.wsum ws : Nat) : Int)) = true := by rw [beq_iff_eq]; omega
      have hzz2 : (((Cl.textsB X).size : Int) == (1 + (k : Int) + (Cl.wsum ws : Int))) = true := by rw [beq_iff_eq]; omega
      have hq : (Cl.textsB X).size ≤ 1000 := by omega
      have hd1 : k < z0.length → decide ((k : Int) < 60) = false := fun h => decide_eq_false (by omega)
      clear hfb htk hts Htl hg hsz hrX hown hrel
      generalize Cl.textsB X = S at *
      have Hbf : Hid (Below w.heap.size w wr) := Hb2.out.trans (ho.out.below (fun j hj e => by omega) hs2)
      by_cases hl1 : k < z0.length
      all_goals
        (try have hl1' := hd1 hl1)
        clear hd1
        go_wp2_with fail
        refine HP.out.mono ?_
        rintro e w3 ⟨rfl, hb3⟩
        have Hb3 := Lib.hid hb3
        clear hb3
        go_wp2_with fail
        refine (HG _).out.mono ?_
        rintro e w4 ⟨v4, rfl, hown4, hb4⟩
        obtain ⟨A4, c4, rfl, hnc4, hrd4⟩ := own_slice hown4
        have Hrd4 := Lib.hid hrd4
        have Hb4 : Hid (Below wr.heap.size wr w4) := Hb3.out.trans (hb4.mono Hb3.out.size)
        clear hown4 hrd4 hb4
        go_wp2_with fail
        refine (errno_any _ _).mono ?_
        rintro e w' ⟨rfl, rfl⟩
        go_wp2_with fail
        refine (sameTexts_true A4 AX c4 cX X w4 w4.heap.size wr.heap.size Hrd4.out (HrX.out.below Hb4.out) (by omega)).mono ?_
        rintro e w5 ⟨rfl, n5, rfl⟩
        go_wp2_with fail
        go_ret
        exact ⟨rfl, below_drewN (Hbf.out.trans (Hb4.out.mono Hbf.out.size)) _⟩
end Go.Proofs.Ythpnhodpfhagaaa
