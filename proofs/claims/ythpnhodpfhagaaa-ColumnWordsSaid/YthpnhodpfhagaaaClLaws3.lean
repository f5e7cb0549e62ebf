/- The walks through ColumnBack and ColumnSteady. -/
import Derived.Test.YthpnhodpfhagaaaClLaws
namespace Go.Proofs.Ythpnhodpfhagaaa
open Go.RowKit
set_option linter.unusedVariables false

def Cl.rem31 (x : Int) : Int := x.tmod 2147483648
theorem rem31_bd (x : Int) : -2147483648 < Cl.rem31 x ∧ Cl.rem31 x < 2147483648 := by
  unfold Cl.rem31
  have h1 := Int.tmod_lt_of_pos x (show (0 : Int) < 2147483648 by omega)
  have h2 := Int.lt_tmod_of_pos x (show (0 : Int) < 2147483648 by omega)
  omega
theorem rem31_small (x : Int) : Pt.smallB (Cl.rem31 x) = true := by rw [Pt.smallB_iff]; have := rem31_bd x; omega
def Cl.w5 : List ByteArray := [⟨#[97]⟩, ⟨#[98, 98]⟩, ⟨#[]⟩, ⟨#[99, 95, 57]⟩, ⟨#[97]⟩]
def Cl.pick5 (x : Int) : Nat := ((IntKind.u64.wrap x).tmod 5).toNat
theorem pick_u (x : Int) (n : Nat) (h : 0 < n) : ∃ k : Nat, k < n ∧ (IntKind.u64.wrap x).tmod (n : Int) = (k : Int) := by
  have h0 : 0 ≤ IntKind.u64.wrap x := by rw [IntKind.wrap_u64]; omega
  rw [Int.tmod_eq_emod_of_nonneg h0]
  have h1 : 0 ≤ IntKind.u64.wrap x % (n : Int) := Int.emod_nonneg _ (by omega)
  have h2 : IntKind.u64.wrap x % (n : Int) < n := Int.emod_lt_of_pos _ (by omega)
  exact ⟨(IntKind.u64.wrap x % (n : Int)).toNat, by omega, by omega⟩
theorem pick5_eq (x : Int) : Cl.pick5 x < 5 ∧ (IntKind.u64.wrap x).tmod 5 = (Cl.pick5 x : Int) := by
  obtain ⟨k, hk, h⟩ := pick_u x 5 (by omega)
  rw [show ((5 : Nat) : Int) = 5 from rfl] at h
  unfold Cl.pick5; rw [h]; simp [hk]
def Cl.wd5 (x : Int) : ByteArray := Cl.w5.getD (Cl.pick5 x) ⟨#[]⟩
theorem wd5_size (x : Int) : (Cl.wd5 x).size ≤ 12 := by
  unfold Cl.wd5
  have h := (pick5_eq x).1
  generalize Cl.pick5 x = k at *
  obtain rfl | rfl | rfl | rfl | rfl : k = 0 ∨ k = 1 ∨ k = 2 ∨ k = 3 ∨ k = 4 := by omega
  all_goals decide
theorem wordsL_le {ws : List ByteArray} (h : ∀ w ∈ ws, w.size ≤ 12) : (Cl.wordsL ws).length ≤ 13 * ws.length := by
  induction ws with
  | nil => simp [Cl.wordsL]
  | cons w ws ih =>
    have h1 := textB_13 (h w (by simp))
    have h2 := ih (fun x hx => h x (by simp [hx]))
    have : Cl.wordsL (w :: ws) = (Wr.textB w).data.toList ++ Cl.wordsL ws := by simp [Cl.wordsL]
    rw [this, List.length_append, Wr.len_list, List.length_cons]; omega
theorem textsL_le {xs : List ByteArray} (h : ∀ x ∈ xs, x.size ≤ 12) (hn : xs.length ≤ 65536) : (Cl.textsL xs).length ≤ 8 + 20 * xs.length := by
  have h1 := wordsL_le (Cl.tx_short [] xs (by simp) h)
  have h2 := placesL_le (Cl.txGo [] xs).2 0 (fun k hk => by have := Cl.tx_places [] xs k hk; have := (Cl.tx_len [] xs).1; simp at this; omega)
  have h3 := Cl.tx_len [] xs
  have h4 := Wr.putL_len ((Cl.txGo [] xs).1.length : Int)
  simp only [List.length_nil, Nat.zero_add] at h3
  unfold Cl.textsL
  rw [List.length_append, List.length_append]; omega
theorem short_of {xs : List ByteArray} (h : ∀ x ∈ xs, x.size ≤ 12) : Cl.shortB xs = true := by
  unfold Cl.shortB; rw [List.all_eq_true]; exact fun x hx => decide_eq_true (h x hx)
theorem all_of {xs : List Int} (h : ∀ x ∈ xs, Pt.smallB x = true) : xs.all Pt.smallB = true := List.all_eq_true.2 h

set_option maxRecDepth 100000 in
set_option maxHeartbeats 2000000 in
theorem columnBack_walk {w : World} (A0 : Option Addr) (c0 : Nat) (z0 : List Int) (A1 : Option Addr) (c1 : Nat) (z1 : List Int) (a2 : ByteArray) (rd0 : Reads w w.heap.size 1 A0 z0.length (z0.map (Value.int .i64))) (wf0 : ∀ n ∈ z0, (Lit.int .i64 n).wf = true) (nb0 : z0.length * 8 ≤ 140737488351232) (rd1 : Reads w w.heap.size 1 A1 z1.length (z1.map (Value.int .i64))) (wf1 : ∀ n ∈ z1, (Lit.int .i64 n).wf = true) (nb1 : z1.length * 8 ≤ 140737488351232) (b2 : a2.size ≤ 140737488351232) :
    Calls Try.prog 5 #[.slice A0 z0.length c0, .slice A1 z1.length c1, .string a2] w fun e w' => e = .returned (.bool true) ∧ Below w.heap.size w w' := by
  obtain ⟨i0, hi, hz0, hz1, hz2⟩ := info_parts info_int
  obtain ⟨i1, hi', hy0, hy1, hy2⟩ := info_parts info_string
  have HW := Lib.hid wf0
  have Hr0 := Lib.hid rd0
  have Hr1 := Lib.hid rd1
  clear wf0 wf1 rd0 rd1
  go_enter Try.func5, Try.ntmps5
  go_wp2_with fail
  refine (awake12 _).mono ?_
  rintro e w1 ⟨rfl, hb1⟩
  have Hb1 := Lib.hid hb1
  have hs1 := hb1.size
  clear hb1
  go_wp2_with fail
  have hB5 := Blk.new w1 9 #[.string ⟨#[97]⟩, .string ⟨#[98, 98]⟩, .string ⟨#[]⟩, .string ⟨#[99, 95, 57]⟩, .string ⟨#[97]⟩]
  have hb2 : Below w.heap.size w (w1.alloc (.cells #[.string ⟨#[97]⟩, .string ⟨#[98, 98]⟩, .string ⟨#[]⟩, .string ⟨#[99, 95, 57]⟩, .string ⟨#[97]⟩] 9)) := Hb1.out.alloc hs1 _
  have HB5 := Lib.hid hB5
  have Hb2 := Lib.hid hb2
  clear hB5 hb2
  generalize w1.alloc (.cells #[.string ⟨#[97]⟩, .string ⟨#[98, 98]⟩, .string ⟨#[]⟩, .string ⟨#[99, 95, 57]⟩, .string ⟨#[97]⟩] 9) = w2 at *
  generalize w1.heap.size = h5 at *
  have hh5 := HB5.out.lt
  have hs2 := Hb2.out.size
  go_loopw [8, 10] (fun v i wr => ∃ k : Nat, k ≤ z0.length ∧ k ≤ 100 ∧ i = .int .i64 (k : Int) ∧ Hid (wr.ownsRow w2.heap.size 3 1 v ((z0.take k).map Cl.rem31).length (((z0.take k).map Cl.rem31).map (Value.int .i64))) ∧ Hid (Below w2.heap.size w2 wr)) (fun _ i _ => 100 - (intOf i).toNat)
  case atStart => exact ⟨0, Nat.zero_le _, by omega, rfl, Lib.hid (own_nil _ _ _ _), Lib.hid (Below.refl _ _)⟩
  case round =>
    obtain ⟨k, hk, hk1, rfl, hown, hbw⟩ := hrel
    have hsw := hbw.out.size
    have hlen : ((z0.take k).map Cl.rem31).length ≤ 100 := by rw [List.length_map, List.length_take]; omega
    by_cases hlt : k < z0.length ∧ k < 100
    · obtain ⟨hl1, hl2⟩ := hlt
      obtain ⟨bb, off, rfl, hbb, hc⟩ := Hr0.out.2 (by omega)
      have hcell := map_cell (wr := wr) hl1 hc (fun p hp => (hbw.out.cell (p := p) (by omega)).trans (Hb2.out.cell (p := p) hp)) hbb
      have hd : decide ((k : Int) < 100) = true := decide_eq_true (by omega)
      have Hsn : Hid ((z0.take (k + 1)).map Cl.rem31 = (z0.take k).map Cl.rem31 ++ [Cl.rem31 z0[k]]) := map_take_snoc Cl.rem31 z0 k hl1
      have hrm : z0[k].tmod 2147483648 = Cl.rem31 z0[k] := rfl
      clear hc
      generalize Cl.rem31 z0[k] = r at *
      generalize z0[k] = x at *
      go_wp2_with (at_builtin; refine wpList_push _ rfl _ _ 22 rfl w2.heap.size 3 i0 _ 1 8 Try.underlying22 hi hz0 hz1 hz2 rfl (by decide) _ ((z0.take k).map Cl.rem31).length _ (by rfl) hown.out [.int .i64 r] (by rfl) rfl (by simp [Value.oneCell']) (by unfold maxLen; omega) (by omega) w2 hbw.out hsw ?_; intro v8 w8 hown8 hb8)
      have Hown8 : Hid (w8.ownsRow w2.heap.size 3 1 v8 ((z0.take (k + 1)).map Cl.rem31).length (((z0.take (k + 1)).map Cl.rem31).map (Value.int .i64))) := by
        show World.ownsRow _ _ _ _ _ _ _
        rw [Hsn.out, List.length_append, List.map_append]; exact hown8
      have Hb8 := Lib.hid hb8
      clear hown8 hb8
      go_wp2_with fail
      go_roundw
      case rel => exact ⟨k + 1, by omega, by omega, by go_num, Hown8, Hb8⟩
      case measure => simp [intOf]; omega
    · have hws : k < z0.length → decide ((k : Int) < 100) = false := fun h => decide_eq_false (by omega)
      have hys : ∀ x ∈ (z0.take k).map Cl.rem31, Pt.smallB x = true := fun x hx => by
        rw [List.mem_map] at hx; obtain ⟨y, _, rfl⟩ := hx; exact rem31_small y
      have hyall := all_of hys
      have hywf : ∀ x ∈ (z0.take k).map Cl.rem31, -9223372036854775808 ≤ x ∧ x ≤ 9223372036854775807 := fun x hx => by
        have := (Pt.smallB_iff x).1 (hys x hx); omega
      have Hyall := Lib.hid hyall
      have Hywf := Lib.hid hywf
      clear hys hyall hywf
      generalize (z0.take k).map Cl.rem31 = Y at *
      obtain ⟨AY, cY, rfl, hncY, hrY⟩ := own_slice hown.out
      have HrY := Lib.hid hrY
      clear hrY
      obtain ⟨Wo, hWo⟩ : ∃ Wo, Wo = wr := ⟨_, rfl⟩
      subst hWo
      by_cases hl1 : k < z0.length
      all_goals
        (try have hl1' := hws hl1)
        clear hws hlt
        go_wp2_with fail
        go_loopw [9, 11] (fun v i wr => ∃ k : Nat, k ≤ z1.length ∧ k ≤ 100 ∧ i = .int .i64 (k : Int) ∧ Hid (wr.ownsRow Wo.heap.size 9 1 v ((z1.take k).map Cl.wd5).length (((z1.take k).map Cl.wd5).map Value.string)) ∧ Hid (Below Wo.heap.size Wo wr)) (fun _ i _ => 100 - (intOf i).toNat)
        case atStart => exact ⟨0, Nat.zero_le _, by omega, rfl, Lib.hid (own_nil _ _ _ _), Lib.hid (Below.refl _ _)⟩
        case round =>
          obtain ⟨q, hq, hq1, rfl, hownq, hbq⟩ := hrel
          have hsq := hbq.out.size
          have hlenq : ((z1.take q).map Cl.wd5).length ≤ 100 := by rw [List.length_map, List.length_take]; omega
          by_cases hltq : q < z1.length ∧ q < 100
          · obtain ⟨hl3, hl4⟩ := hltq
            obtain ⟨bb, off, rfl, hbb, hc⟩ := Hr1.out.2 (by omega)
            have hcell := map_cell (wr := wr) hl3 hc (fun p hp => (hbq.out.cell (p := p) (by omega)).trans ((hbw.out.cell (p := p) (by omega)).trans (Hb2.out.cell (p := p) hp))) hbb
            have hd : decide ((q : Int) < 100) = true := decide_eq_true (by omega)
            have Hsn : Hid ((z1.take (q + 1)).map Cl.wd5 = (z1.take q).map Cl.wd5 ++ [Cl.wd5 z1[q]]) := map_take_snoc Cl.wd5 z1 q hl3
            obtain ⟨hp5, hpe⟩ := pick5_eq z1[q]
            have hw5 : Cl.wd5 z1[q] = Cl.w5.getD (Cl.pick5 z1[q]) ⟨#[]⟩ := rfl
            have hBq := Blk.below (Blk.below HB5.out hbw.out hh5) hbq.out (by omega)
            have hcw : wr.cell? ⟨h5, Cl.pick5 z1[q], none⟩ = some (.string (Cl.wd5 z1[q])) := by
              rw [hBq.cell, hw5]
              generalize Cl.pick5 z1[q] = m at *
              obtain rfl | rfl | rfl | rfl | rfl : m = 0 ∨ m = 1 ∨ m = 2 ∨ m = 3 ∨ m = 4 := by omega
              all_goals rfl
            clear hc hw5 hBq
            generalize Cl.wd5 z1[q] = r at *
            generalize Cl.pick5 z1[q] = m at *
            generalize z1[q] = x at *
            go_wp2_with (at_builtin; refine wpList_push _ rfl _ _ 35 rfl Wo.heap.size 9 i1 _ 1 16 Try.underlying35 hi' hy0 hy1 hy2 rfl (by decide) _ ((z1.take q).map Cl.wd5).length _ (by rfl) hownq.out [.string r] (by rfl) rfl (by simp [Value.oneCell']) (by unfold maxLen; omega) (by omega) Wo hbq.out hsq ?_; intro v8 w8 hown8 hb8)
            have Hown8 : Hid (w8.ownsRow Wo.heap.size 9 1 v8 ((z1.take (q + 1)).map Cl.wd5).length (((z1.take (q + 1)).map Cl.wd5).map Value.string)) := by
              show World.ownsRow _ _ _ _ _ _ _
              rw [Hsn.out, List.length_append, List.map_append]; exact hown8
            have Hb8 := Lib.hid hb8
            clear hown8 hb8
            go_wp2_with fail
            go_roundw
            case rel => exact ⟨q + 1, by omega, by omega, by go_num, Hown8, Hb8⟩
            case measure => simp [intOf]; omega
          · have hws2 : q < z1.length → decide ((q : Int) < 100) = false := fun h => decide_eq_false (by omega)
            have hxs : ∀ x ∈ (z1.take q).map Cl.wd5, x.size ≤ 12 := fun x hx => by
              rw [List.mem_map] at hx; obtain ⟨y, _, rfl⟩ := hx; exact wd5_size y
            have hsh := short_of hxs
            have htl := textsL_le hxs (by omega)
            have hts := texts_size hsh
            have Htl := Lib.hid (textsB_list hsh)
            have Hsh := Lib.hid hsh
            clear hxs hsh
            generalize (z1.take q).map Cl.wd5 = X at *
            obtain ⟨AX, cX, rfl, hncX, hrX⟩ := own_slice hownq.out
            have HrX := Lib.hid hrX
            clear hrX
            have hil := Cl.intsD_len 0 Y (by decide) Hyall.out
            have hIs : (Cl.intsB Y).size = (Cl.intsD 0 Y).length := by rw [← Wr.len_list, intsB_list Hyall.out]
            have hS1 : (a2 ++ Cl.intsB Y ++ Cl.textsB X).data.toList = a2.data.toList ++ (Cl.intsD 0 Y ++ Cl.textsL X) := by
              rw [Wr.append_list, Wr.append_list, intsB_list Hyall.out, Htl.out]; simp
            have hg1 := Cl.getInts_put (a2 ++ Cl.intsB Y ++ Cl.textsB X) Y a2.data.toList (Cl.textsL X) hS1 Hyall.out (by omega)
            have hg2 := Cl.getTexts_put (a2 ++ Cl.intsB Y ++ Cl.textsB X) X (a2.data.toList ++ Cl.intsD 0 Y) [] (by rw [hS1]; simp) Hsh.out (by omega)
            rw [Wr.len_list, ← hIs] at hg1
            rw [List.length_append, Wr.len_list, Int.natCast_add, ← hIs, ← hts] at hg2
            have hsz : (a2 ++ Cl.intsB Y ++ Cl.textsB X).size = a2.size + (Cl.intsB Y).size + (Cl.textsB X).size := by rw [ByteArray.size_append, ByteArray.size_append]
            have HP1 := fun W (hb : Below Wo.heap.size Wo W) => Lib.hid (ints_any AY cY Y W Wo.heap.size (HrY.out.below hb) hb.size (by omega) Hywf.out)
            have HP2 := fun (Wq W : World) (hr : Reads Wq Wq.heap.size 1 AX X.length (X.map Value.string)) (hb : Below Wq.heap.size Wq W) => Lib.hid (texts_any AX cX X W Wq.heap.size (hr.below hb) hb.size (by omega))
            have HG1 := fun W => Lib.hid (getInts_any (a2 ++ Cl.intsB Y ++ Cl.textsB X) (a2.size : Int) (Y.length : Int) W (by omega) (by omega))
            have HG2 := fun W => Lib.hid (getTexts_any (a2 ++ Cl.intsB Y ++ Cl.textsB X) ((a2.size : Int) + ((Cl.intsB Y).size : Int)) (X.length : Int) W (by omega) (by omega))
            rw [hg1] at HG1
            rw [hg2] at HG2
            have hq1 : (Cl.intsB Y).size ≤ 1000 := by omega
            have hq2 : (Cl.textsB X).size ≤ 3000 := by omega
            have Hsz := Lib.hid hsz
            have hzz : (((a2.size : Int) + ((Cl.intsB Y).size : Int) + ((Cl.textsB X).size : Int)) == (a2.size : Int) + ((Cl.intsB Y).size : Int) + ((Cl.textsB X).size : Int)) = true := by simp
            clear hS1 hg1 hg2 hIs hts hsz Htl hil htl
            generalize Cl.intsB Y = IB at *
            generalize Cl.textsB X = TB at *
            obtain ⟨Wq, hWq⟩ : ∃ Wq, Wq = wr := ⟨_, rfl⟩
            subst hWq
            by_cases hl3 : q < z1.length
            all_goals
              (try have hl3' := hws2 hl3)
              clear hws2 hltq
              go_wp2_with fail
              refine (HP1 _ hbq.out).out.mono ?_
              rintro e w5 ⟨rfl, hb5⟩
              have Hb5 := Lib.hid hb5
              clear hb5
              go_wp2_with fail
              refine (HP2 Wq w5 HrX.out Hb5.out).out.mono ?_
              rintro e w6 ⟨rfl, hb6⟩
              have Hb6 : Hid (Below Wq.heap.size Wq w6) := Hb5.out.trans (hb6.mono Hb5.out.size)
              clear hb6
              go_wp2_with fail
              refine (HG1 _).out.mono ?_
              rintro e w7 ⟨v7, rfl, hown7, hb7⟩
              obtain ⟨A7, c7, rfl, hnc7, hrd7⟩ := own_slice hown7
              have Hrd7 := Lib.hid hrd7
              have Hb7 : Hid (Below Wq.heap.size Wq w7) := Hb6.out.trans (hb7.mono Hb6.out.size)
              clear hown7 hrd7 hb7
              go_wp2_with fail
              refine (HG2 _).out.mono ?_
              rintro e w8 ⟨v8, rfl, hown8, hb8⟩
              obtain ⟨A8, c8, rfl, hnc8, hrd8⟩ := own_slice hown8
              have Hrd8 := Lib.hid hrd8
              have Hb78 := Lib.hid hb8
              have Hb8 : Hid (Below Wq.heap.size Wq w8) := Hb7.out.trans (hb8.mono Hb7.out.size)
              clear hown8 hrd8 hb8
              go_wp2_with fail
              refine (errno_any _ _).mono ?_
              rintro e w' ⟨rfl, rfl⟩
              go_wp2_with fail
              refine (errno_any _ _).mono ?_
              rintro e w' ⟨rfl, rfl⟩
              go_wp2_with fail
              have hbo : Below Wo.heap.size Wo w8 := hbq.out.trans (Hb8.out.mono hbq.out.size)
              refine (sameInts_true A7 AY c7 cY Y w8 w7.heap.size Wo.heap.size (Hrd7.out.below Hb78.out) (HrY.out.below hbo) (by omega)).mono ?_
              rintro e w9 ⟨rfl, n9, rfl⟩
              go_wp2_with fail
              refine (sameTexts_true A8 AX c8 cX X _ w8.heap.size Wq.heap.size (Hrd8.out.drewN n9) ((HrX.out.below Hb8.out).drewN n9) (by omega)).mono ?_
              rintro e w10 ⟨rfl, n10, rfl⟩
              go_wp2_with fail
              go_ret
              exact ⟨rfl, below_drewN (Hb2.out.trans ((hbw.out.mono hs2).trans (hbo.mono (Nat.le_trans hs2 hsw)))) _⟩
end Go.Proofs.Ythpnhodpfhagaaa
