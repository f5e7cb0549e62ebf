/- The walk through QueryNewest. -/
import Derived.Test.YthdbmgjlegpbaaaK8
import Derived.Test.YthdbmgjlegpbaaaKQmRange
import Derived.Test.YthdbmgjlegpbaaaKQnP
import Derived.Test.YthdbmgjlegpbaaaK6
import Derived.Test.YthdbmgjlegpbaaaK4
import Derived.Test.YthdbmgjlegpbaaaKQbadLaw
import Derived.Deep.DeepCutAuto
namespace Go.Proofs.Ythdbmgjlegpbaaa
open Go.RowKit
set_option linter.unusedVariables false

def qnCells : Option Int → List Value
  | none => []
  | some v => [.string ⟨#[115]⟩, .int .i64 5, .int .i64 v]
theorem qn_cells (x : Option Int) : (Qn.lay x).flatMap pointCells = qnCells x := by cases x <;> rfl
theorem qn_wf (x : Option Int) (h : ∀ v, x = some v → 0 ≤ v ∧ v ≤ 100) : ∀ p ∈ Qn.lay x, Pt.wf p ∧ p.1.size ≤ 9223372036854775807 := by
  cases x with
  | none => intro p hp; cases hp
  | some v =>
    intro p hp
    obtain ⟨h1, h2⟩ := h v rfl
    simp only [Qn.lay, List.mem_singleton] at hp
    subst hp
    refine ⟨?_, by show (1 : Nat) ≤ _; omega⟩
    unfold Pt.wf
    simp only
    omega
theorem qn_put (i : Nat) (hi : i < 4) (x : Option Int) (hr : Sg.riseB (Qn.lay x) = true) (hx : ∀ v, x = some v → 0 ≤ v ∧ v ≤ 100) (A : Option Addr) (c : Nat) (W : World) (B : Nat) (hrd : Reads W B 3 A (Qn.lay x).length ((Qn.lay x).flatMap pointCells)) (hB : B ≤ W.heap.size) :
    Calls Try.prog 37 #[.int .i64 ((i : Int) + 1), .slice A (Qn.lay x).length c] W fun e w' => e = .returned (.tuple #[.string (Qn.file i x), .int .i64 0]) ∧ Below W.heap.size W w' := by
  have h := rsgput_any ((i : Int) + 1) A c (Qn.lay x) W B hrd hB (by rw [Qn.lay_len]; split <;> omega) (fun p hp => (qn_wf x hx p hp).1) (fun p hp => (qn_wf x hx p hp).2)
  rw [putR_good (by omega) hr] at h
  exact h
theorem qn_bit (a : Int) (i : Nat) : ∃ b : Bool, (bits .and .i64 a 1 == 1) = b := ⟨_, rfl⟩
set_option maxRecDepth 100000 in
set_option maxHeartbeats 4000000 in
theorem queryNewest_walk {w : World} (a0 a1 : Int) (w0 : (Lit.int .i64 a0).wf = true) (w1 : (Lit.int .i64 a1).wf = true) :
    Calls Try.prog 10 #[.int .i64 a0, .int .i64 a1] w fun e w' => e = .returned (.bool true) ∧ Below w.heap.size w w' := by
  obtain ⟨i1, hi', hy0, hy1, hy2⟩ := info_parts info_string
  clear w0 w1
  obtain ⟨m, hm, hand⟩ := and_low a1 3 (by omega)
  rw [show ((3 : Nat) : Int) = 3 from rfl] at hand
  go_enter Try.func10, Try.ntmps10
  go_wp2_with fail
  refine (awake15 _).mono ?_
  rintro e w1 ⟨rfl, hb1⟩
  have Hb1 := Lib.hid hb1
  have hs1 := hb1.size
  clear hb1
  go_wp2_with fail
  have Hand := Lib.hid hand
  clear hand
  have hk4 : wrap64 (1 + (m : Int)) = ((1 + m : Nat) : Int) := by rw [IntWalk.wrap64_in _ ⟨by omega, by omega⟩]; omega
  go_loopw [6, 7, 8, 9, 10, 11, 12] (fun vs wt is i _ _ _ wr => ∃ (j : Nat) (xs : List (Option Int)) (X : List ByteArray), j ≤ 1 + m ∧ i = .int .i64 (j : Int) ∧ wt = .int .i64 ((Qn.lst xs).getD 0) ∧ is = .bool (Qn.lst xs).isSome ∧ Hid (X.length = j) ∧ Hid (Qn.Segs xs X) ∧ Hid (wr.ownsRow w1.heap.size 9 1 vs X.length (X.map Value.string)) ∧ Hid (Below w1.heap.size w1 wr)) (fun _ _ _ i _ _ _ _ => 1 + m - (intOf i).toNat)
  case atStart => exact ⟨0, [], [], Nat.zero_le _, rfl, rfl, rfl, Lib.hid rfl, Lib.hid Qn.segs_nil, Lib.hid (own_nil _ _ _ _), Lib.hid (Below.refl _ _)⟩
  case round =>
    obtain ⟨j, xs, X, hj, rfl, rfl, rfl, hXl, hsg, hown, hbw⟩ := hrel
    have hsw := hbw.out.size
    by_cases hlt : j < 1 + m
    · have hltI : (j : Int) < ((1 + m : Nat) : Int) := by omega
      have hXj := hXl.out
      have hXs : X.length ≤ 4 := by omega
      have HA := fun W (h : Below wr.heap.size wr W) => Lib.hid (own_only hown.out (Only.new (fun _ => False) h) (fun _ _ q => q))
      by_cases hb : (bits .and .i64 (a0 / 2 ^ j) 1 == 1) = true
      · have HP := fun W B A c h1 h2 => Lib.hid (qn_put j (by omega) (some (10 + (j : Int))) (Qn.rise_some j (by omega)) (fun v hv => by injection hv with hv; omega) A c W B h1 h2)
        have HSn : Hid (Qn.Segs (xs ++ [some (10 + (j : Int))]) (X ++ [Qn.file j (some (10 + (j : Int)))])) := Qn.segs_snoc hsg.out (by omega) (Qn.rise_some j (by omega))
        have HL := Lib.hid (Qn.lst_some xs (10 + (j : Int)))
        generalize Qn.file j (some (10 + (j : Int))) = fl at *
        have hBl := Blk.new wr 52 #[.string ⟨#[115]⟩, .int .i64 5, .int .i64 (10 + (j : Int))]
        have hbl : Below wr.heap.size wr (wr.alloc (.cells #[.string ⟨#[115]⟩, .int .i64 5, .int .i64 (10 + (j : Int))] 52)) := (Below.refl _ _).alloc (Nat.le_refl _) _
        have hrl : Reads (wr.alloc (.cells #[.string ⟨#[115]⟩, .int .i64 5, .int .i64 (10 + (j : Int))] 52)) (wr.heap.size + 1) 3 (some ⟨wr.heap.size, 0, none⟩) 1 [.string ⟨#[115]⟩, .int .i64 5, .int .i64 (10 + (j : Int))] := Reads.new wr 52 3 1 [.string ⟨#[115]⟩, .int .i64 5, .int .i64 (10 + (j : Int))] rfl
        have hsl : (wr.alloc (.cells #[.string ⟨#[115]⟩, .int .i64 5, .int .i64 (10 + (j : Int))] 52)).heap.size = wr.heap.size + 1 := by simp
        have HP1 := HP _ _ _ 1 hrl (by omega)
        clear hBl hrl HP
        go_wp2_with fail
        generalize (wr.alloc (.cells #[.string ⟨#[115]⟩, .int .i64 5, .int .i64 (10 + (j : Int))] 52)) = wa at *
        refine HP1.out.mono ?_
        rintro e w2 ⟨rfl, hb2⟩
        have hb3 : Below wr.heap.size wr w2 := hbl.trans (hb2.mono (by omega))
        have Hown2 := HA w2 hb3
        have Hb3 : Hid (Below w1.heap.size w1 w2) := hbw.out.trans (hb3.mono hsw)
        have hs3 := Hb3.out.size
        clear hbl hsl HP1 hb2 hb3 HA hown hbw
        go_wp2_with (at_builtin; refine wpList_push _ rfl _ _ 24 rfl w1.heap.size 9 i1 _ 1 16 Try.underlying24 hi' hy0 hy1 hy2 rfl (by decide) _ X.length _ (by rfl) Hown2.out [.string fl] (by rfl) rfl (by simp [Value.oneCell']) (by unfold maxLen; omega) (by omega) w1 Hb3.out hs3 ?_; intro v8 w8 hown8 hb8)
        have Hown8 : Hid (w8.ownsRow w1.heap.size 9 1 v8 (X ++ [fl]).length ((X ++ [fl]).map Value.string)) := by
          show World.ownsRow _ _ _ _ _ _ _
          rw [List.map_append, List.length_append]; exact hown8
        have Hb8 := Lib.hid hb8
        have HXl : Hid ((X ++ [fl]).length = j + 1) := by show _ = _; rw [List.length_append, hXj]; rfl
        clear hown8 hb8
        go_roundw
        case rel => exact ⟨j + 1, xs ++ [some (10 + (j : Int))], X ++ [fl], by omega, by go_num, by rw [HL.out]; rfl, by rw [HL.out]; rfl, HXl, HSn, Hown8, Hb8⟩
        case measure => simp [intOf]; omega
      · have hb' : (bits .and .i64 (a0 / 2 ^ j) 1 == 1) = false := by simpa using hb
        have HP := fun W => Lib.hid (qn_put j (by omega) none Qn.rise_none (fun v hv => by cases hv) none 0 W W.heap.size Reads.none_ (Nat.le_refl _))
        have HSn : Hid (Qn.Segs (xs ++ [none]) (X ++ [Qn.file j none])) := Qn.segs_snoc hsg.out (by omega) Qn.rise_none
        have HL := Lib.hid (Qn.lst_none xs)
        generalize Qn.file j none = fl at *
        clear hb
        go_wp2_with fail
        refine (HP _).out.mono ?_
        rintro e w2 ⟨rfl, hb2⟩
        have Hown2 := HA w2 hb2
        have Hb3 : Hid (Below w1.heap.size w1 w2) := hbw.out.trans (hb2.mono hsw)
        have hs3 := Hb3.out.size
        clear hb2 HA hown hbw HP
        go_wp2_with (at_builtin; refine wpList_push _ rfl _ _ 24 rfl w1.heap.size 9 i1 _ 1 16 Try.underlying24 hi' hy0 hy1 hy2 rfl (by decide) _ X.length _ (by rfl) Hown2.out [.string fl] (by rfl) rfl (by simp [Value.oneCell']) (by unfold maxLen; omega) (by omega) w1 Hb3.out hs3 ?_; intro v8 w8 hown8 hb8)
        have Hown8 : Hid (w8.ownsRow w1.heap.size 9 1 v8 (X ++ [fl]).length ((X ++ [fl]).map Value.string)) := by
          show World.ownsRow _ _ _ _ _ _ _
          rw [List.map_append, List.length_append]; exact hown8
        have Hb8 := Lib.hid hb8
        have HXl : Hid ((X ++ [fl]).length = j + 1) := by show _ = _; rw [List.length_append, hXj]; rfl
        clear hown8 hb8
        go_roundw
        case rel => exact ⟨j + 1, xs ++ [none], X ++ [fl], by omega, by go_num, by rw [HL.out], by rw [HL.out], HXl, HSn, Hown8, Hb8⟩
        case measure => simp [intOf]; omega
    · have hltI : ¬ (j : Int) < 1 + (m : Int) := by omega
      have hXj := hXl.out
      have hXs : X.length ≤ 4 := by omega
      obtain ⟨A6, c6, rfl, _, hr6⟩ := own_slice hown.out
      have HR6 := Lib.hid hr6
      clear hr6 hown
      go_upto_if 56 with fail
      go_cut [7, 8, 13] (fun wt is vo wx => ∃ (o : Option Int) (A : Option Addr) (c : Nat), vo = .slice A (Qn.lay o).length c ∧ wt = .int .i64 ((Qn.lst (xs ++ [o])).getD 0) ∧ is = .bool (Qn.lst (xs ++ [o])).isSome ∧ Hid (Reads wx wx.heap.size 3 A (Qn.lay o).length ((Qn.lay o).flatMap pointCells)) ∧ Hid (Below wr.heap.size wr wx))
      case first =>
        as_aux_lemma =>
          have HLn := Lib.hid (Qn.lst_none xs)
          have HLs := Lib.hid (Qn.lst_some xs 99)
          clear HR6 hsg hXl hXj
          by_cases hb : (bits .and .i64 a0 64 == 64) = true
          · have hrl : Reads (wr.alloc (.cells #[.string ⟨#[115]⟩, .int .i64 5, .int .i64 99] 52)) (wr.heap.size + 1) 3 (some ⟨wr.heap.size, 0, none⟩) 1 [.string ⟨#[115]⟩, .int .i64 5, .int .i64 99] := Reads.new wr 52 3 1 [.string ⟨#[115]⟩, .int .i64 5, .int .i64 99] rfl
            have hbl : Below wr.heap.size wr (wr.alloc (.cells #[.string ⟨#[115]⟩, .int .i64 5, .int .i64 99] 52)) := (Below.refl _ _).alloc (Nat.le_refl _) _
            have hsl : (wr.alloc (.cells #[.string ⟨#[115]⟩, .int .i64 5, .int .i64 99] 52)).heap.size = wr.heap.size + 1 := by simp
            have Hrl := Lib.hid (hrl.more (Nat.le_of_eq hsl.symm))
            have Hbl := Lib.hid hbl
            clear hrl hbl hsl
            go_wp2_with fail
            go_meet
            exact ⟨some 99, _, 1, rfl, by rw [HLs.out]; rfl, by rw [HLs.out]; rfl, Hrl, Hbl⟩
          · have hb' : (bits .and .i64 a0 64 == 64) = false := by simpa using hb
            clear hb
            go_wp2_with fail
            go_meet
            exact ⟨none, none, 0, rfl, by rw [HLn.out], by rw [HLn.out], Lib.hid Reads.none_, Lib.hid (Below.refl _ _)⟩
      case rest =>
        obtain ⟨o, oA, oc, rfl, rfl, rfl, hro, hbx⟩ := hcut
        generalize wc = wx at *
        have hsx := hbx.out.size
        have hrX : Reads wx wx.heap.size 1 A6 X.length (X.map Value.string) := (HR6.out.below hbx.out).more hsx
        have hsz : ∀ s ∈ X, s.size ≤ 140737488355328 := fun s hs => by have := hsg.out.size s hs; omega
        have hol : (Qn.lay o).length ≤ 1 := by rw [Qn.lay_len]; split <;> omega
        have HLa := Lib.hid (fun W (h : Below wx.heap.size wx W) => last_any A6 c6 X (oA, oc, Qn.lay o) ⟨#[115]⟩ 5 W wx.heap.size (hrX.below h) (hro.out.below h) h.size (by omega) hsz (by dsimp only; omega))
        have HLb := Lib.hid (fun W (h : Below wx.heap.size wx W) => last_any A6 c6 X (oA, oc, Qn.lay o) ⟨#[115]⟩ 6 W wx.heap.size (hrX.below h) (hro.out.below h) h.size (by omega) hsz (by dsimp only; omega))
        have hpl := ptsOf_len X (Qn.lay o)
        have HLc := Lib.hid (fun W (h : Below wx.heap.size wx W) => range_any A6 c6 X (oA, oc, Qn.lay o) ⟨#[115]⟩ 0 9 W wx.heap.size (hrX.below h) h.size (by omega) hsz (hro.out.below h) (by dsimp only; omega))
        dsimp only at HLa HLb HLc
        rw [Qn.segs_last5 hsg.out] at HLa
        rw [Qn.segs_last6 hsg.out] at HLb
        rw [Qn.segs_range hsg.out] at HLc
        unfold layV LastPost at HLa HLb
        unfold layV RangePost at HLc
        dsimp only at HLa HLb HLc
        generalize Qn.lst (xs ++ [o]) = r at *
        have Hbx : Hid (Below w.heap.size w wx) := (Hb1.out.trans (hbw.out.mono hs1)).trans (hbx.out.mono (by omega))
        have hsxx := Hbx.out.size
        clear hrX hsz hpl hro hbx HR6 hsg hXl hXj hbw
        go_wp2_with fail
        refine (HLa.out _ (Below.refl _ _)).mono ?_
        rintro e w4 ⟨rfl, hb4⟩
        have Hb4 := Lib.hid hb4
        have hs4 := hb4.size
        clear hb4 HLa
        go_wp2_with fail
        refine (HLb.out _ Hb4.out).mono ?_
        rintro e w5 ⟨rfl, hb5⟩
        have Hb5 : Hid (Below wx.heap.size wx w5) := Hb4.out.trans (hb5.mono hs4)
        have hs5 := Hb5.out.size
        clear hb5 HLb
        go_wp2_with fail
        refine (HLc.out _ Hb5.out).mono ?_
        rintro e w6 ⟨v6, rfl, hown6, hb6⟩
        obtain ⟨A7, c7, rfl, _, _⟩ := own_slice hown6
        have Hb6 : Hid (Below w.heap.size w w6) := Hbx.out.trans ((Hb5.out.trans (hb6.mono hs5)).mono hsxx)
        clear hown6 hb6 HLc
        cases r with
        | none =>
          go_wp2_with fail
          refine (errno_any _ _).mono ?_
          rintro e w' ⟨rfl, rfl⟩
          go_wp2_with fail
          refine (errno_any _ _).mono ?_
          rintro e w' ⟨rfl, rfl⟩
          go_wp2_with fail
          refine (errno_any _ _).mono ?_
          rintro e w' ⟨rfl, rfl⟩
          go_wp2_with fail
          go_ret
          exact ⟨rfl, Hb6.out⟩
        | some v =>
          go_wp2_with fail
          refine (errno_any _ _).mono ?_
          rintro e w' ⟨rfl, rfl⟩
          go_wp2_with fail
          refine (errno_any _ _).mono ?_
          rintro e w' ⟨rfl, rfl⟩
          go_wp2_with fail
          refine (errno_any _ _).mono ?_
          rintro e w' ⟨rfl, rfl⟩
          go_wp2_with fail
          go_ret
          exact ⟨rfl, Hb6.out⟩
end Go.Proofs.Ythdbmgjlegpbaaa
