/- A session is opened: the walks through BinarySearchFunc over a table, session.open and its reference (chapter 10). -/
import Derived.Test.YtllbjegnjjeaeaaSlRow
import Derived.Test.YtllbjegnjjeaeaaShelf
namespace Go.Proofs.Ytllbjegnjjeaeaa
open Go.RowKit
set_option linter.unusedVariables false

theorem open1_any (r : Se.Row) (t : Int) (w : World) :
    Calls Try.prog 46 #[.agg #[.int .i64 r.1, .int .i64 r.2.1, .int .i64 r.2.2.1, .int .i64 r.2.2.2], .int .i64 t] w fun e w' => e = .returned (.int .i64 (Lib.compareInt r.1 t)) ∧ Below w.heap.size w w' := by
  have H1 := fun W => Lib.hid (Try.cmp_Compare_int r.1 t W)
  generalize Lib.compareInt r.1 t = q at *
  go_enter Try.func46, Try.ntmps46
  go_wp2_with fail
  refine (H1 _).out.mono ?_
  rintro e w' ⟨rfl, rfl⟩
  go_wp2_with fail
  go_ret
  exact ⟨rfl, (Below.refl w.heap.size w).alloc (Nat.le_refl _) _⟩
theorem cmp_lt {x y : Int} (h : x < y) : Lib.compareInt x y < 0 := by unfold Lib.compareInt; rw [if_pos h]; omega
theorem cmp_ge {x y : Int} (h : ¬ x < y) : ¬ Lib.compareInt x y < 0 := by unfold Lib.compareInt; rw [if_neg h]; split <;> omega
theorem half_of (i j : Nat) (h : i ≤ 1000000000 ∧ j ≤ 1000000000) : (IntKind.u64.wrap ((i : Int) + (j : Int)) / 2 : Int) = (((i + j) / 2 : Nat) : Int) := by rw [IntKind.wrap_u64]; omega
def BsPost (w : World) (k : Nat) (e : Ending) (w' : World) : Prop := ∃ b, e = .returned (.tuple #[.int .i64 (k : Int), .bool b]) ∧ Below w.heap.size w w'
set_option maxRecDepth 100000 in
set_option maxHeartbeats 1000000 in
theorem bsR_any (A : Option Addr) (c : Nat) (ps : List Se.Row) (t : Int) (w : World) (B : Nat) (hr : Reads w B 4 A ps.length (ps.flatMap rowCells)) (hB : B ≤ w.heap.size) (hn : ps.length ≤ 1000000) (hs : ∀ i j (hij : i < j) (hj : j < ps.length), (ps[i]'(by omega)).1 < ps[j].1) :
    Calls Try.prog 45 #[.slice A ps.length c, .int .i64 t, .func (.func 46) #[] #[]] w (BsPost w (Se.lo ps t)) := by
  have HR := Lib.hid hr
  have HS := Lib.hid hs
  have HLo := Lib.hid (fun k hk ha hb => @Se.lo_of ps t k hk ha hb)
  clear hr hs
  generalize Se.lo ps t = res at *
  go_enter Try.func45, Try.ntmps45
  go_wp2_with fail
  go_loopw [9, 10, 11] (fun x y _ wr => ∃ i j : Nat, i ≤ j ∧ j ≤ ps.length ∧ x = .int .i64 (i : Int) ∧ y = .int .i64 (j : Int) ∧ Hid (∀ q (hq : q < ps.length), q < i → ps[q].1 < t) ∧ Hid (∀ q (hq : q < ps.length), j ≤ q → t ≤ ps[q].1) ∧ Hid (Below w.heap.size w wr)) (fun x y _ _ => (intOf y).toNat - (intOf x).toNat)
  case atStart => exact ⟨0, ps.length, Nat.zero_le _, Nat.le_refl _, rfl, rfl, Lib.hid (fun _ _ h => absurd h (by omega)), Lib.hid (fun _ _ h => absurd h (by omega)), Lib.hid (Below.refl _ _)⟩
  case round =>
    obtain ⟨i, j, hij, hj, rfl, rfl, ha, hb, hbw⟩ := hrel
    have hsw := hbw.out.size
    by_cases hlt : i < j
    · obtain ⟨h, hh⟩ : ∃ h, h = (i + j) / 2 := ⟨_, rfl⟩
      have hhl : h < ps.length := by omega
      have hih : i ≤ h ∧ h < j := by omega
      have hq0 : (0 : Int) ≤ ((i : Int) + (j : Int)) / 2 := by omega
      have hq1 : ((i : Int) + (j : Int)) / 2 < (ps.length : Int) := by omega
      obtain ⟨b, off, rfl, hbl, hc⟩ := HR.out.2 (by omega)
      obtain ⟨hc0, hc1, hc2, hc3⟩ := row_cells (wr := wr) hhl hc (fun p hp => hbw.out.cell (p := p) (by omega)) hbl
      have HSh := Lib.hid (fun q (hq : q < ps.length) (hqh : q < h) => HS.out q h hqh hhl)
      have HSg : Hid (∀ q (hq : q < ps.length), h < q → ps[h].1 < ps[q].1) := fun q hq hqh => HS.out h q hqh hq
      obtain ⟨p, hp⟩ : ∃ p, ps[h] = p := ⟨_, rfl⟩
      have Hp := Lib.hid hp
      rw [hp] at hc0 hc1 hc2 hc3 HSh HSg
      have Hh := Lib.hid hh
      rw [hh] at hc0 hc1 hc2 hc3
      have H1 := fun W => Lib.hid (open1_any p t W)
      clear hc hh hp
      by_cases hm : p.1 < t
      · have hcm := cmp_lt hm
        have hF : Hid (∀ q (hq : q < ps.length), q < h + 1 → ps[q].1 < t) := fun q hq hqh => by
          by_cases e : q = h
          · subst e; rw [Hp.out]; exact hm
          · have := HSh.out q hq (by omega); omega
        clear HSh HSg ha hm
        generalize Lib.compareInt p.1 t = cv at *
        go_wp2_with fail
        refine (H1 _).out.mono ?_
        rintro e w1 ⟨rfl, hb1⟩
        go_wp2_with fail
        go_roundw
        case rel => exact ⟨h + 1, j, by omega, hj, by rw [Hh.out]; go_num, rfl, hF, hb, Lib.hid (hbw.out.trans (hb1.mono hsw))⟩
        case measure => simp [intOf]; omega
      · have hcm := cmp_ge hm
        have hF : Hid (∀ q (hq : q < ps.length), h ≤ q → t ≤ ps[q].1) := fun q hq hqh => by
          by_cases e : q = h
          · subst e; rw [Hp.out]; omega
          · have := HSg.out q hq (by omega); omega
        clear HSh HSg hb hm
        generalize Lib.compareInt p.1 t = cv at *
        go_wp2_with fail
        refine (H1 _).out.mono ?_
        rintro e w1 ⟨rfl, hb1⟩
        go_wp2_with fail
        go_roundw
        case rel => exact ⟨i, h, by omega, by omega, rfl, by rw [Hh.out]; go_num, ha, hF, Lib.hid (hbw.out.trans (hb1.mono hsw))⟩
        case measure => simp [intOf]; omega
    · obtain rfl : i = j := by omega
      have hF : Hid (res = i) := HLo.out i hj (fun q hq => ha.out q (by omega) hq) (fun h => hb.out i h (Nat.le_refl _))
      clear ha hb HLo
      by_cases hil : i < ps.length
      · obtain ⟨b, off, rfl, hbl, hc⟩ := HR.out.2 (by omega)
        obtain ⟨hc0, hc1, hc2, hc3⟩ := row_cells (wr := wr) hil hc (fun p hp => hbw.out.cell (p := p) (by omega)) hbl
        have H1 := fun W => Lib.hid (open1_any ps[i] t W)
        have hd : decide ((i : Int) < (ps.length : Int)) = true := decide_eq_true (by omega)
        clear hc
        generalize Lib.compareInt ps[i].1 t = cv at *
        go_wp2_with fail
        refine (H1 _).out.mono ?_
        rintro e w1 ⟨rfl, hb1⟩
        go_wp2_with fail
        go_ret2
        exact ⟨_, by rw [hF.out]; rfl, hbw.out.trans (hb1.mono hsw)⟩
      · have hd : decide ((i : Int) < (ps.length : Int)) = false := decide_eq_false (by omega)
        go_wp2_with fail
        go_ret2
        exact ⟨_, by rw [hF.out]; rfl, hbw.out⟩
end Go.Proofs.Ytllbjegnjjeaeaa
