/- The walks through May, Batch of point and of its reference. -/
import Derived.Test.YtjfdkjgmjjfmcaaPtWalks
namespace Go.Proofs.Ytjfdkjgmjjfmcaa
open Go.RowKit
set_option linter.unusedVariables false

set_option maxRecDepth 100000 in
theorem rsmall_any (x : Int) (w : World) : Calls Try.prog 85 #[.int .i64 x] w fun e w' => e = .returned (.bool (Pt.smallB x)) ∧ w = w' := by
  by_cases h1 : -2147483648 ≤ x
  · by_cases h2 : x ≤ 2147483647
    · have H : Hid (Pt.smallB x = true) := (Pt.smallB_iff x).2 ⟨h1, h2⟩
      go_enter Try.func85, Try.ntmps85
      go_wp2
      go_ret
      exact ⟨ret_bool H.out.symm, rfl⟩
    · have H : Hid (Pt.smallB x = false) := (Pt.smallB_false x).2 (by omega)
      go_enter Try.func85, Try.ntmps85
      go_wp2
      go_ret
      exact ⟨ret_bool H.out.symm, rfl⟩
  · have H : Hid (Pt.smallB x = false) := (Pt.smallB_false x).2 (by omega)
    go_enter Try.func85, Try.ntmps85
    go_wp2
    go_ret
    exact ⟨ret_bool H.out.symm, rfl⟩

set_option maxRecDepth 100000 in
set_option maxHeartbeats 800000 in
theorem rname_any (s : ByteArray) (w : World) : Calls Try.prog 84 #[.string s] w fun e w' => e = .returned (.bool (Pt.nameB s)) ∧ w = w' := by
  by_cases h0 : s.size < 1
  · have hf := Lib.hid (name_none (s := s) (by omega))
    generalize Pt.nameB s = b at *
    go_enter Try.func84, Try.ntmps84
    go_wp2
    go_ret
    exact ⟨ret_bool hf.out.symm, rfl⟩
  · by_cases h12 : s.size ≤ 12
    · go_enter Try.func84, Try.ntmps84
      go_wp2
      go_loop [3] (fun i => ∃ k : Nat, k ≤ s.size ∧ i = .int .i64 (k : Int) ∧ Hid ((s.data.toList.take k).all Pt.nameC = true)) (fun i => s.size - (intOf i).toNat)
      case atStart => exact ⟨0, Nat.zero_le _, rfl, Lib.hid (by simp)⟩
      case round =>
        obtain ⟨k, hk, rfl, ha⟩ := hrel
        by_cases hlt : k < s.size
        · have hc8 : s[k].toNat < 256 := s[k].toNat_lt
          have HY := Lib.hid fun h => name_step hlt ha.out h
          have HN := Lib.hid (name_stop hlt)
          clear ha
          by_cases h95 : s[k].toNat = 95
          · have hz : ((s[k].toNat : Int) != 95) = false := by rw [h95]; rfl
            have hY := Lib.hid (HY.out (nameC_yes3 (beq_iff_eq.2 (by omega))))
            clear h95 HY HN
            go_wp2
            go_round
            case rel => exact ⟨k + 1, by omega, by go_num, hY⟩
            case measure => simp [intOf]; omega
          · have hz : ((s[k].toNat : Int) != 95) = true := by simp; omega
            have hz' : ((s[k].toNat : Int) == 95) = false := by simp; omega
            by_cases hl : 97 ≤ s[k].toNat ∧ s[k].toNat ≤ 122
            · obtain ⟨hl1, hl2⟩ := hl
              have hY := Lib.hid (HY.out (nameC_yes1 (by omega) (by omega)))
              clear h95 HY HN hz'
              go_wp2
              go_round
              case rel => exact ⟨k + 1, by omega, by go_num, hY⟩
              case measure => simp [intOf]; omega
            · by_cases hd : 48 ≤ s[k].toNat ∧ s[k].toNat ≤ 57
              · obtain ⟨hd1, hd2⟩ := hd
                have hl' : s[k].toNat < 97 := by omega
                have hY := Lib.hid (HY.out (nameC_yes2 (by omega) (by omega)))
                clear h95 HY HN hz' hl
                go_wp2
                go_round
                case rel => exact ⟨k + 1, by omega, by go_num, hY⟩
                case measure => simp [intOf]; omega
              · have hN := Lib.hid (HN.out (nameC_no (by omega) (by omega) hz'))
                clear h95 HY HN hz'
                have hl' : s[k].toNat < 97 ∨ 122 < s[k].toNat := by omega
                have hd' : s[k].toNat < 48 ∨ 57 < s[k].toNat := by omega
                clear hl hd
                rcases hl' with hl' | hl' <;> rcases hd' with hd' | hd'
                all_goals first
                  | (exfalso; omega)
                  | (go_wp2
                     go_ret
                     exact ⟨ret_bool hN.out.symm, rfl⟩)
        · have hst := Lib.hid (name_done (by omega) h12 hlt ha.out)
          clear ha
          go_wp2
          go_ret
          exact ⟨ret_bool hst.out.symm, rfl⟩
    · have hf := Lib.hid (name_much h12)
      generalize Pt.nameB s = b at *
      go_enter Try.func84, Try.ntmps84
      go_wp2
      go_ret
      exact ⟨ret_bool hf.out.symm, rfl⟩

/-- a point's numbers are ints -/
def Pt.wf (p : Pt.Point) : Prop := (-9223372036854775808 ≤ p.2.1 ∧ p.2.1 ≤ 9223372036854775807) ∧ (-9223372036854775808 ≤ p.2.2 ∧ p.2.2 ≤ 9223372036854775807)
def ptV (p : Pt.Point) : Value := .agg #[.string p.1, .int .i64 p.2.1, .int .i64 p.2.2]

set_option maxRecDepth 100000 in
theorem may_any (p : Pt.Point) (w : World) (hp : Pt.wf p) : Calls Try.prog 65 #[.agg #[.string p.1, .int .i64 p.2.1, .int .i64 p.2.2]] w fun e w' => e = .returned (.bool (Pt.mayB p)) ∧ Below w.heap.size w w' := by
  obtain ⟨s, t, v⟩ := p
  have H1 := fun W => Lib.hid (name_any s W)
  have H2 := fun W => Lib.hid (small_any t W hp.1)
  have H3 := fun W => Lib.hid (small_any v W hp.2)
  have hm : Pt.mayB (s, t, v) = (Pt.nameB s && Pt.smallB t && Pt.smallB v) := rfl
  clear hp
  generalize Pt.mayB (s, t, v) = b at *
  generalize Pt.nameB s = b1 at *
  generalize Pt.smallB t = b2 at *
  generalize Pt.smallB v = b3 at *
  have Hm := Lib.hid hm
  clear hm
  have hb := (Below.refl w.heap.size w).alloc (Nat.le_refl _) (.cells #[.string s, .int .i64 t, .int .i64 v] 85)
  cases b1
  · go_enter Try.func65, Try.ntmps65
    go_wp2_with fail
    refine (H1 _).out.mono ?_
    rintro e w' ⟨rfl, rfl⟩
    go_wp2_with fail
    go_ret
    exact ⟨ret_bool (by rw [Hm.out]; rfl), hb⟩
  · cases b2
    · go_enter Try.func65, Try.ntmps65
      go_wp2_with fail
      refine (H1 _).out.mono ?_
      rintro e w' ⟨rfl, rfl⟩
      go_wp2_with fail
      refine (H2 _).out.mono ?_
      rintro e w' ⟨rfl, rfl⟩
      go_wp2_with fail
      go_ret
      exact ⟨ret_bool (by rw [Hm.out]; rfl), hb⟩
    · go_enter Try.func65, Try.ntmps65
      go_wp2_with fail
      refine (H1 _).out.mono ?_
      rintro e w' ⟨rfl, rfl⟩
      go_wp2_with fail
      refine (H2 _).out.mono ?_
      rintro e w' ⟨rfl, rfl⟩
      go_wp2_with fail
      refine (H3 _).out.mono ?_
      rintro e w' ⟨rfl, rfl⟩
      go_wp2_with fail
      go_ret
      exact ⟨ret_bool (by rw [Hm.out]; rfl), hb⟩

set_option maxRecDepth 100000 in
theorem rmay_any (p : Pt.Point) (w : World) (hp : Pt.wf p) : Calls Try.prog 67 #[.agg #[.string p.1, .int .i64 p.2.1, .int .i64 p.2.2]] w fun e w' => e = .returned (.bool (Pt.mayB p)) ∧ Below w.heap.size w w' := by
  obtain ⟨s, t, v⟩ := p
  have H1 := fun W => Lib.hid (rname_any s W)
  have H2 := fun W => Lib.hid (rsmall_any t W)
  have H3 := fun W => Lib.hid (rsmall_any v W)
  have hm : Pt.mayB (s, t, v) = (Pt.nameB s && Pt.smallB t && Pt.smallB v) := rfl
  clear hp
  generalize Pt.mayB (s, t, v) = b at *
  generalize Pt.nameB s = b1 at *
  generalize Pt.smallB t = b2 at *
  generalize Pt.smallB v = b3 at *
  have Hm := Lib.hid hm
  clear hm
  have hb := (Below.refl w.heap.size w).alloc (Nat.le_refl _) (.cells #[.string s, .int .i64 t, .int .i64 v] 85)
  cases b1
  · go_enter Try.func67, Try.ntmps67
    go_wp2_with fail
    refine (H1 _).out.mono ?_
    rintro e w' ⟨rfl, rfl⟩
    go_wp2_with fail
    go_ret
    exact ⟨ret_bool (by rw [Hm.out]; rfl), hb⟩
  · cases b2
    · go_enter Try.func67, Try.ntmps67
      go_wp2_with fail
      refine (H1 _).out.mono ?_
      rintro e w' ⟨rfl, rfl⟩
      go_wp2_with fail
      refine (H2 _).out.mono ?_
      rintro e w' ⟨rfl, rfl⟩
      go_wp2_with fail
      go_ret
      exact ⟨ret_bool (by rw [Hm.out]; rfl), hb⟩
    · go_enter Try.func67, Try.ntmps67
      go_wp2_with fail
      refine (H1 _).out.mono ?_
      rintro e w' ⟨rfl, rfl⟩
      go_wp2_with fail
      refine (H2 _).out.mono ?_
      rintro e w' ⟨rfl, rfl⟩
      go_wp2_with fail
      refine (H3 _).out.mono ?_
      rintro e w' ⟨rfl, rfl⟩
      go_wp2_with fail
      go_ret
      exact ⟨ret_bool (by rw [Hm.out]; rfl), hb⟩

theorem batch_stop {ps : List Pt.Point} {k : Nat} (hk : k < ps.length) (h : Pt.mayB ps[k] = false) : ps.any (fun p => !Pt.mayB p) = true := by
  rw [List.any_eq_true]
  exact ⟨ps[k], List.getElem_mem _, by rw [h]; rfl⟩
theorem batch_step {ps : List Pt.Point} {k : Nat} (hk : k < ps.length) (ha : (ps.take k).any (fun p => !Pt.mayB p) = false) (h : Pt.mayB ps[k] = true) : (ps.take (k + 1)).any (fun p => !Pt.mayB p) = false := by
  rw [List.take_succ_eq_append_getElem hk, List.any_append, ha]; simp [h]
theorem batch_done {ps : List Pt.Point} {k : Nat} (hk : ¬ k < ps.length) (ha : (ps.take k).any (fun p => !Pt.mayB p) = false) : ps.any (fun p => !Pt.mayB p) = false := by
  rwa [List.take_of_length_le (by omega)] at ha
theorem batch_eq (ps : List Pt.Point) : Pt.batchB ps = (decide (ps.length ≤ 8) && !ps.any (fun p => !Pt.mayB p)) := by
  unfold Pt.batchB; congr 1
  induction ps with
  | nil => rfl
  | cons p ps ih => rw [List.all_cons, List.any_cons, ih]; simp

def IdxPost (w : World) (b : Bool) (e : Ending) (w' : World) : Prop := ∃ i : Int, e = .returned (.int .i64 i) ∧ decide (0 ≤ i) = b ∧ Below w.heap.size w w'

theorem batch1_any (p : Pt.Point) (w : World) (hp : Pt.wf p) : Calls Try.prog 83 #[.agg #[.string p.1, .int .i64 p.2.1, .int .i64 p.2.2]] w fun e w' => e = .returned (.bool (!Pt.mayB p)) ∧ Below w.heap.size w w' := by
  have H1 := fun W => Lib.hid (may_any p W hp)
  generalize Pt.mayB p = b at *
  go_enter Try.func83, Try.ntmps83
  go_wp2_with fail
  refine (H1 _).out.mono ?_
  rintro e w' ⟨rfl, hb⟩
  go_wp2_with fail
  go_ret
  exact ⟨rfl, ((Below.refl w.heap.size w).alloc (Nat.le_refl _) _).trans (hb.mono (by simp))⟩

set_option maxRecDepth 100000 in
set_option maxHeartbeats 400000 in
theorem indexFunc_any (A : Option Addr) (c : Nat) (ps : List Pt.Point) (w : World) (B : Nat) (hr : Reads w B 3 A ps.length (ps.flatMap pointCells)) (hB : B ≤ w.heap.size) (hn : ps.length ≤ 140737488355328) (hwf : ∀ p ∈ ps, Pt.wf p) :
    Calls Try.prog 91 #[.slice A ps.length c, .func (.func 83) #[] #[]] w (IdxPost w (ps.any fun p => !Pt.mayB p)) := by
  have HW := Lib.hid hwf
  have HR := Lib.hid hr
  clear hwf hr
  go_enter Try.func91, Try.ntmps91
  go_wp2
  go_loopw [5, 8] (fun _ i wr => ∃ k : Nat, k ≤ ps.length ∧ i = .int .i64 (k : Int) ∧ Hid ((ps.take k).any (fun p => !Pt.mayB p) = false) ∧ Hid (Below w.heap.size w wr)) (fun _ i _ => ps.length - (intOf i).toNat)
  case atStart => exact ⟨0, Nat.zero_le _, rfl, Lib.hid (by simp), Lib.hid (Below.refl _ _)⟩
  case round =>
    obtain ⟨k, hk, rfl, ha, hbw⟩ := hrel
    by_cases hlt : k < ps.length
    · obtain ⟨b, off, rfl, hbl, hc⟩ := HR.out.2 (by omega)
      have hbw1 := hbw.out
      have hcell0 : wr.cell? ⟨b, off + k * 3, none⟩ = some (.string ps[k].1) := by have := hc (k * 3 + 0) (.string ps[k].1) (by rw [flat_at pointCells 3 (fun _ => rfl) ps k 0 hlt (by omega)]; rfl); rw [hbw1.cell (p := ⟨b, _, none⟩) (show b < _ by omega)]; rwa [← Nat.add_assoc] at this
      have hcell1 : wr.cell? ⟨b, off + k * 3 + 1, none⟩ = some (.int .i64 ps[k].2.1) := by have := hc (k * 3 + 1) (.int .i64 ps[k].2.1) (by rw [flat_at pointCells 3 (fun _ => rfl) ps k 1 hlt (by omega)]; rfl); rw [hbw1.cell (p := ⟨b, _, none⟩) (show b < _ by omega)]; rwa [← Nat.add_assoc] at this
      have hcell2 : wr.cell? ⟨b, off + k * 3 + 2, none⟩ = some (.int .i64 ps[k].2.2) := by have := hc (k * 3 + 2) (.int .i64 ps[k].2.2) (by rw [flat_at pointCells 3 (fun _ => rfl) ps k 2 hlt (by omega)]; rfl); rw [hbw1.cell (p := ⟨b, _, none⟩) (show b < _ by omega)]; rwa [← Nat.add_assoc] at this
      have H1 := fun W => Lib.hid (batch1_any ps[k] W (HW.out _ (List.getElem_mem _)))
      have HS := Lib.hid fun h => batch_stop hlt h
      have HG := Lib.hid fun h => batch_step hlt ha.out h
      clear hc ha hbw1
      cases hm : Pt.mayB ps[k]
      · have hF := Lib.hid (HS.out hm)
        rw [hm] at H1
        clear HS HG hm
        go_wp2_with fail
        refine (H1 _).out.mono ?_
        rintro e w1 ⟨rfl, hb1⟩
        go_wp2_with fail
        go_ret
        exact ⟨_, rfl, by rw [hF.out]; simp, hbw.out.trans (hb1.mono hbw.out.size)⟩
      · have hF := Lib.hid (HG.out hm)
        rw [hm] at H1
        clear HS HG hm
        go_wp2_with fail
        refine (H1 _).out.mono ?_
        rintro e w1 ⟨rfl, hb1⟩
        go_wp2_with fail
        go_roundw
        case rel => exact ⟨k + 1, by omega, by go_num, hF, Lib.hid (hbw.out.trans (hb1.mono hbw.out.size))⟩
        case measure => simp [intOf]; omega
    · have hF := Lib.hid (batch_done hlt ha.out)
      clear ha
      go_wp2_with fail
      go_ret
      exact ⟨_, rfl, by rw [hF.out]; rfl, hbw.out⟩

set_option maxRecDepth 100000 in
theorem containsFunc_any (A : Option Addr) (c : Nat) (ps : List Pt.Point) (w : World) (B : Nat) (hr : Reads w B 3 A ps.length (ps.flatMap pointCells)) (hB : B ≤ w.heap.size) (hn : ps.length ≤ 140737488355328) (hwf : ∀ p ∈ ps, Pt.wf p) :
    Calls Try.prog 82 #[.slice A ps.length c, .func (.func 83) #[] #[]] w fun e w' => e = .returned (.bool (ps.any fun p => !Pt.mayB p)) ∧ Below w.heap.size w w' := by
  have H1 := fun W => Lib.hid fun (h : w = W) => (show Calls Try.prog 91 #[.slice A ps.length c, .func (.func 83) #[] #[]] W (IdxPost W (ps.any fun p => !Pt.mayB p)) from h ▸ indexFunc_any A c ps w B hr hB hn hwf)
  clear hr hwf
  go_enter Try.func82, Try.ntmps82
  go_wp2_with fail
  refine ((H1 _).out rfl).mono ?_
  rintro e w1 ⟨i, rfl, hi, hb⟩
  have Hi := Lib.hid hi
  clear hi
  go_wp2_with fail
  go_ret
  exact ⟨ret_bool Hi.out, hb⟩

set_option maxRecDepth 100000 in
theorem batch_any (A : Option Addr) (c : Nat) (ps : List Pt.Point) (w : World) (B : Nat) (hr : Reads w B 3 A ps.length (ps.flatMap pointCells)) (hB : B ≤ w.heap.size) (hn : ps.length ≤ 140737488355328) (hwf : ∀ p ∈ ps, Pt.wf p) :
    Calls Try.prog 66 #[.slice A ps.length c] w fun e w' => e = .returned (.bool (Pt.batchB ps)) ∧ Below w.heap.size w w' := by
  have H1 := Lib.hid (containsFunc_any A c ps w B hr hB hn hwf)
  have He := batch_eq ps
  clear hr hwf
  by_cases h8 : ps.length ≤ 8
  · have HE : Hid (Pt.batchB ps = !ps.any (fun p => !Pt.mayB p)) := by show _ = _; rw [He]; simp [h8]
    clear He
    generalize Pt.batchB ps = r at *
    generalize ps.any (fun p => !Pt.mayB p) = b at *
    go_enter Try.func66, Try.ntmps66
    go_wp2_with fail
    refine H1.out.mono ?_
    rintro e w1 ⟨rfl, hb⟩
    go_wp2_with fail
    go_ret
    exact ⟨ret_bool HE.out.symm, hb⟩
  · have HE : Hid (Pt.batchB ps = false) := by show _ = _; rw [He]; simp [h8]
    clear He
    generalize Pt.batchB ps = r at *
    go_enter Try.func66, Try.ntmps66
    go_wp2_with fail
    go_ret
    exact ⟨ret_bool HE.out.symm, Below.refl _ _⟩

set_option maxRecDepth 100000 in
set_option maxHeartbeats 400000 in
theorem rbatch_any (A : Option Addr) (c : Nat) (ps : List Pt.Point) (w : World) (B : Nat) (hr : Reads w B 3 A ps.length (ps.flatMap pointCells)) (hB : B ≤ w.heap.size) (hn : ps.length ≤ 140737488355328) (hwf : ∀ p ∈ ps, Pt.wf p) :
    Calls Try.prog 57 #[.slice A ps.length c] w fun e w' => e = .returned (.bool (Pt.batchB ps)) ∧ Below w.heap.size w w' := by
  have HW := Lib.hid hwf
  have HR := Lib.hid hr
  have HE := Lib.hid (batch_eq ps)
  clear hwf hr
  generalize Pt.batchB ps = res at *
  go_enter Try.func57, Try.ntmps57
  go_wp2
  go_loopw [3] (fun i wr => ∃ k : Nat, k ≤ ps.length ∧ i = .int .i64 (k : Int) ∧ Hid ((ps.take k).any (fun p => !Pt.mayB p) = false) ∧ Hid (Below w.heap.size w wr)) (fun i _ => ps.length - (intOf i).toNat)
  case atStart => exact ⟨0, Nat.zero_le _, rfl, Lib.hid (by simp), Lib.hid (Below.refl _ _)⟩
  case round =>
    obtain ⟨k, hk, rfl, ha, hbw⟩ := hrel
    by_cases hlt : k < ps.length
    · obtain ⟨b, off, rfl, hbl, hc⟩ := HR.out.2 (by omega)
      have hbw1 := hbw.out
      have hcell0 : wr.cell? ⟨b, off + k * 3, none⟩ = some (.string ps[k].1) := by have := hc (k * 3 + 0) (.string ps[k].1) (by rw [flat_at pointCells 3 (fun _ => rfl) ps k 0 hlt (by omega)]; rfl); rw [hbw1.cell (p := ⟨b, _, none⟩) (show b < _ by omega)]; rwa [← Nat.add_assoc] at this
      have hcell1 : wr.cell? ⟨b, off + k * 3 + 1, none⟩ = some (.int .i64 ps[k].2.1) := by have := hc (k * 3 + 1) (.int .i64 ps[k].2.1) (by rw [flat_at pointCells 3 (fun _ => rfl) ps k 1 hlt (by omega)]; rfl); rw [hbw1.cell (p := ⟨b, _, none⟩) (show b < _ by omega)]; rwa [← Nat.add_assoc] at this
      have hcell2 : wr.cell? ⟨b, off + k * 3 + 2, none⟩ = some (.int .i64 ps[k].2.2) := by have := hc (k * 3 + 2) (.int .i64 ps[k].2.2) (by rw [flat_at pointCells 3 (fun _ => rfl) ps k 2 hlt (by omega)]; rfl); rw [hbw1.cell (p := ⟨b, _, none⟩) (show b < _ by omega)]; rwa [← Nat.add_assoc] at this
      have H1 := fun W => Lib.hid (rmay_any ps[k] W (HW.out _ (List.getElem_mem _)))
      have HS := Lib.hid fun h => batch_stop hlt h
      have HG := Lib.hid fun h => batch_step hlt ha.out h
      clear hc ha hbw1
      cases hm : Pt.mayB ps[k]
      · have hF : Hid (res = false) := by show _ = _; rw [HE.out, HS.out hm]; simp
        rw [hm] at H1
        clear HS HG hm HE
        go_wp2_with fail
        refine (H1 _).out.mono ?_
        rintro e w1 ⟨rfl, hb1⟩
        go_wp2_with fail
        go_ret
        exact ⟨ret_bool hF.out.symm, hbw.out.trans (hb1.mono hbw.out.size)⟩
      · have hF := Lib.hid (HG.out hm)
        rw [hm] at H1
        clear HS HG hm
        go_wp2_with fail
        refine (H1 _).out.mono ?_
        rintro e w1 ⟨rfl, hb1⟩
        go_wp2_with fail
        go_roundw
        case rel => exact ⟨k + 1, by omega, by go_num, hF, Lib.hid (hbw.out.trans (hb1.mono hbw.out.size))⟩
        case measure => simp [intOf]; omega
    · have hF : Hid (res = decide (ps.length ≤ 8)) := by show _ = _; rw [HE.out, batch_done hlt ha.out]; simp
      clear ha HE
      go_wp2_with fail
      go_ret
      exact ⟨ret_bool (by rw [hF.out]; first | rfl | (simp; omega)), hbw.out⟩
end Go.Proofs.Ytjfdkjgmjjfmcaa
