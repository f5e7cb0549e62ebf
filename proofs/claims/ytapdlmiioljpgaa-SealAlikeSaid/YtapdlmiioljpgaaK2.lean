/- Joined texts: PtWalks, PtMay, PtBatch, PtBack, IgMay, Open, Open3, Err, Ent. -/
import Derived.Test.YtapdlmiioljpgaaK1
import Derived.Test.YtapdlmiioljpgaaProg
import Derived.Test.YtapdlmiioljpgaaRows
import Derived.ProofKit
import Derived.OpenShut
import Derived.ShutString
import Derived.SliceStrings
import Derived.Deep.Slices
import Derived.Deep.Fields
import Derived.ChangeSame
import Derived.SizedLaws
import Derived.Lib.SmallJoins
/- The walks through point.Name, Small, May, Batch and the references' Name, Small, May, Batch. -/
namespace Go.Proofs.Ytapdlmiioljpgaa
open Go.RowKit
set_option linter.unusedVariables false

theorem nameC_yes1 {c : UInt8} (h : (97 : Int) ≤ (c.toNat : Int)) (h' : (c.toNat : Int) ≤ 122) : Pt.nameC c = true := by unfold Pt.nameC; simp; omega
theorem nameC_yes2 {c : UInt8} (h : (48 : Int) ≤ (c.toNat : Int)) (h' : (c.toNat : Int) ≤ 57) : Pt.nameC c = true := by unfold Pt.nameC; simp; omega
theorem nameC_yes3 {c : UInt8} (h : ((c.toNat : Int) == 95) = true) : Pt.nameC c = true := by rw [beq_iff_eq] at h; unfold Pt.nameC; simp; omega
theorem nameC_no {c : UInt8} (h : ¬ ((97 : Int) ≤ (c.toNat : Int) ∧ (c.toNat : Int) ≤ 122)) (h' : ¬ ((48 : Int) ≤ (c.toNat : Int) ∧ (c.toNat : Int) ≤ 57)) (h'' : ((c.toNat : Int) == 95) = false) : Pt.nameC c = false := by
  rw [beq_eq_false_iff_ne] at h''; unfold Pt.nameC; simp; omega
theorem name_none {s : ByteArray} (h : s.size = 0) : Pt.nameB s = false := by unfold Pt.nameB; simp [h]
theorem name_much {s : ByteArray} (h : ¬ s.size ≤ 12) : Pt.nameB s = false := by unfold Pt.nameB; simp [h]
theorem name_stop {s : ByteArray} {k : Nat} (hk : k < s.size) (h : Pt.nameC s[k] = false) : Pt.nameB s = false := by
  unfold Pt.nameB
  have : s.data.toList.all Pt.nameC = false := by
    rw [List.all_eq_false]
    exact ⟨s[k], by simp; exact Array.getElem_mem _, by rw [h]; simp⟩
  rw [this]; simp
theorem name_step {s : ByteArray} {k : Nat} (hk : k < s.size) (ha : (s.data.toList.take k).all Pt.nameC = true) (h : Pt.nameC s[k] = true) : (s.data.toList.take (k + 1)).all Pt.nameC = true := by
  rw [take_snoc s k hk, List.all_append, ha]; simp [h]
theorem name_done {s : ByteArray} {k : Nat} (h1 : 1 ≤ s.size) (h2 : s.size ≤ 12) (hk : ¬ k < s.size) (ha : (s.data.toList.take k).all Pt.nameC = true) : Pt.nameB s = true := by
  rw [List.take_of_length_le (by simp; omega)] at ha
  unfold Pt.nameB; simp [ha, h1, h2]

set_option maxRecDepth 100000 in
set_option maxHeartbeats 800000 in
theorem name_any (s : ByteArray) (w : World) : Calls Try.prog 124 #[.string s] w fun e w' => e = .returned (.bool (Pt.nameB s)) ∧ w = w' := by
  by_cases h0 : s.size = 0
  · have hf := Lib.hid (name_none h0)
    have he := empty_of h0
    subst he
    clear h0
    generalize Pt.nameB ⟨#[]⟩ = b at *
    go_enter Try.func124, Try.ntmps124
    go_wp2
    go_step3
    go_wp2
    rw [Exit.noGoto_ret]
    go_ret
    exact ⟨ret_bool hf.out.symm, rfl⟩
  · have hne := nonempty_of h0
    by_cases h12 : s.size ≤ 12
    · go_enter Try.func124, Try.ntmps124
      go_wp2
      go_step3
      go_wp2
      go_step3
      go_wp2
      go_loop [14] (fun i => ∃ k : Nat, k ≤ s.size ∧ i = .int .i64 (k : Int) ∧ Hid ((s.data.toList.take k).all Pt.nameC = true)) (fun i => s.size - (intOf i).toNat)
      case atStart => exact ⟨0, Nat.zero_le _, rfl, Lib.hid (by simp)⟩
      case round =>
        obtain ⟨k, hk, rfl, ha⟩ := hrel
        by_cases hlt : k < s.size
        · have hc8 : s[k].toNat < 256 := s[k].toNat_lt
          have hk1 := fun h => name_step hlt ha.out h
          have hk2 := name_stop hlt
          have HY := Lib.hid hk1
          have HN := Lib.hid hk2
          clear hk1 hk2 ha
          go_wp2
          all_goals first
            | (go_round
               case rel => exact ⟨k + 1, by omega, by go_num, Lib.hid (HY.out (by first | exact nameC_yes1 ‹_› ‹_› | exact nameC_yes2 ‹_› ‹_› | exact nameC_yes3 ‹_›))⟩
               case measure => simp [intOf]; omega)
            | ((try rw [Exit.noGoto_ret])
               go_ret
               exact ⟨ret_bool (HN.out (nameC_no (by omega) (by omega) ‹_›)).symm, rfl⟩)
        · have hst := Lib.hid (name_done (by omega) h12 hlt ha.out)
          clear ha
          go_wp2
          (try rw [Exit.noGoto_ret])
          go_ret
          exact ⟨ret_bool hst.out.symm, rfl⟩
    · have hf := Lib.hid (name_much h12)
      generalize Pt.nameB s = b at *
      go_enter Try.func124, Try.ntmps124
      go_wp2
      go_step3
      go_wp2
      rw [Exit.noGoto_ret]
      go_ret
      exact ⟨ret_bool hf.out.symm, rfl⟩

theorem small_eq (x : Int) (hx : -9223372036854775808 ≤ x ∧ x ≤ 9223372036854775807) : (x == wrap64 (wrap32 x)) = Pt.smallB x := by
  rw [Bool.eq_iff_iff, beq_iff_eq, Pt.smallB_iff]
  have h32 : wrap32 x = (x + 2147483648) % 4294967296 - 2147483648 := by unfold wrap32; rfl
  rw [h32, IntWalk.wrap64_in _ ⟨by omega, by omega⟩]
  omega
set_option maxRecDepth 100000 in
theorem small_any (x : Int) (w : World) (hx : -9223372036854775808 ≤ x ∧ x ≤ 9223372036854775807) : Calls Try.prog 102 #[.int .i64 x] w fun e w' => e = .returned (.bool (Pt.smallB x)) ∧ w = w' := by
  have H := Lib.hid (small_eq x hx)
  clear hx
  generalize Pt.smallB x = b at *
  go_enter Try.func102, Try.ntmps102
  go_wp2
  go_ret
  exact ⟨ret_bool H.out, rfl⟩
end Go.Proofs.Ytapdlmiioljpgaa
/- The walks through May of point and of its reference. -/
namespace Go.Proofs.Ytapdlmiioljpgaa
open Go.RowKit
set_option linter.unusedVariables false

set_option maxRecDepth 100000 in
theorem rsmall_any (x : Int) (w : World) : Calls Try.prog 107 #[.int .i64 x] w fun e w' => e = .returned (.bool (Pt.smallB x)) ∧ w = w' := by
  by_cases h1 : -2147483648 ≤ x
  · by_cases h2 : x ≤ 2147483647
    · have H : Hid (Pt.smallB x = true) := (Pt.smallB_iff x).2 ⟨h1, h2⟩
      go_enter Try.func107, Try.ntmps107
      go_wp2
      go_ret
      exact ⟨ret_bool H.out.symm, rfl⟩
    · have H : Hid (Pt.smallB x = false) := (Pt.smallB_false x).2 (by omega)
      go_enter Try.func107, Try.ntmps107
      go_wp2
      go_ret
      exact ⟨ret_bool H.out.symm, rfl⟩
  · have H : Hid (Pt.smallB x = false) := (Pt.smallB_false x).2 (by omega)
    go_enter Try.func107, Try.ntmps107
    go_wp2
    go_ret
    exact ⟨ret_bool H.out.symm, rfl⟩

set_option maxRecDepth 100000 in
set_option maxHeartbeats 800000 in
theorem rname_any (s : ByteArray) (w : World) : Calls Try.prog 126 #[.string s] w fun e w' => e = .returned (.bool (Pt.nameB s)) ∧ w = w' := by
  by_cases h0 : s.size < 1
  · have hf := Lib.hid (name_none (s := s) (by omega))
    generalize Pt.nameB s = b at *
    go_enter Try.func126, Try.ntmps126
    go_wp2
    go_ret
    exact ⟨ret_bool hf.out.symm, rfl⟩
  · by_cases h12 : s.size ≤ 12
    · go_enter Try.func126, Try.ntmps126
      go_wp2
      go_loop [3] (fun i => ∃ k : Nat, k ≤ s.size ∧ i = .int .i64 (k : Int) ∧ Hid ((s.data.toList.take k).all Pt.nameC = true)) (fun i => s.size - (intOf i).toNat)
      case atStart => exact ⟨0, Nat.zero_le _, rfl, Lib.hid (by simp)⟩
      case round =>
        obtain ⟨k, hk, rfl, ha⟩ := hrel
        by_cases hlt : k < s.size
        · have hc8 : s[k].toNat < 256 := s[k].toNat_lt
          have HY := Lib.hid fun h => name_step hlt ha.out h
          have HN := Lib.hid (name_stop hlt)
          clear ha
          by_cases h95 : s[k].toNat = 95
          · have hz : ((s[k].toNat : Int) != 95) = false := by rw [h95]; rfl
            have hY := Lib.hid (HY.out (nameC_yes3 (beq_iff_eq.2 (by omega))))
            clear h95 HY HN
            go_wp2
            go_round
            case rel => exact ⟨k + 1, by omega, by go_num, hY⟩
            case measure => simp [intOf]; omega
          · have hz : ((s[k].toNat : Int) != 95) = true := by simp; omega
            have hz' : ((s[k].toNat : Int) == 95) = false := by simp; omega
            by_cases hl : 97 ≤ s[k].toNat ∧ s[k].toNat ≤ 122
            · obtain ⟨hl1, hl2⟩ := hl
              have hY := Lib.hid (HY.out (nameC_yes1 (by omega) (by omega)))
              clear h95 HY HN hz'
              go_wp2
              go_round
              case rel => exact ⟨k + 1, by omega, by go_num, hY⟩
              case measure => simp [intOf]; omega
            · by_cases hd : 48 ≤ s[k].toNat ∧ s[k].toNat ≤ 57
              · obtain ⟨hd1, hd2⟩ := hd
                have hl' : s[k].toNat < 97 := by omega
                have hY := Lib.hid (HY.out (nameC_yes2 (by omega) (by omega)))
                clear h95 HY HN hz' hl
                go_wp2
                go_round
                case rel => exact ⟨k + 1, by omega, by go_num, hY⟩
                case measure => simp [intOf]; omega
              · have hN := Lib.hid (HN.out (nameC_no (by omega) (by omega) hz'))
                clear h95 HY HN hz'
                have hl' : s[k].toNat < 97 ∨ 122 < s[k].toNat := by omega
                have hd' : s[k].toNat < 48 ∨ 57 < s[k].toNat := by omega
                clear hl hd
                rcases hl' with hl' | hl' <;> rcases hd' with hd' | hd'
                all_goals first
                  | (exfalso; omega)
                  | (go_wp2
                     go_ret
                     exact ⟨ret_bool hN.out.symm, rfl⟩)
        · have hst := Lib.hid (name_done (by omega) h12 hlt ha.out)
          clear ha
          go_wp2
          go_ret
          exact ⟨ret_bool hst.out.symm, rfl⟩
    · have hf := Lib.hid (name_much h12)
      generalize Pt.nameB s = b at *
      go_enter Try.func126, Try.ntmps126
      go_wp2
      go_ret
      exact ⟨ret_bool hf.out.symm, rfl⟩

/-- a point's numbers are ints -/
def Pt.wf (p : Pt.Point) : Prop := (-9223372036854775808 ≤ p.2.1 ∧ p.2.1 ≤ 9223372036854775807) ∧ (-9223372036854775808 ≤ p.2.2 ∧ p.2.2 ≤ 9223372036854775807)
def ptV (p : Pt.Point) : Value := .agg #[.string p.1, .int .i64 p.2.1, .int .i64 p.2.2]

set_option maxRecDepth 100000 in
theorem may_any (p : Pt.Point) (w : World) (hp : Pt.wf p) : Calls Try.prog 100 #[.agg #[.string p.1, .int .i64 p.2.1, .int .i64 p.2.2]] w fun e w' => e = .returned (.bool (Pt.mayB p)) ∧ Below w.heap.size w w' := by
  obtain ⟨s, t, v⟩ := p
  have H1 := fun W => Lib.hid (name_any s W)
  have H2 := fun W => Lib.hid (small_any t W hp.1)
  have H3 := fun W => Lib.hid (small_any v W hp.2)
  have hm : Pt.mayB (s, t, v) = (Pt.nameB s && Pt.smallB t && Pt.smallB v) := rfl
  clear hp
  generalize Pt.mayB (s, t, v) = b at *
  generalize Pt.nameB s = b1 at *
  generalize Pt.smallB t = b2 at *
  generalize Pt.smallB v = b3 at *
  have Hm := Lib.hid hm
  clear hm
  have hb := (Below.refl w.heap.size w).alloc (Nat.le_refl _) (.cells #[.string s, .int .i64 t, .int .i64 v] 88)
  cases b1
  · go_enter Try.func100, Try.ntmps100
    go_wp2_with fail
    refine (H1 _).out.mono ?_
    rintro e w' ⟨rfl, rfl⟩
    go_wp2_with fail
    go_ret
    exact ⟨ret_bool (by rw [Hm.out]; rfl), hb⟩
  · cases b2
    · go_enter Try.func100, Try.ntmps100
      go_wp2_with fail
      refine (H1 _).out.mono ?_
      rintro e w' ⟨rfl, rfl⟩
      go_wp2_with fail
      refine (H2 _).out.mono ?_
      rintro e w' ⟨rfl, rfl⟩
      go_wp2_with fail
      go_ret
      exact ⟨ret_bool (by rw [Hm.out]; rfl), hb⟩
    · go_enter Try.func100, Try.ntmps100
      go_wp2_with fail
      refine (H1 _).out.mono ?_
      rintro e w' ⟨rfl, rfl⟩
      go_wp2_with fail
      refine (H2 _).out.mono ?_
      rintro e w' ⟨rfl, rfl⟩
      go_wp2_with fail
      refine (H3 _).out.mono ?_
      rintro e w' ⟨rfl, rfl⟩
      go_wp2_with fail
      go_ret
      exact ⟨ret_bool (by rw [Hm.out]; rfl), hb⟩

set_option maxRecDepth 100000 in
theorem rmay_any (p : Pt.Point) (w : World) (hp : Pt.wf p) : Calls Try.prog 103 #[.agg #[.string p.1, .int .i64 p.2.1, .int .i64 p.2.2]] w fun e w' => e = .returned (.bool (Pt.mayB p)) ∧ Below w.heap.size w w' := by
  obtain ⟨s, t, v⟩ := p
  have H1 := fun W => Lib.hid (rname_any s W)
  have H2 := fun W => Lib.hid (rsmall_any t W)
  have H3 := fun W => Lib.hid (rsmall_any v W)
  have hm : Pt.mayB (s, t, v) = (Pt.nameB s && Pt.smallB t && Pt.smallB v) := rfl
  clear hp
  generalize Pt.mayB (s, t, v) = b at *
  generalize Pt.nameB s = b1 at *
  generalize Pt.smallB t = b2 at *
  generalize Pt.smallB v = b3 at *
  have Hm := Lib.hid hm
  clear hm
  have hb := (Below.refl w.heap.size w).alloc (Nat.le_refl _) (.cells #[.string s, .int .i64 t, .int .i64 v] 88)
  cases b1
  · go_enter Try.func103, Try.ntmps103
    go_wp2_with fail
    refine (H1 _).out.mono ?_
    rintro e w' ⟨rfl, rfl⟩
    go_wp2_with fail
    go_ret
    exact ⟨ret_bool (by rw [Hm.out]; rfl), hb⟩
  · cases b2
    · go_enter Try.func103, Try.ntmps103
      go_wp2_with fail
      refine (H1 _).out.mono ?_
      rintro e w' ⟨rfl, rfl⟩
      go_wp2_with fail
      refine (H2 _).out.mono ?_
      rintro e w' ⟨rfl, rfl⟩
      go_wp2_with fail
      go_ret
      exact ⟨ret_bool (by rw [Hm.out]; rfl), hb⟩
    · go_enter Try.func103, Try.ntmps103
      go_wp2_with fail
      refine (H1 _).out.mono ?_
      rintro e w' ⟨rfl, rfl⟩
      go_wp2_with fail
      refine (H2 _).out.mono ?_
      rintro e w' ⟨rfl, rfl⟩
      go_wp2_with fail
      refine (H3 _).out.mono ?_
      rintro e w' ⟨rfl, rfl⟩
      go_wp2_with fail
      go_ret
      exact ⟨ret_bool (by rw [Hm.out]; rfl), hb⟩
end Go.Proofs.Ytapdlmiioljpgaa
/- The walks through Batch of point and of its reference. -/
namespace Go.Proofs.Ytapdlmiioljpgaa
open Go.RowKit
set_option linter.unusedVariables false

theorem batch_stop {ps : List Pt.Point} {k : Nat} (hk : k < ps.length) (h : Pt.mayB ps[k] = false) : ps.any (fun p => !Pt.mayB p) = true := by
  rw [List.any_eq_true]
  exact ⟨ps[k], List.getElem_mem _, by rw [h]; rfl⟩
theorem batch_step {ps : List Pt.Point} {k : Nat} (hk : k < ps.length) (ha : (ps.take k).any (fun p => !Pt.mayB p) = false) (h : Pt.mayB ps[k] = true) : (ps.take (k + 1)).any (fun p => !Pt.mayB p) = false := by
  rw [List.take_succ_eq_append_getElem hk, List.any_append, ha]; simp [h]
theorem batch_done {ps : List Pt.Point} {k : Nat} (hk : ¬ k < ps.length) (ha : (ps.take k).any (fun p => !Pt.mayB p) = false) : ps.any (fun p => !Pt.mayB p) = false := by
  rwa [List.take_of_length_le (by omega)] at ha
theorem batch_eq (ps : List Pt.Point) : Pt.batchB ps = (decide (ps.length ≤ 8) && !ps.any (fun p => !Pt.mayB p)) := by
  unfold Pt.batchB; congr 1
  induction ps with
  | nil => rfl
  | cons p ps ih => rw [List.all_cons, List.any_cons, ih]; simp

def IdxPost (w : World) (b : Bool) (e : Ending) (w' : World) : Prop := ∃ i : Int, e = .returned (.int .i64 i) ∧ decide (0 ≤ i) = b ∧ Below w.heap.size w w'

theorem batch1_any (p : Pt.Point) (w : World) (hp : Pt.wf p) : Calls Try.prog 141 #[.agg #[.string p.1, .int .i64 p.2.1, .int .i64 p.2.2]] w fun e w' => e = .returned (.bool (!Pt.mayB p)) ∧ Below w.heap.size w w' := by
  have H1 := fun W => Lib.hid (may_any p W hp)
  generalize Pt.mayB p = b at *
  go_enter Try.func141, Try.ntmps141
  go_wp2_with fail
  refine (H1 _).out.mono ?_
  rintro e w' ⟨rfl, hb⟩
  go_wp2_with fail
  go_ret
  exact ⟨rfl, ((Below.refl w.heap.size w).alloc (Nat.le_refl _) _).trans (hb.mono (by simp))⟩

set_option maxRecDepth 100000 in
set_option maxHeartbeats 400000 in
theorem indexFunc_any (A : Option Addr) (c : Nat) (ps : List Pt.Point) (w : World) (B : Nat) (hr : Reads w B 3 A ps.length (ps.flatMap pointCells)) (hB : B ≤ w.heap.size) (hn : ps.length ≤ 140737488355328) (hwf : ∀ p ∈ ps, Pt.wf p) :
    Calls Try.prog 146 #[.slice A ps.length c, .func (.func 141) #[] #[]] w (IdxPost w (ps.any fun p => !Pt.mayB p)) := by
  have HW := Lib.hid hwf
  have HR := Lib.hid hr
  clear hwf hr
  go_enter Try.func146, Try.ntmps146
  go_wp2
  go_loopw [5, 8] (fun _ i wr => ∃ k : Nat, k ≤ ps.length ∧ i = .int .i64 (k : Int) ∧ Hid ((ps.take k).any (fun p => !Pt.mayB p) = false) ∧ Hid (Below w.heap.size w wr)) (fun _ i _ => ps.length - (intOf i).toNat)
  case atStart => exact ⟨0, Nat.zero_le _, rfl, Lib.hid (by simp), Lib.hid (Below.refl _ _)⟩
  case round =>
    obtain ⟨k, hk, rfl, ha, hbw⟩ := hrel
    by_cases hlt : k < ps.length
    · obtain ⟨b, off, rfl, hbl, hc⟩ := HR.out.2 (by omega)
      have hbw1 := hbw.out
      have hcell0 : wr.cell? ⟨b, off + k * 3, none⟩ = some (.string ps[k].1) := by have := hc (k * 3 + 0) (.string ps[k].1) (by rw [flat_at pointCells 3 (fun _ => rfl) ps k 0 hlt (by omega)]; rfl); rw [hbw1.cell (p := ⟨b, _, none⟩) (show b < _ by omega)]; rwa [← Nat.add_assoc] at this
      have hcell1 : wr.cell? ⟨b, off + k * 3 + 1, none⟩ = some (.int .i64 ps[k].2.1) := by have := hc (k * 3 + 1) (.int .i64 ps[k].2.1) (by rw [flat_at pointCells 3 (fun _ => rfl) ps k 1 hlt (by omega)]; rfl); rw [hbw1.cell (p := ⟨b, _, none⟩) (show b < _ by omega)]; rwa [← Nat.add_assoc] at this
      have hcell2 : wr.cell? ⟨b, off + k * 3 + 2, none⟩ = some (.int .i64 ps[k].2.2) := by have := hc (k * 3 + 2) (.int .i64 ps[k].2.2) (by rw [flat_at pointCells 3 (fun _ => rfl) ps k 2 hlt (by omega)]; rfl); rw [hbw1.cell (p := ⟨b, _, none⟩) (show b < _ by omega)]; rwa [← Nat.add_assoc] at this
      have H1 := fun W => Lib.hid (batch1_any ps[k] W (HW.out _ (List.getElem_mem _)))
      have HS := Lib.hid fun h => batch_stop hlt h
      have HG := Lib.hid fun h => batch_step hlt ha.out h
      clear hc ha hbw1
      cases hm : Pt.mayB ps[k]
      · have hF := Lib.hid (HS.out hm)
        rw [hm] at H1
        clear HS HG hm
        go_wp2_with fail
        refine (H1 _).out.mono ?_
        rintro e w1 ⟨rfl, hb1⟩
        go_wp2_with fail
        go_ret
        exact ⟨_, rfl, by rw [hF.out]; simp, hbw.out.trans (hb1.mono hbw.out.size)⟩
      · have hF := Lib.hid (HG.out hm)
        rw [hm] at H1
        clear HS HG hm
        go_wp2_with fail
        refine (H1 _).out.mono ?_
        rintro e w1 ⟨rfl, hb1⟩
        go_wp2_with fail
        go_roundw
        case rel => exact ⟨k + 1, by omega, by go_num, hF, Lib.hid (hbw.out.trans (hb1.mono hbw.out.size))⟩
        case measure => simp [intOf]; omega
    · have hF := Lib.hid (batch_done hlt ha.out)
      clear ha
      go_wp2_with fail
      go_ret
      exact ⟨_, rfl, by rw [hF.out]; rfl, hbw.out⟩

set_option maxRecDepth 100000 in
theorem containsFunc_any (A : Option Addr) (c : Nat) (ps : List Pt.Point) (w : World) (B : Nat) (hr : Reads w B 3 A ps.length (ps.flatMap pointCells)) (hB : B ≤ w.heap.size) (hn : ps.length ≤ 140737488355328) (hwf : ∀ p ∈ ps, Pt.wf p) :
    Calls Try.prog 140 #[.slice A ps.length c, .func (.func 141) #[] #[]] w fun e w' => e = .returned (.bool (ps.any fun p => !Pt.mayB p)) ∧ Below w.heap.size w w' := by
  have H1 := fun W => Lib.hid fun (h : w = W) => (show Calls Try.prog 146 #[.slice A ps.length c, .func (.func 141) #[] #[]] W (IdxPost W (ps.any fun p => !Pt.mayB p)) from h ▸ indexFunc_any A c ps w B hr hB hn hwf)
  clear hr hwf
  go_enter Try.func140, Try.ntmps140
  go_wp2_with fail
  refine ((H1 _).out rfl).mono ?_
  rintro e w1 ⟨i, rfl, hi, hb⟩
  have Hi := Lib.hid hi
  clear hi
  go_wp2_with fail
  go_ret
  exact ⟨ret_bool Hi.out, hb⟩

set_option maxRecDepth 100000 in
theorem batch_any (A : Option Addr) (c : Nat) (ps : List Pt.Point) (w : World) (B : Nat) (hr : Reads w B 3 A ps.length (ps.flatMap pointCells)) (hB : B ≤ w.heap.size) (hn : ps.length ≤ 140737488355328) (hwf : ∀ p ∈ ps, Pt.wf p) :
    Calls Try.prog 133 #[.slice A ps.length c] w fun e w' => e = .returned (.bool (Pt.batchB ps)) ∧ Below w.heap.size w w' := by
  have H1 := Lib.hid (containsFunc_any A c ps w B hr hB hn hwf)
  have He := batch_eq ps
  clear hr hwf
  by_cases h8 : ps.length ≤ 8
  · have HE : Hid (Pt.batchB ps = !ps.any (fun p => !Pt.mayB p)) := by show _ = _; rw [He]; simp [h8]
    clear He
    generalize Pt.batchB ps = r at *
    generalize ps.any (fun p => !Pt.mayB p) = b at *
    go_enter Try.func133, Try.ntmps133
    go_wp2_with fail
    refine H1.out.mono ?_
    rintro e w1 ⟨rfl, hb⟩
    go_wp2_with fail
    go_ret
    exact ⟨ret_bool HE.out.symm, hb⟩
  · have HE : Hid (Pt.batchB ps = false) := by show _ = _; rw [He]; simp [h8]
    clear He
    generalize Pt.batchB ps = r at *
    go_enter Try.func133, Try.ntmps133
    go_wp2_with fail
    go_ret
    exact ⟨ret_bool HE.out.symm, Below.refl _ _⟩

end Go.Proofs.Ytapdlmiioljpgaa
/- Points there and back, and cut: plain (chapter 3). No program in sight. -/
namespace Go.Proofs.Ytapdlmiioljpgaa.Pt
open Go.Proofs.Ytapdlmiioljpgaa
set_option linter.unusedVariables false

theorem rdNum_ok (s : ByteArray) (lo hi a x m : Int) (h : Wr.getN s.data.toList a = (x, m, 0)) (h1 : lo ≤ x) (h2 : x ≤ hi) : rdNum s lo hi (a, false) = (x, (m, false)) := by
  unfold rdNum; rw [h]; simp; omega
theorem rdNum_no (s : ByteArray) (lo hi a : Int) (b : Bool) (h : (Wr.getN s.data.toList a).2.2 ≠ 0) : rdNum s lo hi (a, b) = (0, (a, true)) := by
  unfold rdNum; rw [if_pos (.inl h)]
theorem rdText_no (s : ByteArray) (most a : Int) (b : Bool) (h : (Wr.getT s a most).2.2 ≠ 0) : rdText s most (a, b) = (⟨#[]⟩, (a, true)) := by
  unfold rdText; rw [if_pos (.inl h)]
theorem rdNum_put (s : ByteArray) (pre post : List UInt8) (x lo hi : Int) (hl : s.data.toList = pre ++ (Wr.putL x ++ post)) (hx : Wr.isNum x = true) (h1 : lo ≤ x) (h2 : x ≤ hi) :
    rdNum s lo hi ((pre.length : Int), false) = (x, ((pre.length : Int) + ((Wr.putL x).length : Int), false)) :=
  rdNum_ok s lo hi _ x _ (by rw [hl]; exact Wr.getN_put pre post x hx) h1 h2
theorem getT_at_text (s : ByteArray) (pre post : List UInt8) (t : ByteArray) (most : Int) (hl : s.data.toList = pre ++ ((Wr.textB t).data.toList ++ post)) (ht : t.size ≤ 9007199254740992) (hm : (t.size : Int) ≤ most) :
    Wr.getT s (pre.length : Int) most = (t, (pre.length : Int) + ((Wr.textB t).data.toList.length : Int), 0) := by
  have hn := Wr.isNum_len t.size ht
  have hlt : (Wr.textB t).data.toList = Wr.putL (t.size : Int) ++ t.data.toList := by unfold Wr.textB; rw [Wr.append_list, Wr.putB_list]
  rw [hlt, List.append_assoc] at hl
  have hg : Wr.getN s.data.toList (pre.length : Int) = ((t.size : Int), (pre.length : Int) + ((Wr.putL (t.size : Int)).length : Int), 0) := by
    rw [hl]; exact Wr.getN_put _ _ _ hn
  have hsz : s.size = pre.length + ((Wr.putL (t.size : Int)).length + (t.size + post.length)) := by rw [← Wr.len_list s, hl]; simp
  unfold Wr.getT
  rw [hg]
  simp only [ne_eq, not_true_eq_false, if_false]
  rw [if_neg (by omega), if_neg (by rw [hsz]; omega)]
  have e1 : ((pre.length : Int) + ((Wr.putL (t.size : Int)).length : Int)).toNat = pre.length + (Wr.putL (t.size : Int)).length := by omega
  have e2 : ((pre.length : Int) + ((Wr.putL (t.size : Int)).length : Int) + (t.size : Int)).toNat = pre.length + (Wr.putL (t.size : Int)).length + t.size := by omega
  rw [e1, e2, hlt]
  refine Prod.ext ?_ (Prod.ext ?_ rfl)
  · apply Wr.ext_list
    rw [Lib.extract_data, hl]
    rw [show pre ++ (Wr.putL (t.size : Int) ++ (t.data.toList ++ post)) = (pre ++ Wr.putL (t.size : Int)) ++ (t.data.toList ++ post) from by simp]
    rw [List.drop_left' (by rw [List.length_append]), show pre.length + (Wr.putL (t.size : Int)).length + t.size - (pre.length + (Wr.putL (t.size : Int)).length) = t.size from by omega, ← Wr.len_list t, List.take_left]
  · simp only [List.length_append, Wr.len_list]; omega
theorem rdText_put (s : ByteArray) (pre post : List UInt8) (t : ByteArray) (hl : s.data.toList = pre ++ ((Wr.textB t).data.toList ++ post)) (ht : t.size ≤ 12) :
    rdText s 12 ((pre.length : Int), false) = (t, ((pre.length : Int) + ((Wr.textB t).data.toList.length : Int), false)) := by
  unfold rdText
  rw [getT_at_text s pre post t 12 hl (by omega) (by omega)]; simp
theorem small_num {x : Int} (h : smallB x = true) : Wr.isNum x = true := by
  rw [smallB_iff] at h; rw [Wr.isNum_iff]; omega
theorem may_name {p : Point} (h : mayB p = true) : p.1.size ≤ 12 := by
  unfold mayB nameB at h; simp at h; omega
theorem may_time {p : Point} (h : mayB p = true) : smallB p.2.1 = true := by
  unfold mayB at h; simp at h; exact h.1.2
theorem may_value {p : Point} (h : mayB p = true) : smallB p.2.2 = true := by
  unfold mayB at h; simp at h; exact h.2
theorem rdPt_of (s : ByteArray) (r : St) {nm : ByteArray} {t v : Int} {r1 r2 : St} {a3 : Int} {b3 : Bool} (h1 : rdText s 12 r = (nm, r1)) (h2 : rdNum s (-2147483648) 2147483647 r1 = (t, r2)) (h3 : rdNum s (-2147483648) 2147483647 r2 = (v, (a3, b3))) :
    rdPt s r = ((nm, t, v), (a3, b3 || !mayB (nm, t, v))) := by
  unfold rdPt; simp only [h1, h2, h3]
theorem rdPt_put (s : ByteArray) (pre post : List UInt8) (p : Point) (hl : s.data.toList = pre ++ (oneL p ++ post)) (hm : mayB p = true) :
    rdPt s ((pre.length : Int), false) = (p, ((pre.length : Int) + ((oneL p).length : Int), false)) := by
  have h1 := rdText_put s pre (Wr.putL p.2.1 ++ (Wr.putL p.2.2 ++ post)) p.1 (by rw [hl]; unfold oneL; simp) (may_name hm)
  have ht := (smallB_iff _).1 (may_time hm)
  have hv := (smallB_iff _).1 (may_value hm)
  have h2 := rdNum_put s (pre ++ (Wr.textB p.1).data.toList) (Wr.putL p.2.2 ++ post) p.2.1 (-2147483648) 2147483647 (by rw [hl]; unfold oneL; simp) (small_num (may_time hm)) ht.1 ht.2
  have h3 := rdNum_put s (pre ++ (Wr.textB p.1).data.toList ++ Wr.putL p.2.1) post p.2.2 (-2147483648) 2147483647 (by rw [hl]; unfold oneL; simp) (small_num (may_value hm)) hv.1 hv.2
  rw [List.length_append, Int.natCast_add] at h2
  rw [List.length_append, List.length_append, Int.natCast_add, Int.natCast_add] at h3
  rw [rdPt_of s _ h1 h2 h3]
  have hp : (p.1, p.2.1, p.2.2) = p := rfl
  rw [hp, hm]
  unfold oneL
  simp only [List.length_append, Int.natCast_add]
  refine Prod.ext rfl (Prod.ext ?_ rfl)
  simp only [Int.add_assoc]
theorem rdPts_put (s : ByteArray) (ps : List Point) (pre post : List UInt8) (hl : s.data.toList = pre ++ (ps.flatMap oneL ++ post)) (hm : ∀ p ∈ ps, mayB p = true) :
    rdPts s ps.length ((pre.length : Int), false) = (ps, ((pre.length : Int) + ((ps.flatMap oneL).length : Int), false)) := by
  induction ps generalizing pre with
  | nil => simp [rdPts]
  | cons p ps ih =>
    have h1 := rdPt_put s pre (ps.flatMap oneL ++ post) p (by rw [hl]; simp) (hm p (by simp))
    have h2 := ih (pre ++ oneL p) (by rw [hl]; simp) (fun q hq => hm q (by simp [hq]))
    rw [List.length_append, Int.natCast_add] at h2
    rw [List.length_cons, rdPts, h1, h2]
    simp only [List.flatMap_cons, List.length_append, Int.natCast_add]
    refine Prod.ext rfl (Prod.ext ?_ rfl)
    simp only [Int.add_assoc]
theorem batch_len {ps : List Point} (h : batchB ps = true) : ps.length ≤ 8 := by unfold batchB at h; simp at h; exact h.1
theorem batch_all {ps : List Point} (h : batchB ps = true) : ∀ p ∈ ps, mayB p = true := by unfold batchB at h; simp at h; intro p hp; obtain ⟨a, b, c⟩ := p; exact h.2 a b c hp
theorem readPts_put (s : ByteArray) (ps : List Point) (pre post : List UInt8) (hl : s.data.toList = pre ++ (ptsL ps ++ post)) (hb : batchB ps = true) :
    readPts s ((pre.length : Int), false) = (ps, ((pre.length : Int) + ((ptsL ps).length : Int), false)) := by
  have h8 := batch_len hb
  have h1 := rdNum_put s pre (ps.flatMap oneL ++ post) (ps.length : Int) 0 8 (by rw [hl]; unfold ptsL; simp) (Wr.isNum_len _ (by omega)) (by omega) (by omega)
  have h2 := rdPts_put s ps (pre ++ Wr.putL (ps.length : Int)) post (by rw [hl]; unfold ptsL; simp) (batch_all hb)
  rw [List.length_append, Int.natCast_add] at h2
  unfold readPts
  simp only [h1, Int.toNat_natCast, h2]
  unfold ptsL
  simp only [List.length_append, Int.natCast_add]
  refine Prod.ext rfl (Prod.ext ?_ rfl)
  simp only [Int.add_assoc]
theorem getPts_put (s : ByteArray) (ps : List Point) (pre post : List UInt8) (hl : s.data.toList = pre ++ (ptsL ps ++ post)) (hb : batchB ps = true) :
    getPts s (pre.length : Int) = (ps, (pre.length : Int) + ((ptsL ps).length : Int), 0) := by
  unfold getPts
  rw [readPts_put s ps pre post hl hb]; simp
/-! cut -/
theorem rdNum_cut (s : ByteArray) (pre : List UInt8) (x lo hi : Int) (k : Nat) (b : Bool) (hl : s.data.toList = pre ++ (Wr.putL x).take k) (hx : Wr.isNum x = true) (hk : k < (Wr.putL x).length) :
    rdNum s lo hi ((pre.length : Int), b) = (0, ((pre.length : Int), true)) := by
  refine rdNum_no s lo hi _ b ?_
  rw [hl, Wr.getN_at, Wr.gn_cut x hx k hk]
  exact (by decide : (200 : Int) ≠ 0)
theorem rdText_cut (s : ByteArray) (pre : List UInt8) (t : ByteArray) (k : Nat) (b : Bool) (hl : s.data.toList = pre ++ ((Wr.textB t).data.toList).take k) (ht : t.size ≤ 12) (hk : k < (Wr.textB t).data.toList.length) :
    rdText s 12 ((pre.length : Int), b) = (⟨#[]⟩, ((pre.length : Int), true)) := by
  refine rdText_no s 12 _ b ?_
  have hn := Wr.isNum_len t.size (by omega)
  have hlt : (Wr.textB t).data.toList = Wr.putL (t.size : Int) ++ t.data.toList := by unfold Wr.textB; rw [Wr.append_list, Wr.putB_list]
  rw [hlt] at hl hk
  by_cases h1 : k < (Wr.putL (t.size : Int)).length
  · have hg : Wr.getN s.data.toList (pre.length : Int) = (0, 0, 200) := by
      rw [hl, List.take_append_of_le_length (by omega), Wr.getN_at, Wr.gn_cut _ hn _ h1]
    unfold Wr.getT
    rw [hg]
    exact (by decide : (200 : Int) ≠ 0)
  · have hg : Wr.getN s.data.toList (pre.length : Int) = ((t.size : Int), (pre.length : Int) + ((Wr.putL (t.size : Int)).length : Int), 0) := by
      rw [hl, List.take_append, List.take_of_length_le (by omega)]; exact Wr.getN_put _ _ _ hn
    have hsz : s.size = pre.length + k := by rw [← Wr.len_list s, hl, List.length_append, List.length_take]; omega
    unfold Wr.getT
    rw [hg]
    simp only [ne_eq, not_true_eq_false, if_false]
    rw [List.length_append, Wr.len_list] at hk
    rw [if_neg (by omega), hsz, if_pos (by omega)]
    decide
theorem rdPt_bad1 (s : ByteArray) (r : St) (h : (rdText s 12 r).2.2 = true) : (rdPt s r).2.2 = true := by
  unfold rdPt
  obtain ⟨a, b⟩ : St := (rdText s 12 r).2
  generalize rdText s 12 r = X at *
  obtain ⟨nm, a1, b1⟩ := X
  obtain rfl : b1 = true := h
  simp [rdNum_bad]
theorem rdPt_bad2 (s : ByteArray) (r : St) (h : (rdNum s (-2147483648) 2147483647 (rdText s 12 r).2).2.2 = true) : (rdPt s r).2.2 = true := by
  unfold rdPt
  simp only
  generalize rdNum s (-2147483648) 2147483647 (rdText s 12 r).2 = X at *
  obtain ⟨t, a1, b1⟩ := X
  obtain rfl : b1 = true := h
  simp [rdNum_bad]
theorem rdPt_bad3 (s : ByteArray) (r : St) (h : (rdNum s (-2147483648) 2147483647 (rdNum s (-2147483648) 2147483647 (rdText s 12 r).2).2).2.2 = true) : (rdPt s r).2.2 = true := by
  unfold rdPt
  simp only
  rw [h]; rfl
theorem rdPt_cut (s : ByteArray) (pre : List UInt8) (p : Point) (k : Nat) (hl : s.data.toList = pre ++ (oneL p).take k) (hm : mayB p = true) (hk : k < (oneL p).length) : (rdPt s ((pre.length : Int), false)).2.2 = true := by
  have ht := (smallB_iff _).1 (may_time hm)
  have ho : oneL p = (Wr.textB p.1).data.toList ++ (Wr.putL p.2.1 ++ Wr.putL p.2.2) := by unfold oneL; simp
  rw [ho] at hl hk
  by_cases h1 : k < (Wr.textB p.1).data.toList.length
  · rw [List.take_append_of_le_length (by omega)] at hl
    refine rdPt_bad1 s _ ?_
    rw [rdText_cut s pre p.1 k false hl (may_name hm) h1]
  · rw [List.take_append, List.take_of_length_le (by omega)] at hl
    generalize hk2 : k - (Wr.textB p.1).data.toList.length = k2 at *
    have e1 := rdText_put s pre ((Wr.putL p.2.1 ++ Wr.putL p.2.2).take k2) p.1 hl (may_name hm)
    by_cases h2 : k2 < (Wr.putL p.2.1).length
    · rw [List.take_append_of_le_length (by omega), ← List.append_assoc] at hl
      refine rdPt_bad2 s _ ?_
      have := rdNum_cut s (pre ++ (Wr.textB p.1).data.toList) p.2.1 (-2147483648) 2147483647 k2 false hl (small_num (may_time hm)) h2
      rw [List.length_append, Int.natCast_add] at this
      rw [e1, this]
    · rw [List.take_append, List.take_of_length_le (by omega)] at hl
      generalize hk3 : k2 - (Wr.putL p.2.1).length = k3 at *
      have e2 := rdNum_put s (pre ++ (Wr.textB p.1).data.toList) ((Wr.putL p.2.2).take k3) p.2.1 (-2147483648) 2147483647 (by rw [hl]; simp) (small_num (may_time hm)) ht.1 ht.2
      have hk4 : k3 < (Wr.putL p.2.2).length := by rw [List.length_append, List.length_append] at hk; omega
      have e3 := rdNum_cut s (pre ++ (Wr.textB p.1).data.toList ++ Wr.putL p.2.1) p.2.2 (-2147483648) 2147483647 k3 false (by rw [hl]; simp) (small_num (may_value hm)) hk4
      rw [List.length_append, Int.natCast_add] at e2
      rw [List.length_append, List.length_append, Int.natCast_add, Int.natCast_add] at e3
      refine rdPt_bad3 s _ ?_
      rw [e1, e2, e3]
theorem rdPts_cut (s : ByteArray) (ps : List Point) (pre : List UInt8) (k : Nat) (hl : s.data.toList = pre ++ (ps.flatMap oneL).take k) (hm : ∀ p ∈ ps, mayB p = true) (hk : k < (ps.flatMap oneL).length) :
    (rdPts s ps.length ((pre.length : Int), false)).2.2 = true := by
  induction ps generalizing pre k with
  | nil => simp at hk
  | cons p ps ih =>
    rw [List.flatMap_cons] at hl hk
    rw [List.length_cons]
    simp only [rdPts]
    by_cases h1 : k < (oneL p).length
    · rw [List.take_append_of_le_length (by omega)] at hl
      exact rdPts_bad' s _ _ (rdPt_cut s pre p k hl (hm p (by simp)) h1)
    · rw [List.take_append, List.take_of_length_le (by omega)] at hl
      rw [List.length_append] at hk
      have e1 := rdPt_put s pre ((ps.flatMap oneL).take (k - (oneL p).length)) p hl (hm p (by simp))
      have e2 := ih (pre ++ oneL p) (k - (oneL p).length) (by rw [hl]; simp) (fun q hq => hm q (by simp [hq])) (by omega)
      rw [List.length_append, Int.natCast_add] at e2
      rw [e1]
      exact e2
theorem getPts_cut (s : ByteArray) (ps : List Point) (k : Nat) (hl : s.data.toList = (ptsL ps).take k) (hb : batchB ps = true) (hk : k < (ptsL ps).length) : getPts s 0 = ([], 0, 300) := by
  have h8 := batch_len hb
  have hbad : (readPts s (0, false)).2.2 = true := by
    unfold ptsL at hl hk
    unfold readPts
    by_cases h1 : k < (Wr.putL (ps.length : Int)).length
    · rw [List.take_append_of_le_length (by omega)] at hl
      have e := rdNum_cut s [] (ps.length : Int) 0 8 k false (by simpa using hl) (Wr.isNum_len _ (by omega)) h1
      simp only [List.length_nil, Int.natCast_zero] at e
      rw [e]
      rfl
    · rw [List.take_append, List.take_of_length_le (by omega)] at hl
      rw [List.length_append] at hk
      have e1 := rdNum_put s [] ((ps.flatMap oneL).take (k - (Wr.putL (ps.length : Int)).length)) (ps.length : Int) 0 8 (by simpa using hl) (Wr.isNum_len _ (by omega)) (by omega) (by omega)
      have e2 := rdPts_cut s ps (Wr.putL (ps.length : Int)) (k - (Wr.putL (ps.length : Int)).length) hl (batch_all hb) (by omega)
      simp only [List.length_nil, Int.natCast_zero, Int.zero_add] at e1
      simp only [e1, Int.toNat_natCast]
      exact e2
  unfold getPts
  rw [hbad]; rfl
theorem getPts_out (s : ByteArray) (a : Int) (h : a < 0 ∨ (s.size : Int) < a) : getPts s a = ([], 0, 300) := by
  have e : rdNum s 0 8 (a, false) = (0, (a, true)) := rdNum_no s 0 8 a false (by unfold Wr.getN; rw [Wr.len_list, if_pos h]; decide)
  unfold getPts readPts
  simp only [e]
  rfl
theorem ptsB_list (ps : List Point) : (ptsB ps).data.toList = ptsL ps := by unfold ptsB; simp
theorem ptsL_pos (ps : List Point) : 0 < (ptsL ps).length ∨ ¬ ps.length ≤ 8 := by
  by_cases h : ps.length ≤ 8
  · left
    obtain ⟨l, c, hv, _⟩ := Wr.put_init (ps.length : Int) (Wr.isNum_len _ (by omega))
    unfold ptsL
    rw [List.length_append, hv]; simp; omega
  · exact .inr h
theorem ptsL_le {ps : List Point} (h : batchB ps = true) : (ptsL ps).length ≤ 300 := by
  have h8 := batch_len h
  have hm := batch_all h
  have hone : ∀ p ∈ ps, (oneL p).length ≤ 36 := fun p hp => by
    have := may_name (hm p hp)
    unfold oneL
    rw [List.length_append, List.length_append, Wr.len_list]
    have h1 := Wr.putL_len p.2.1
    have h2 := Wr.putL_len p.2.2
    have h3 : (Wr.textB p.1).size ≤ 8 + p.1.size := by unfold Wr.textB; rw [ByteArray.size_append, Wr.putB_size]; have := Wr.putL_len (p.1.size : Int); omega
    omega
  have hsum : ∀ qs : List Point, (∀ p ∈ qs, (oneL p).length ≤ 36) → (qs.flatMap oneL).length ≤ qs.length * 36 := by
    intro qs
    induction qs with
    | nil => simp
    | cons p qs ih => intro h; rw [List.flatMap_cons, List.length_append, List.length_cons]; have := ih (fun q hq => h q (by simp [hq])); have := h p (by simp); omega
  have h1 := hsum ps hone
  have h2 := Wr.putL_len (ps.length : Int)
  unfold ptsL
  rw [List.length_append]; omega
end Go.Proofs.Ytapdlmiioljpgaa.Pt
/- Which entries may be: plain, and the walk through message.MayEntry (chapter 11). -/
namespace Go.Proofs.Ytapdlmiioljpgaa
open Go.RowKit
set_option linter.unusedVariables false

def Ig.numB (x : Int) : Bool := decide (0 ≤ x) && decide (x ≤ 2147483647)
def Ig.mayB (v c s n : Int) (ps : List Pt.Point) : Bool := [v, c, s, n].all Ig.numB && (Pt.batchB ps && (decide (0 < s) || decide (ps.length = 0)))
theorem Ig.num_yes {x : Int} (h0 : ¬ x < 0) (h1 : ¬ 2147483647 < x) : Ig.numB x = true := by unfold Ig.numB; simp; omega
theorem Ig.num_no {x : Int} (h : x < 0 ∨ 2147483647 < x) : Ig.numB x = false := by unfold Ig.numB; simp; omega
theorem Ig.may_len {v c s n : Int} {bs : List Pt.Point} (h : Ig.mayB v c s n bs = true) : bs.length ≤ 8 := by
  unfold Ig.mayB at h; rw [Bool.and_eq_true, Bool.and_eq_true] at h; exact Pt.batch_len h.2.1
theorem Ig.may_stop {v c s n : Int} {ps : List Pt.Point} {k : Nat} (hk : k < [v, c, s, n].length) (h : Ig.numB ([v, c, s, n][k]) = false) : Ig.mayB v c s n ps = false := by
  unfold Ig.mayB
  have : [v, c, s, n].all Ig.numB = false := by
    rw [List.all_eq_false]; exact ⟨_, List.getElem_mem hk, by rw [h]; simp⟩
  rw [this]; rfl
theorem Ig.may_go {v c s n : Int} {ps : List Pt.Point} (h : [v, c, s, n].all Ig.numB = true) : Ig.mayB v c s n ps = (Pt.batchB ps && (decide (0 < s) || decide (ps.length = 0))) := by
  unfold Ig.mayB; rw [h]; rfl
set_option maxRecDepth 100000 in
set_option maxHeartbeats 1000000 in
theorem mayEntry_any (v c s n : Int) (A : Option Addr) (d : Nat) (ps : List Pt.Point) (w : World) (B : Nat) (hr : Reads w B 3 A ps.length (ps.flatMap pointCells)) (hB : B ≤ w.heap.size) (hn : ps.length ≤ 140737488355328) (hwf : ∀ p ∈ ps, Pt.wf p) :
    Calls Try.prog 120 #[.agg #[.int .i64 v, .int .i64 c, .int .i64 s, .int .i64 n, .slice A ps.length d]] w fun e w' => e = .returned (.bool (Ig.mayB v c s n ps)) ∧ Below w.heap.size w w' := by
  have HBt := fun W (hb : Below w.heap.size w W) => Lib.hid (batch_any A d ps W B (hr.below (hb.mono hB)) (by have := hb.size; omega) hn hwf)
  have HSt := Lib.hid (fun k hk h => @Ig.may_stop v c s n ps k hk h)
  have HGo := Lib.hid (@Ig.may_go v c s n ps)
  clear hr hwf
  generalize Ig.mayB v c s n ps = res at *
  generalize Pt.batchB ps = bt at *
  go_enter Try.func120, Try.ntmps120
  go_wp2_with fail
  have hE := (Blk.new w 43 #[.int .i64 v, .int .i64 c, .int .i64 s, .int .i64 n, .slice A ps.length d]).alloc (.cells #[.int .i64 v, .int .i64 c, .int .i64 s, .int .i64 n] 3)
  have hX := Blk.new (w.alloc (.cells #[.int .i64 v, .int .i64 c, .int .i64 s, .int .i64 n, .slice A ps.length d] 43)) 3 #[.int .i64 v, .int .i64 c, .int .i64 s, .int .i64 n]
  rw [World.size_alloc] at hX
  have hb2 : Below w.heap.size w ((w.alloc (.cells #[.int .i64 v, .int .i64 c, .int .i64 s, .int .i64 n, .slice A ps.length d] 43)).alloc (.cells #[.int .i64 v, .int .i64 c, .int .i64 s, .int .i64 n] 3)) := ((Below.refl _ _).alloc (Nat.le_refl _) _).alloc (by simp) _
  have HE := Lib.hid hE
  have HX := Lib.hid hX
  have Hb2 := Lib.hid hb2
  clear hE hX hb2
  generalize (w.alloc (.cells #[.int .i64 v, .int .i64 c, .int .i64 s, .int .i64 n, .slice A ps.length d] 43)).alloc (.cells #[.int .i64 v, .int .i64 c, .int .i64 s, .int .i64 n] 3) = w2 at *
  go_loopw [4, 15] (fun _ i wr => ∃ k : Nat, k ≤ 4 ∧ i = .int .i64 (k : Int) ∧ Hid (([v, c, s, n].take k).all Ig.numB = true) ∧ w2 = wr) (fun _ i _ => 4 - (intOf i).toNat)
  case atStart => exact ⟨0, Nat.zero_le _, rfl, Lib.hid (by simp), rfl⟩
  case round =>
    obtain ⟨k, hk, rfl, ha, rfl⟩ := hrel
    by_cases hlt : k < 4
    · have hlt' : k < [v, c, s, n].length := hlt
      have hcell : w2.cell? ⟨w.heap.size + 1, k, none⟩ = some (.int .i64 [v, c, s, n][k]) := (HX.out.cell k).trans (by
        rcases (by omega : k = 0 ∨ k = 1 ∨ k = 2 ∨ k = 3) with rfl | rfl | rfl | rfl <;> rfl)
      have HS := Lib.hid (fun h => HSt.out k hlt' h)
      have HG : Hid (Ig.numB [v, c, s, n][k] = true → ([v, c, s, n].take (k + 1)).all Ig.numB = true) := fun h => by
        rw [List.take_succ_eq_append_getElem hlt', List.all_append, ha.out]; simp [h]
      clear HSt HGo HBt
      generalize [v, c, s, n][k] = x at *
      by_cases h0 : x < 0
      · have Hres := Lib.hid (HS.out (Ig.num_no (.inl h0)))
        clear HS HG
        go_wp2_with fail
        go_ret
        exact ⟨ret_bool Hres.out.symm, Hb2.out⟩
      · by_cases h1 : 2147483647 < x
        · have Hres := Lib.hid (HS.out (Ig.num_no (.inr h1)))
          clear HS HG
          go_wp2_with fail
          go_ret
          exact ⟨ret_bool Hres.out.symm, Hb2.out⟩
        · have Hn := Lib.hid (HG.out (Ig.num_yes h0 h1))
          clear HS HG
          go_wp2_with fail
          go_roundw
          case rel => exact ⟨k + 1, by omega, by go_num, Hn, trivial⟩
          case measure => simp [intOf]; omega
    · have htk : [v, c, s, n].take k = [v, c, s, n] := List.take_of_length_le (by simp; omega)
      rw [htk] at ha
      have Hres := Lib.hid (HGo.out ha.out)
      have c2 := HE.out.cell 2
      have c4 := HE.out.cell 4
      simp only [List.getElem?_toArray, List.getElem?_cons_zero, List.getElem?_cons_succ] at c2 c4
      clear HSt HGo htk ha
      go_wp2_with fail
      refine (HBt w2 Hb2.out).out.mono ?_
      rintro e w3 ⟨rfl, hb3⟩
      have d2 := (hb3.cell (p := ⟨w.heap.size, 2, none⟩) HE.out.lt).trans c2
      have d4 := (hb3.cell (p := ⟨w.heap.size, 4, none⟩) HE.out.lt).trans c4
      have Hb3 : Hid (Below w.heap.size w w3) := Hb2.out.trans (hb3.mono Hb2.out.size)
      clear hb3 c2 c4
      cases bt
      · go_wp2_with fail
        go_ret
        exact ⟨ret_bool (by rw [Hres.out]; first | rfl | (simp; done) | (simp [*]; done) | (simp; omega) | (simp [*]; omega)), Hb3.out⟩
      · by_cases hs : 0 < s
        · go_wp2_with fail
          go_ret
          exact ⟨ret_bool (by rw [Hres.out]; first | rfl | (simp; done) | (simp [*]; done) | (simp; omega) | (simp [*]; omega)), Hb3.out⟩
        · by_cases hz : ps.length = 0
          · have hzb : ((ps.length : Int) == 0) = true := by simp [hz]
            go_wp2_with fail
            go_ret
            exact ⟨ret_bool (by rw [Hres.out]; first | rfl | (simp; done) | (simp [*]; done) | (simp; omega) | (simp [*]; omega)), Hb3.out⟩
          · have hzb : ((ps.length : Int) == 0) = false := beq_eq_false_iff_ne.2 (by omega)
            go_wp2_with fail
            go_ret
            exact ⟨ret_bool (by rw [Hres.out]; first | rfl | (simp; done) | (simp [*]; done) | (simp; omega) | (simp [*]; omega)), Hb3.out⟩
end Go.Proofs.Ytapdlmiioljpgaa
/- Arguments of a law opened: slices of integers, of texts, of structs, as lists that are read. No program in sight. -/
namespace Go.Proofs.Ytapdlmiioljpgaa
open Go.RowKit Go.ChangeShapes Go.WideShapes Go.Deep
set_option linter.unusedVariables false

theorem list_of {α : Type} (n : Nat) (P : Nat → α → Prop) (h : ∀ i, i < n → ∃ x, P i x) : ∃ xs : List α, xs.length = n ∧ ∀ i (hi : i < xs.length), P i xs[i] := by
  induction n with
  | zero => exact ⟨[], rfl, fun i hi => absurd hi (by simp)⟩
  | succ n ih =>
    obtain ⟨xs, hl, hx⟩ := ih fun i hi => h i (by omega)
    obtain ⟨x, hp⟩ := h n (by omega)
    refine ⟨xs ++ [x], by simp [hl], fun i hi => ?_⟩
    by_cases hi' : i < xs.length
    · rw [List.getElem_append_left hi']; exact hx i hi'
    · have : i = n := by simp at hi; omega
      subst this
      rw [List.getElem_append_right (by omega)]
      simpa [hl] using hp

/-- what a slice's datum is: nil, or its elements, each read by g, and spare places -/
def RowData {H α : Type} (d : DataW H) (g : α → DataW H) (xs : List α) : Prop := (d = .nil ∧ xs = []) ∨ ∃ spare, d = .slice (xs.map g) spare

section
variable {H : Type} {enc : TypeId × Value → H} {P : Program} {w : World}
theorem reach_eq : reachBytes = 140737488351232 := by decide
theorem sized_data {α : Type} {g : α → DataW H} {ts : List TypeId} {ds : List (DataW H)} (h : (DataW.weightsEach P ts ds).all (· ≤ reachBytes) = true) {j : Nat} {t e : TypeId} {d : DataW H} {xs : List α} (ht : ts[j]? = some t) (hd : ds[j]? = some d) (hu : P.underlying t = some (.slice e)) (hs : RowData d g xs) (b : Nat) (hb : P.bytesOf e = b) :
    xs.length * b ≤ 140737488351232 := by
  rcases hs with ⟨_, rfl⟩ | ⟨spare, rfl⟩
  · simp
  · have := sized_slice h ht hd hu
    rw [hb, List.length_map] at this
    have h2 : xs.length * b ≤ (xs.length + spare.length) * b := Nat.mul_le_mul_right _ (by omega)
    have h3 := reach_eq
    omega
theorem weights_all_mem {e : TypeId} {l : List (DataW H)} {d : DataW H} (h : d ∈ l) {n : Nat} (hn : n ∈ d.weights P e) : n ∈ DataW.weightsAll P e l := by
  induction l with
  | nil => cases h
  | cons x l ih =>
    simp only [DataW.weightsAll, List.mem_append]
    rcases List.mem_cons.1 h with rfl | h
    · exact .inl hn
    · exact .inr (ih h)
/-- the reach, of what lies in an element -/
theorem sized_elem {α : Type} {g : α → DataW H} {ts : List TypeId} {ds : List (DataW H)} (h : (DataW.weightsEach P ts ds).all (· ≤ reachBytes) = true) {j : Nat} {t e : TypeId} {d : DataW H} {xs : List α} (ht : ts[j]? = some t) (hd : ds[j]? = some d) (hu : P.underlying t = some (.slice e)) (hs : RowData d g xs)
    (x : α) (hx : x ∈ xs) (n : Nat) (hn : n ∈ (g x).weights P e) : n ≤ 140737488351232 := by
  rcases hs with ⟨_, rfl⟩ | ⟨spare, rfl⟩
  · cases hx
  · have := List.all_eq_true.1 h n (DataW.weights_mem_each ht hd n (by
      simp only [DataW.weights, hu, List.mem_cons, List.mem_append]
      exact .inr (.inl (weights_all_mem (List.mem_map_of_mem hx) hn))))
    rw [← reach_eq]
    simpa using this
def textData (s : ByteArray) : DataW H := .lit (.string s.data.toList)
def intData (k : IntKind) (n : Int) : DataW H := .lit (.int k n)
def fileData (f : Int × ByteArray) : DataW H := .agg [.lit (.int .i64 f.1), .lit (.string f.2.data.toList)]
theorem textData_weights (s : ByteArray) (e : TypeId) : s.size ∈ (textData (H := H) s).weights P e := by simp [textData, DataW.weights]

theorem spot_mk {a : Addr} {v : Value} (h : w.cell? (a.add 0) = some v) : ∃ b off, a = ⟨b, off, .none⟩ ∧ b < w.heap.size := by
  have e0 : a.add 0 = a := by unfold Addr.add; simp
  rw [e0] at h
  have hs := World.cell?_spot h
  obtain ⟨b, off, spot⟩ := a
  subst hs
  refine ⟨b, off, rfl, ?_⟩
  rcases Nat.lt_or_ge b w.heap.size with hlt | hge
  · exact hlt
  · simp [World.cell?, Array.getElem?_eq_none hge] at h

theorem open_int_list {t e : TypeId} {k : IntKind} {r : Reach} {base : Nat} {sp : Nat → Bool} {held : Bool} {v : Value} {d : DataW H} {p : List MemPlace} (ht : P.underlying t = some (.slice e)) (he : P.underlying e = some (.int k)) (hC : P.cellsOf e = 1)
    (hv : Value.okWide P w r base t v) (h : DataW.Trod enc P w 0 sp held t v d p) :
    ∃ (A : Option Addr) (c : Nat) (zs : List Int), v = .slice A zs.length c ∧ Reads w w.heap.size 1 A zs.length (zs.map (.int k)) ∧ (∀ n ∈ zs, (Lit.int k n).wf = true) ∧ RowData d (intData k) zs := by
  obtain ⟨A, len, cap, rfl⟩ := okWide_slice ht hv
  obtain ⟨fuel, hf⟩ := h
  rcases open_ints ht he hC hf with ⟨hcs, hx⟩ | ⟨a, l, c, zs, hcs, _, hl, hm, hz, hx, hcell, hwz⟩
  · simp [Value.cells] at hcs
    obtain ⟨rfl, rfl, rfl⟩ := hcs
    simp only [Prod.mk.injEq] at hx
    exact ⟨.none, 0, [], rfl, Reads.none_, by simp, .inl ⟨hx.1, rfl⟩⟩
  · simp [Value.cells] at hcs
    obtain ⟨rfl, rfl, rfl⟩ := hcs
    simp only [Prod.mk.injEq] at hx
    have hlz : len ≤ zs.length := by rw [hz]; split <;> omega
    have hlen : (zs.take len).length = len := by rw [List.length_take]; omega
    refine ⟨some a, cap, zs.take len, by rw [hlen], ?_, fun n hn => hwz n (List.mem_of_mem_take hn), .inr ⟨_, hx.1⟩⟩
    rw [hlen]
    refine ⟨by simp; omega, fun h0 => ?_⟩
    obtain ⟨b, off, rfl, hb⟩ := spot_mk (hcell 0 (by omega))
    refine ⟨b, off, rfl, hb, fun j u hu => ?_⟩
    have hj : j < len := by have := (List.getElem?_eq_some_iff.1 hu).1; simp at this; omega
    have := hcell j (by omega)
    rw [add_mk] at this
    rw [this, ← hu, List.getElem?_map, List.getElem?_take_of_lt hj, List.getD_eq_getElem?_getD, List.getElem?_eq_getElem (by omega)]
    rfl

theorem open_text_list {t e : TypeId} {r : Reach} {base : Nat} {sp : Nat → Bool} {held : Bool} {v : Value} {d : DataW H} {p : List MemPlace} (ht : P.underlying t = some (.slice e)) (he : P.underlying e = some .string) (hC : P.cellsOf e = 1)
    (hv : Value.okWide P w r base t v) (h : DataW.Trod enc P w 0 sp held t v d p) :
    ∃ (A : Option Addr) (c : Nat) (ss : List ByteArray), v = .slice A ss.length c ∧ Reads w w.heap.size 1 A ss.length (ss.map .string) ∧ (∀ s ∈ ss, s.size ≤ maxLen) ∧ RowData d textData ss := by
  obtain ⟨A, len, cap, rfl⟩ := okWide_slice ht hv
  obtain ⟨fuel, hf⟩ := h
  rcases open_strings ht he hC hf with ⟨hcs, hx⟩ | ⟨a, l, c, zs, hcs, _, hl, hm, hz, hx, hcell, hwz⟩
  · simp [Value.cells] at hcs
    obtain ⟨rfl, rfl, rfl⟩ := hcs
    simp only [Prod.mk.injEq] at hx
    exact ⟨.none, 0, [], rfl, Reads.none_, by simp, .inl ⟨hx.1, rfl⟩⟩
  · simp [Value.cells] at hcs
    obtain ⟨rfl, rfl, rfl⟩ := hcs
    simp only [Prod.mk.injEq] at hx
    have hlz : len ≤ zs.length := by rw [hz]; split <;> omega
    have hlen : (zs.take len).length = len := by rw [List.length_take]; omega
    refine ⟨some a, cap, zs.take len, by rw [hlen], ?_, fun n hn => hwz n (List.mem_of_mem_take hn), .inr ⟨_, hx.1⟩⟩
    rw [hlen]
    refine ⟨by simp; omega, fun h0 => ?_⟩
    obtain ⟨b, off, rfl, hb⟩ := spot_mk (hcell 0 (by omega))
    refine ⟨b, off, rfl, hb, fun j u hu => ?_⟩
    have hj : j < len := by have := (List.getElem?_eq_some_iff.1 hu).1; simp at this; omega
    have := hcell j (by omega)
    rw [add_mk] at this
    rw [this, ← hu, List.getElem?_map, List.getElem?_take_of_lt hj, List.getD_eq_getElem?_getD, List.getElem?_eq_getElem (by omega)]
    rfl

/-- a slice of structs of one-cell fields: of each element the cells, and that each is read by its field's type -/
theorem open_row_form {t e : TypeId} {fs : Array Field} {sp : Nat → Bool} {held : Bool} {v : Value} {d : DataW H} {p : List MemPlace} (ht : P.underlying t = some (.slice e)) (he : P.underlying e = some (.struct fs))
    (hone : oneCellFields P fs = true) (hC : P.cellsOf e = fs.size) (hfs : 0 < fs.size) (hv : ∃ A l c, v = .slice A l c) (h : DataW.Trod enc P w 0 sp held t v d p) :
    ∃ A n c, v = .slice A n c ∧ ((d = .nil ∧ n = 0) ∨ ∃ (D : Nat → DataW H) (spare : List (DataW H)), d = .slice ((List.range n).map D) spare ∧ (0 < n → ∃ b off, A = some ⟨b, off, .none⟩ ∧ b < w.heap.size ∧
      ∀ i, i < n → ∃ (k : Nat) (ys : List (DataW H × List MemPlace)), D i = .agg (ys.map (·.1)) ∧ ys.length = fs.size ∧ ∀ (j : Nat) (f : Field), fs[j]? = some f → ∃ (u : Value) (y : DataW H × List MemPlace), w.cell? ⟨b, off + (i * fs.size + j), .none⟩ = some u ∧ ys[j]? = some y ∧ DataW.trod enc P w 0 sp held k f.type [u] = some y)) := by
  obtain ⟨A, len, cap, rfl⟩ := hv
  obtain ⟨fuel, hf⟩ := h
  rcases open_slice ht hf with ⟨hcs, hx⟩ | ⟨a, l, c, m, n, D, Pl, hcs, _, hl, hm, hmm, hx, hi⟩
  · simp [Value.cells] at hcs
    obtain ⟨rfl, rfl, rfl⟩ := hcs
    simp only [Prod.mk.injEq] at hx
    exact ⟨.none, 0, 0, rfl, .inl ⟨hx.1, rfl⟩⟩
  · simp [Value.cells] at hcs
    obtain ⟨rfl, rfl, rfl⟩ := hcs
    simp only [Prod.mk.injEq] at hx
    have hlm : len ≤ m := by rw [hmm]; split <;> omega
    refine ⟨some a, len, cap, rfl, .inr ⟨D, _, hx.1, fun h0 => ?_⟩⟩
    have hall : ∀ i, i < len → ∃ (k : Nat) (ys : List (DataW H × List MemPlace)), D i = .agg (ys.map (·.1)) ∧ ys.length = fs.size ∧ ∀ (j : Nat) (f : Field), fs[j]? = some f → ∃ (u : Value) (y : DataW H × List MemPlace), w.cell? (a.add (i * fs.size + j)) = some u ∧ ys[j]? = some y ∧ DataW.trod enc P w 0 sp held k f.type [u] = some y := by
      intro i hil
      obtain ⟨cs', hc, ht'⟩ := hi i (by omega)
      rw [hC] at hc
      obtain ⟨ys, n', hn', hy, hlen, hyl, hf⟩ := DataW.trod_struct he ht'
      obtain ⟨_, hcl, hat⟩ := World.cells?_some hc
      simp only [Prod.mk.injEq] at hy
      refine ⟨n', ys, hy.1, hyl, fun j f hj => ?_⟩
      obtain ⟨ho, hk⟩ := hone_of hone j f hj
      have hjl : j < fs.size := (Array.getElem?_eq_some_iff.1 hj).1
      have hcell := hat j hjl
      have hv : cs'[j]? = some (cs'[j]'(by omega)) := List.getElem?_eq_getElem (by omega)
      have h1 := hf j f hj
      rw [ho, hk] at h1
      have hone' : (cs'.drop j).take 1 = [cs'[j]'(by omega)] := by
        rw [List.drop_eq_getElem_cons (by omega)]
        rfl
      rw [hone'] at h1
      have hys : ys[j]? = some (ys[j]'(by omega)) := List.getElem?_eq_getElem (by omega)
      refine ⟨_, _, ?_, hys, h1.trans hys⟩
      rw [← Go.Deep.add_add, hcell, hv]
    obtain ⟨k0, ys0, _, _, hk0⟩ := hall 0 h0
    obtain ⟨u, y, hcell, _⟩ := hk0 0 fs[0] (by simp [hfs])
    obtain ⟨b, off, rfl, hb⟩ := spot_mk (by simpa using hcell)
    refine ⟨b, off, rfl, hb, fun i hil => ?_⟩
    obtain ⟨k, ys, hD, hl, hk⟩ := hall i hil
    refine ⟨k, ys, hD, hl, fun j f hj => ?_⟩
    obtain ⟨u, y, h1, h2⟩ := hk j f hj
    rw [add_mk] at h1
    exact ⟨u, y, h1, h2⟩

theorem open_row_list {t e : TypeId} {fs : Array Field} {r : Reach} {base : Nat} {sp : Nat → Bool} {held : Bool} {v : Value} {d : DataW H} {p : List MemPlace} (ht : P.underlying t = some (.slice e)) (he : P.underlying e = some (.struct fs))
    (hone : oneCellFields P fs = true) (hC : P.cellsOf e = fs.size) (hfs : 0 < fs.size) (hv : Value.okWide P w r base t v) (h : DataW.Trod enc P w 0 sp held t v d p) :
    ∃ A n c, v = .slice A n c ∧ ((d = .nil ∧ n = 0) ∨ ∃ (D : Nat → DataW H) (spare : List (DataW H)), d = .slice ((List.range n).map D) spare ∧ (0 < n → ∃ b off, A = some ⟨b, off, .none⟩ ∧ b < w.heap.size ∧
      ∀ i, i < n → ∃ (k : Nat) (ys : List (DataW H × List MemPlace)), D i = .agg (ys.map (·.1)) ∧ ys.length = fs.size ∧ ∀ (j : Nat) (f : Field), fs[j]? = some f → ∃ (u : Value) (y : DataW H × List MemPlace), w.cell? ⟨b, off + (i * fs.size + j), .none⟩ = some u ∧ ys[j]? = some y ∧ DataW.trod enc P w 0 sp held k f.type [u] = some y)) :=
  open_row_form ht he hone hC hfs (okWide_slice ht hv) h

theorem range_map_list {α β : Type} (n : Nat) (D : Nat → β) (g : α → β) (xs : List α) (hl : xs.length = n) (h : ∀ i (hi : i < xs.length), D i = g xs[i]) : (List.range n).map D = xs.map g := by
  apply List.ext_getElem
  · simp [hl]
  · intro i h1 h2
    simp only [List.getElem_map, List.getElem_range]
    exact h i (by simpa using h2)

/-- a slice of files -/
theorem open_file_list {t e ti ts : TypeId} {f0 f1 : Field} {r : Reach} {base : Nat} {sp : Nat → Bool} {held : Bool} {v : Value} {d : DataW H} {p : List MemPlace} (ht : P.underlying t = some (.slice e)) (he : P.underlying e = some (.struct #[f0, f1]))
    (hone : oneCellFields P #[f0, f1] = true) (hC : P.cellsOf e = 2) (h0 : f0.type = ti) (h1 : f1.type = ts) (hi : P.underlying ti = some (.int .i64)) (hs : P.underlying ts = some .string)
    (hv : Value.okWide P w r base t v) (h : DataW.Trod enc P w 0 sp held t v d p) :
    ∃ (A : Option Addr) (c : Nat) (fs : List (Int × ByteArray)), v = .slice A fs.length c ∧ Reads w w.heap.size 2 A fs.length (fs.flatMap fun f => [.int .i64 f.1, .string f.2]) ∧ (∀ f ∈ fs, (Lit.int .i64 f.1).wf = true ∧ f.2.size ≤ maxLen) ∧ RowData d fileData fs := by
  obtain ⟨A, n, c, rfl, hd⟩ := open_row_list ht he hone hC (Nat.zero_lt_succ 1) hv h
  rcases hd with ⟨rfl, rfl⟩ | ⟨D, spare, hd, hc⟩
  · exact ⟨A, c, [], rfl, Reads.none_, by simp, .inl ⟨rfl, rfl⟩⟩
  by_cases hn : 0 < n
  · obtain ⟨b, off, rfl, hb, hcell⟩ := hc hn
    obtain ⟨fs, hl, hf⟩ := list_of n (fun i (f : Int × ByteArray) => D i = fileData f ∧ w.cell? ⟨b, off + i * 2, .none⟩ = some (.int .i64 f.1) ∧ w.cell? ⟨b, off + (i * 2 + 1), .none⟩ = some (.string f.2) ∧ (Lit.int .i64 f.1).wf = true ∧ f.2.size ≤ maxLen) (fun i hi' => by
      obtain ⟨k, ys, hD, hyl, hk⟩ := hcell i hi'
      obtain ⟨u0, y0, c0, q0, r0⟩ := hk 0 f0 rfl
      obtain ⟨u1, y1, c1, q1, r1⟩ := hk 1 f1 rfl
      rw [h0] at r0
      rw [h1] at r1
      obtain ⟨x, e0, g0, wx⟩ := DataW.trod_int hi r0
      obtain ⟨s, e1, g1, ws⟩ := DataW.trod_string hs r1
      simp at e0 e1
      subst e0; subst e1
      refine ⟨(x, s), ?_, c0, c1, wx, ws⟩
      match ys, hyl, q0, q1 with
      | [z0, z1], _, q0, q1 =>
        simp at q0 q1
        rw [hD, q0, q1, g0, g1]
        rfl)
    subst hl
    refine ⟨_, c, fs, rfl, ⟨flat_length _ 2 (fun _ => rfl) fs, fun _ => ⟨b, off, rfl, hb, fun j u hu => ?_⟩⟩, fun f hf' => ?_, .inr ⟨spare, by rw [hd, range_map_list _ D fileData fs rfl (fun i hi' => (hf i hi').1)]⟩⟩
    · have hj : j < fs.length * 2 := by
        have := (List.getElem?_eq_some_iff.1 hu).1
        rwa [flat_length _ 2 (fun _ => rfl) fs] at this
      have hq : j / 2 < fs.length := by omega
      have hsplit : j = j / 2 * 2 + j % 2 := by omega
      obtain ⟨_, c0, c1, _⟩ := hf (j / 2) hq
      rw [hsplit, flat_at _ 2 (fun _ => rfl) fs (j / 2) (j % 2) hq (by omega)] at hu
      rcases (by omega : j % 2 = 0 ∨ j % 2 = 1) with e | e
      · rw [e] at hu hsplit
        rw [hsplit, ← hu]; simpa using c0
      · rw [e] at hu hsplit
        rw [hsplit, ← hu]; simpa using c1
    · obtain ⟨i, hi', rfl⟩ := List.getElem_of_mem hf'
      exact ⟨(hf i hi').2.2.2.1, (hf i hi').2.2.2.2⟩
  · obtain rfl : n = 0 := by omega
    exact ⟨A, c, [], rfl, Reads.none_, by simp, .inr ⟨spare, by simpa using hd⟩⟩
def pointData (f : ByteArray × Int × Int) : DataW H := .agg [.lit (.string f.1.data.toList), .lit (.int .i64 f.2.1), .lit (.int .i64 f.2.2)]
theorem open_point_form {t e ti ts : TypeId} {f0 f1 f2 : Field} {sp : Nat → Bool} {held : Bool} {v : Value} {d : DataW H} {p : List MemPlace} (ht : P.underlying t = some (.slice e)) (he : P.underlying e = some (.struct #[f0, f1, f2]))
    (hone : oneCellFields P #[f0, f1, f2] = true) (hC : P.cellsOf e = 3) (h0 : f0.type = ts) (h1 : f1.type = ti) (h2 : f2.type = ti) (hi : P.underlying ti = some (.int .i64)) (hs : P.underlying ts = some .string)
    (hv : ∃ A l c, v = .slice A l c) (h : DataW.Trod enc P w 0 sp held t v d p) :
    ∃ (A : Option Addr) (c : Nat) (fs : List (ByteArray × Int × Int)), v = .slice A fs.length c ∧ Reads w w.heap.size 3 A fs.length (fs.flatMap fun f => [.string f.1, .int .i64 f.2.1, .int .i64 f.2.2]) ∧ (∀ f ∈ fs, (Lit.int .i64 f.2.1).wf = true ∧ (Lit.int .i64 f.2.2).wf = true ∧ f.1.size ≤ maxLen) ∧ RowData d pointData fs := by
  obtain ⟨A, n, c, rfl, hd⟩ := open_row_form ht he hone hC (Nat.zero_lt_succ 2) hv h
  rcases hd with ⟨rfl, rfl⟩ | ⟨D, spare, hd, hc⟩
  · exact ⟨A, c, [], rfl, Reads.none_, by simp, .inl ⟨rfl, rfl⟩⟩
  by_cases hn : 0 < n
  · obtain ⟨b, off, rfl, hb, hcell⟩ := hc hn
    obtain ⟨fs, hl, hf⟩ := list_of n (fun i (f : ByteArray × Int × Int) => D i = pointData f ∧ w.cell? ⟨b, off + i * 3, .none⟩ = some (.string f.1) ∧ w.cell? ⟨b, off + (i * 3 + 1), .none⟩ = some (.int .i64 f.2.1) ∧ w.cell? ⟨b, off + (i * 3 + 2), .none⟩ = some (.int .i64 f.2.2) ∧ (Lit.int .i64 f.2.1).wf = true ∧ (Lit.int .i64 f.2.2).wf = true ∧ f.1.size ≤ maxLen) (fun i hi' => by
      obtain ⟨k, ys, hD, hyl, hk⟩ := hcell i hi'
      obtain ⟨u0, y0, c0, q0, r0⟩ := hk 0 f0 rfl
      obtain ⟨u1, y1, c1, q1, r1⟩ := hk 1 f1 rfl
      obtain ⟨u2, y2, c2, q2, r2⟩ := hk 2 f2 rfl
      rw [h0] at r0
      rw [h1] at r1
      rw [h2] at r2
      obtain ⟨s, e0, g0, ws⟩ := DataW.trod_string hs r0
      obtain ⟨x, e1, g1, wx⟩ := DataW.trod_int hi r1
      obtain ⟨y, e2, g2, wy⟩ := DataW.trod_int hi r2
      simp at e0 e1 e2
      subst e0; subst e1; subst e2
      refine ⟨(s, x, y), ?_, c0, c1, c2, wx, wy, ws⟩
      match ys, hyl, q0, q1, q2 with
      | [z0, z1, z2], _, q0, q1, q2 =>
        simp at q0 q1 q2
        rw [hD, q0, q1, q2, g0, g1, g2]
        rfl)
    subst hl
    refine ⟨_, c, fs, rfl, ⟨flat_length _ 3 (fun _ => rfl) fs, fun _ => ⟨b, off, rfl, hb, fun j u hu => ?_⟩⟩, fun f hf' => ?_, .inr ⟨spare, by rw [hd, range_map_list _ D pointData fs rfl (fun i hi' => (hf i hi').1)]⟩⟩
    · have hj : j < fs.length * 3 := by
        have := (List.getElem?_eq_some_iff.1 hu).1
        rwa [flat_length _ 3 (fun _ => rfl) fs] at this
      have hq : j / 3 < fs.length := by omega
      have hsplit : j = j / 3 * 3 + j % 3 := by omega
      obtain ⟨_, c0, c1, c2, _⟩ := hf (j / 3) hq
      rw [hsplit, flat_at _ 3 (fun _ => rfl) fs (j / 3) (j % 3) hq (by omega)] at hu
      rcases (by omega : j % 3 = 0 ∨ j % 3 = 1 ∨ j % 3 = 2) with e | e | e
      · rw [e] at hu hsplit
        rw [hsplit, ← hu]; simpa using c0
      · rw [e] at hu hsplit
        rw [hsplit, ← hu]; simpa using c1
      · rw [e] at hu hsplit
        rw [hsplit, ← hu]; simpa using c2
    · obtain ⟨i, hi', rfl⟩ := List.getElem_of_mem hf'
      exact ⟨(hf i hi').2.2.2.2.1, (hf i hi').2.2.2.2.2.1, (hf i hi').2.2.2.2.2.2⟩
  · obtain rfl : n = 0 := by omega
    exact ⟨A, c, [], rfl, Reads.none_, by simp, .inr ⟨spare, by simpa using hd⟩⟩
theorem open_point_list {t e ti ts : TypeId} {f0 f1 f2 : Field} {r : Reach} {base : Nat} {sp : Nat → Bool} {held : Bool} {v : Value} {d : DataW H} {p : List MemPlace} (ht : P.underlying t = some (.slice e)) (he : P.underlying e = some (.struct #[f0, f1, f2]))
    (hone : oneCellFields P #[f0, f1, f2] = true) (hC : P.cellsOf e = 3) (h0 : f0.type = ts) (h1 : f1.type = ti) (h2 : f2.type = ti) (hi : P.underlying ti = some (.int .i64)) (hs : P.underlying ts = some .string)
    (hv : Value.okWide P w r base t v) (h : DataW.Trod enc P w 0 sp held t v d p) :
    ∃ (A : Option Addr) (c : Nat) (fs : List (ByteArray × Int × Int)), v = .slice A fs.length c ∧ Reads w w.heap.size 3 A fs.length (fs.flatMap fun f => [.string f.1, .int .i64 f.2.1, .int .i64 f.2.2]) ∧ (∀ f ∈ fs, (Lit.int .i64 f.2.1).wf = true ∧ (Lit.int .i64 f.2.2).wf = true ∧ f.1.size ≤ maxLen) ∧ RowData d pointData fs :=
  open_point_form ht he hone hC h0 h1 h2 hi hs (okWide_slice ht hv) h
theorem open_point {t ti ts : TypeId} {f0 f1 f2 : Field} {r : Reach} {base : Nat} {sp : Nat → Bool} {held : Bool} {v : Value} {d : DataW H} {p : List MemPlace} (he : P.underlying t = some (.struct #[f0, f1, f2]))
    (hone : oneCellFields P #[f0, f1, f2] = true) (hC : P.cellsOf t = 3) (h0 : f0.type = ts) (h1 : f1.type = ti) (h2 : f2.type = ti) (hi : P.underlying ti = some (.int .i64)) (hs : P.underlying ts = some .string)
    (hv : Value.okWide P w r base t v) (h : DataW.Trod enc P w 0 sp held t v d p) :
    ∃ q : ByteArray × Int × Int, v = .agg #[.string q.1, .int .i64 q.2.1, .int .i64 q.2.2] ∧ ((Lit.int .i64 q.2.1).wf = true ∧ (Lit.int .i64 q.2.2).wf = true ∧ q.1.size ≤ maxLen) := by
  obtain ⟨v0, v1, v2, y0, y1, y2, n, rfl, _, _, r0, r1, r2⟩ := Joins.open_agg3 he hone hC hv h
  rw [h0] at r0
  rw [h1] at r1
  rw [h2] at r2
  obtain ⟨s, e0, g0, ws⟩ := DataW.trod_string hs r0
  obtain ⟨x, e1, g1, wx⟩ := DataW.trod_int hi r1
  obtain ⟨y, e2, g2, wy⟩ := DataW.trod_int hi r2
  simp at e0 e1 e2
  subst e0; subst e1; subst e2
  exact ⟨(s, x, y), rfl, wx, wy, ws⟩
end
end Go.Proofs.Ytapdlmiioljpgaa
/- Arguments of a law opened: slices of entries, each with its batch. No program in sight. -/
namespace Go.Proofs.Ytapdlmiioljpgaa
open Go.RowKit Go.ChangeShapes Go.WideShapes Go.Deep
set_option linter.unusedVariables false

/-- an entry: its numbers; where its batch lies, the batch's capacity, the batch -/
abbrev Ent := (Int × Int × Int × Int) × (Option Addr × Nat × List (ByteArray × Int × Int))
def entCells (q : Ent) : List Value := [.int .i64 q.1.1, .int .i64 q.1.2.1, .int .i64 q.1.2.2.1, .int .i64 q.1.2.2.2, .slice q.2.1 q.2.2.2.length q.2.2.1]
def ptCells3 (f : ByteArray × Int × Int) : List Value := [.string f.1, .int .i64 f.2.1, .int .i64 f.2.2]
structure EntOk (w : World) (q : Ent) : Prop where
  reads : Reads w w.heap.size 3 q.2.1 q.2.2.2.length (q.2.2.2.flatMap ptCells3)
  pts : ∀ f ∈ q.2.2.2, (Lit.int .i64 f.2.1).wf = true ∧ (Lit.int .i64 f.2.2).wf = true ∧ f.1.size ≤ maxLen
  nums : (Lit.int .i64 q.1.1).wf = true ∧ (Lit.int .i64 q.1.2.1).wf = true ∧ (Lit.int .i64 q.1.2.2.1).wf = true ∧ (Lit.int .i64 q.1.2.2.2).wf = true
section
variable {H : Type} {enc : TypeId × Value → H} {P : Program} {w : World}
def entData (p : Ent × DataW H) : DataW H := .agg [.lit (.int .i64 p.1.1.1), .lit (.int .i64 p.1.1.2.1), .lit (.int .i64 p.1.1.2.2.1), .lit (.int .i64 p.1.1.2.2.2), p.2]
theorem open_entry_list {t e ti tp te tq : TypeId} {f0 f1 f2 f3 f4 g0 g1 g2 : Field} {r : Reach} {base : Nat} {sp : Nat → Bool} {held : Bool} {v : Value} {d : DataW H} {p : List MemPlace} (ht : P.underlying t = some (.slice e)) (he : P.underlying e = some (.struct #[f0, f1, f2, f3, f4]))
    (hone : oneCellFields P #[f0, f1, f2, f3, f4] = true) (hC : P.cellsOf e = 5) (h0 : f0.type = ti) (h1 : f1.type = ti) (h2 : f2.type = ti) (h3 : f3.type = ti) (h4 : f4.type = tp) (hi : P.underlying ti = some (.int .i64)) (hp : P.underlying tp = some (.slice te))
    (hte : P.underlying te = some (.struct #[g0, g1, g2])) (hone' : oneCellFields P #[g0, g1, g2] = true) (hC' : P.cellsOf te = 3) (k0 : g0.type = tq) (k1 : g1.type = ti) (k2 : g2.type = ti) (hs : P.underlying tq = some .string)
    (hv : Value.okWide P w r base t v) (h : DataW.Trod enc P w 0 sp held t v d p) :
    ∃ (A : Option Addr) (c : Nat) (es : List (Ent × DataW H)), v = .slice A es.length c ∧ Reads w w.heap.size 5 A es.length (es.flatMap fun p => entCells p.1) ∧ (∀ p ∈ es, EntOk w p.1 ∧ RowData p.2 pointData p.1.2.2.2) ∧ RowData d entData es := by
  obtain ⟨A, n, c, rfl, hd⟩ := open_row_list ht he hone hC (Nat.zero_lt_succ 4) hv h
  rcases hd with ⟨rfl, rfl⟩ | ⟨D, spare, hd, hc⟩
  · exact ⟨A, c, [], rfl, Reads.none_, by simp, .inl ⟨rfl, rfl⟩⟩
  by_cases hn : 0 < n
  · obtain ⟨b, off, rfl, hb, hcell⟩ := hc hn
    obtain ⟨es, hl, hf⟩ := list_of n (fun i (f : Ent × DataW H) => D i = entData f ∧ (∀ j, j < 5 → w.cell? ⟨b, off + (i * 5 + j), .none⟩ = (entCells f.1)[j]?) ∧ EntOk w f.1 ∧ RowData f.2 pointData f.1.2.2.2) (fun i hi' => by
      obtain ⟨k, ys, hD, hyl, hk⟩ := hcell i hi'
      obtain ⟨u0, y0, c0, q0, r0⟩ := hk 0 f0 rfl
      obtain ⟨u1, y1, c1, q1, r1⟩ := hk 1 f1 rfl
      obtain ⟨u2, y2, c2, q2, r2⟩ := hk 2 f2 rfl
      obtain ⟨u3, y3, c3, q3, r3⟩ := hk 3 f3 rfl
      obtain ⟨u4, y4, c4, q4, r4⟩ := hk 4 f4 rfl
      rw [h0] at r0
      rw [h1] at r1
      rw [h2] at r2
      rw [h3] at r3
      rw [h4] at r4
      obtain ⟨x0, e0, z0, w0⟩ := DataW.trod_int hi r0
      obtain ⟨x1, e1, z1, w1⟩ := DataW.trod_int hi r1
      obtain ⟨x2, e2, z2, w2⟩ := DataW.trod_int hi r2
      obtain ⟨x3, e3, z3, w3⟩ := DataW.trod_int hi r3
      obtain ⟨a4, l4, c4', e4⟩ := Joins.slice_form hp r4
      simp at e0 e1 e2 e3 e4
      subst e0; subst e1; subst e2; subst e3; subst e4
      obtain ⟨A4, cc, fs, hv4, hr4, hw4, hd4⟩ := open_point_form (enc := enc) (v := .slice a4 l4 c4') (d := y4.1) (p := y4.2) hp hte hone' hC' k0 k1 k2 hi hs ⟨_, _, _, rfl⟩ ⟨k, by simpa [Value.cells] using r4⟩
      injection hv4 with ha hll hcc
      subst ha; subst hll; subst hcc
      refine ⟨(((x0, x1, x2, x3), (a4, c4', fs)), y4.1), ?_, fun j hj => ?_, ⟨hr4, hw4, w0, w1, w2, w3⟩, hd4⟩
      · match ys, hyl, q0, q1, q2, q3, q4 with
        | [y0', y1', y2', y3', y4'], _, q0, q1, q2, q3, q4 =>
          simp at q0 q1 q2 q3 q4
          rw [hD, q0, q1, q2, q3, q4, z0, z1, z2, z3]
          rfl
      · rcases (by omega : j = 0 ∨ j = 1 ∨ j = 2 ∨ j = 3 ∨ j = 4) with rfl | rfl | rfl | rfl | rfl
        · exact c0
        · exact c1
        · exact c2
        · exact c3
        · exact c4)
    subst hl
    refine ⟨_, c, es, rfl, ⟨flat_length _ 5 (fun _ => rfl) es, fun _ => ⟨b, off, rfl, hb, fun j u hu => ?_⟩⟩, fun f hf' => ?_, .inr ⟨spare, by rw [hd, range_map_list _ D entData es rfl (fun i hi' => (hf i hi').1)]⟩⟩
    · have hj : j < es.length * 5 := by
        have := (List.getElem?_eq_some_iff.1 hu).1
        rwa [flat_length _ 5 (fun _ => rfl) es] at this
      have hq : j / 5 < es.length := by omega
      have hsplit : j = j / 5 * 5 + j % 5 := by omega
      obtain ⟨_, hcs, _⟩ := hf (j / 5) hq
      rw [hsplit, flat_at (fun p : Ent × DataW H => entCells p.1) 5 (fun _ => rfl) es (j / 5) (j % 5) hq (by omega)] at hu
      rw [hsplit, hcs (j % 5) (by omega)]
      exact hu
    · obtain ⟨i, hi', rfl⟩ := List.getElem_of_mem hf'
      exact (hf i hi').2.2
  · obtain rfl : n = 0 := by omega
    exact ⟨A, c, [], rfl, Reads.none_, by simp, .inr ⟨spare, by simpa using hd⟩⟩
/-- the same, the data apart -/
theorem open_entries {t e ti tp te tq : TypeId} {f0 f1 f2 f3 f4 g0 g1 g2 : Field} {r : Reach} {base : Nat} {sp : Nat → Bool} {held : Bool} {v : Value} {d : DataW H} {p : List MemPlace} (ht : P.underlying t = some (.slice e)) (he : P.underlying e = some (.struct #[f0, f1, f2, f3, f4]))
    (hone : oneCellFields P #[f0, f1, f2, f3, f4] = true) (hC : P.cellsOf e = 5) (h0 : f0.type = ti) (h1 : f1.type = ti) (h2 : f2.type = ti) (h3 : f3.type = ti) (h4 : f4.type = tp) (hi : P.underlying ti = some (.int .i64)) (hp : P.underlying tp = some (.slice te))
    (hte : P.underlying te = some (.struct #[g0, g1, g2])) (hone' : oneCellFields P #[g0, g1, g2] = true) (hC' : P.cellsOf te = 3) (k0 : g0.type = tq) (k1 : g1.type = ti) (k2 : g2.type = ti) (hs : P.underlying tq = some .string)
    (hv : Value.okWide P w r base t v) (h : DataW.Trod enc P w 0 sp held t v d p) :
    ∃ (A : Option Addr) (c : Nat) (qs : List Ent), v = .slice A qs.length c ∧ Reads w w.heap.size 5 A qs.length (qs.flatMap entCells) ∧ (∀ q ∈ qs, EntOk w q) ∧ ∃ es : List (Ent × DataW H), qs = es.map (·.1) ∧ RowData d entData es ∧ ∀ p ∈ es, RowData p.2 pointData p.1.2.2.2 := by
  obtain ⟨A, c, es, h1', h2', h3', h4'⟩ := open_entry_list ht he hone hC h0 h1 h2 h3 h4 hi hp hte hone' hC' k0 k1 k2 hs hv h
  refine ⟨A, c, es.map (·.1), by rw [List.length_map]; exact h1', by rw [List.length_map, List.flatMap_map]; exact h2', fun q hq => ?_, es, rfl, h4', fun p hp => (h3' p hp).2⟩
  obtain ⟨p, hp', rfl⟩ := List.mem_map.1 hq
  exact (h3' p hp').1
/-- a batch is of the reach's size -/
theorem sized_batch {ts : List TypeId} {ds : List (DataW H)} (h : (DataW.weightsEach P ts ds).all (· ≤ reachBytes) = true) {j : Nat} {t e ti tp te : TypeId} {f0 f1 f2 f3 f4 : Field} {d : DataW H} {es : List (Ent × DataW H)} (ht : ts[j]? = some t) (hd : ds[j]? = some d) (hu : P.underlying t = some (.slice e)) (he : P.underlying e = some (.struct #[f0, f1, f2, f3, f4])) (h4 : f4.type = tp) (hp : P.underlying tp = some (.slice te)) (hb : P.bytesOf te = 32)
    (hs : RowData d entData es) (x : Ent × DataW H) (hx : x ∈ es) (hxd : RowData x.2 pointData x.1.2.2.2) : x.1.2.2.2.length * 32 ≤ 140737488351232 := by
  rcases hxd with ⟨_, h0⟩ | ⟨spare, h1⟩
  · rw [h0]; simp
  · have := sized_elem h ht hd hu hs x hx ((x.1.2.2.2.length + spare.length) * 32) (by
      unfold entData
      simp only [DataW.weights, he]
      simp only [DataW.weightsEach, List.map_cons, List.map_nil, h1, h4, DataW.weights, hp, hb, List.length_map, List.mem_append, List.mem_cons, true_or, or_true])
    have h2 : x.1.2.2.2.length * 32 ≤ (x.1.2.2.2.length + spare.length) * 32 := Nat.mul_le_mul_right _ (by omega)
    omega
end
end Go.Proofs.Ytapdlmiioljpgaa
/- An error's number; an int's bounds. -/
namespace Go.Proofs.Ytapdlmiioljpgaa
open Go.RowKit

theorem wf_int {a : Int} (h : (Lit.int .i64 a).wf = true) : -9223372036854775808 ≤ a ∧ a ≤ 9223372036854775807 := by
  simpa [Lit.wf, IntKind.min, IntKind.max, IntKind.signed, IntKind.bits] using h
theorem errno_any (x : Int) (w : World) : Calls Try.prog 17 #[.int .i64 x] w fun e w' => e = .returned (.int .i64 x) ∧ w = w' := by
  go_enter Try.func17, Try.ntmps17
  go_wp2
  go_ret
  exact ⟨rfl, rfl⟩
end Go.Proofs.Ytapdlmiioljpgaa
/- Entries where they lie: their cells, their batches. -/
namespace Go.Proofs.Ytapdlmiioljpgaa
open Go.RowKit
set_option linter.unusedVariables false

theorem ent_cells {w : World} {B : Nat} {A : Option Addr} {z : List Ent} (h : Reads w B 5 A z.length (z.flatMap entCells)) (j : Nat) (hj : j < z.length) : ∃ b off, A = some ⟨b, off, none⟩ ∧ b < B ∧
    w.cell? ⟨b, off + j * 5, none⟩ = some (.int .i64 z[j].1.1) ∧ w.cell? ⟨b, off + j * 5 + 1, none⟩ = some (.int .i64 z[j].1.2.1) ∧ w.cell? ⟨b, off + j * 5 + 2, none⟩ = some (.int .i64 z[j].1.2.2.1) ∧ w.cell? ⟨b, off + j * 5 + 3, none⟩ = some (.int .i64 z[j].1.2.2.2) ∧ w.cell? ⟨b, off + j * 5 + 4, none⟩ = some (.slice z[j].2.1 z[j].2.2.2.length z[j].2.2.1) := by
  obtain ⟨b, off, e, hb, hc⟩ := h.2 (by omega)
  have g : ∀ i u, (entCells z[j])[i]? = some u → i < 5 → w.cell? ⟨b, off + j * 5 + i, none⟩ = some u := fun i u hu hi => by
    have := hc (j * 5 + i) u (by rw [flat_at entCells 5 (fun _ => rfl) z j i hj hi]; exact hu)
    rwa [← Nat.add_assoc] at this
  exact ⟨b, off, e, hb, g 0 _ rfl (by omega), g 1 _ rfl (by omega), g 2 _ rfl (by omega), g 3 _ rfl (by omega), g 4 _ rfl (by omega)⟩
theorem ent_pts {w : World} {q : Ent} (h : EntOk w q) : Reads w w.heap.size 3 q.2.1 q.2.2.2.length (q.2.2.2.flatMap pointCells) ∧ ∀ p ∈ q.2.2.2, Pt.wf p :=
  ⟨h.reads, fun p hp => by
    obtain ⟨h1, h2, _⟩ := h.pts p hp
    exact ⟨wf_int h1, wf_int h2⟩⟩
end Go.Proofs.Ytapdlmiioljpgaa
