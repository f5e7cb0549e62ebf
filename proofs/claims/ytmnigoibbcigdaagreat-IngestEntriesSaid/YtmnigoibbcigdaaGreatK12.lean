/- Joined texts: RfIns, SeRopen, SeRapply, RmAt. -/
import Derived.Test.YtmnigoibbcigdaaGreatK11
import Derived.Test.YtmnigoibbcigdaaGreatK2
import Derived.Test.YtmnigoibbcigdaaGreatK4
import Derived.Test.YtmnigoibbcigdaaGreatK6
import Derived.Test.YtmnigoibbcigdaaGreatK8
import Derived.Test.YtmnigoibbcigdaaGreatK9
import Derived.BigRegion
import Derived.Deep.DeepCutAuto
import Derived.Deep.RegionHeld3
/- The walk through the reference's Insert. -/
namespace Go.Proofs.YtmnigoibbcigdaaGreat
open Go.RowKit
set_option linter.unusedVariables false

def PtsPost (w : World) (ps : List Pt.Point) (e : Ending) (w' : World) : Prop := ∃ v, e = .returned v ∧ w'.ownsRow w.heap.size 66 3 v ps.length (ps.flatMap pointCells) ∧ Below w.heap.size w w'
theorem str_ne {a b : ByteArray} (h : a ≠ b) : (a.toList == b.toList) = false := by
  rw [beq_eq_false_iff_ne]; exact fun e => h (by rw [Lib.toList_data, Lib.toList_data] at e; exact ByteArray.ext (Array.ext' e))
theorem flat_one (o : List Pt.Point) (q : Pt.Point) : (o ++ [q]).flatMap pointCells = o.flatMap pointCells ++ [.string q.1, .int .i64 q.2.1, .int .i64 q.2.2] := by rw [List.flatMap_append]; rfl
theorem le32 {n : Nat} (h : n ≤ 4398046511104) : n * 32 ≤ 140737488355328 := by omega
set_option maxRecDepth 100000 in
set_option maxHeartbeats 4000000 in
theorem rinsert_any (A : Option Addr) (c : Nat) (ps : List Pt.Point) (p : Pt.Point) (w : World) (B : Nat) (hr : Reads w B 3 A ps.length (ps.flatMap pointCells)) (hB : B ≤ w.heap.size) (hn : ps.length + 3 ≤ 4398046511104) (hwf : ∀ q ∈ ps, q.1.size ≤ 9223372036854775807) (hp : p.1.size ≤ 9223372036854775807) :
    Calls Tryz.prog 25 #[.slice A ps.length c, .agg #[.string p.1, .int .i64 p.2.1, .int .i64 p.2.2]] w (PtsPost w (Rf.res p ps)) := by
  obtain ⟨i0, hi, hz0, hz1, hz2⟩ := info_parts info_point
  have HL : Hid (∀ q ∈ ps, ∀ W, Calls Tryz.prog 77 #[.agg #[.string p.1, .int .i64 p.2.1, .int .i64 p.2.2], .agg #[.string q.1, .int .i64 q.2.1, .int .i64 q.2.2]] W fun e w' => e = .returned (.bool (Pt.lessB p q)) ∧ Below W.heap.size W w') := fun q hq W => rless_any p q W hp (hwf q hq)
  have HS := Lib.hid (Rf.st_snoc p ps)
  have HK := Lib.hid (Rf.st_len_k p ps)
  have HR := Lib.hid hr
  have HRes : Hid (∀ o b, Rf.st p ps = (o, b) → Rf.res p ps = if b = true then o else o ++ [p]) := fun o b h => by unfold Rf.res; rw [h]
  have HE : Hid (Rf.st p (ps.take ps.length) = Rf.st p ps) := by show _ = _; rw [List.take_length]
  clear hr hwf hp
  obtain ⟨pn, pt, pv⟩ := p
  dsimp only at HL
  have hBb := Blk.new w 66 #[.string pn, .int .i64 pt, .int .i64 pv]
  have hbb : Below w.heap.size w (w.alloc (.cells #[.string pn, .int .i64 pt, .int .i64 pv] 66)) := (Below.refl _ _).alloc (Nat.le_refl _) _
  have hss : (w.alloc (.cells #[.string pn, .int .i64 pt, .int .i64 pv] 66)).heap.size = w.heap.size + 1 := by simp
  go_enter Tryz.func25, Tryz.ntmps25
  go_wp2_with fail
  generalize (w.alloc (.cells #[.string pn, .int .i64 pt, .int .i64 pv] 66)) = w1 at *
  have HBb := Lib.hid hBb
  have Hbb := Lib.hid hbb
  obtain ⟨g, hg⟩ : ∃ g, g = w.heap.size := ⟨_, rfl⟩
  rw [← hg] at HBb
  have Hg := Lib.hid hg
  rw [← hg]
  have hg1 : w1.heap.size = g + 1 := by omega
  have hgw : w.heap.size ≤ g := by omega
  clear hBb hbb hss hg
  go_loopw [5, 6, 7, 8] (fun vo b i _ wr => ∃ (k : Nat) (o : List Pt.Point) (b0 : Bool), k ≤ ps.length ∧ i = .int .i64 (k : Int) ∧ b = .bool b0 ∧ Hid (Rf.st (pn, pt, pv) (ps.take k) = (o, b0)) ∧ Hid (wr.ownsRow w1.heap.size 66 3 vo o.length (o.flatMap pointCells)) ∧ Hid (Below w1.heap.size w1 wr)) (fun _ _ i _ _ => ps.length - (intOf i).toNat)
  case atStart => exact ⟨0, [], false, Nat.zero_le _, rfl, rfl, Lib.hid rfl, Lib.hid (own_nil _ _ _ _), Lib.hid (Below.refl _ _)⟩
  case round =>
    obtain ⟨k, o, b0, hk, rfl, rfl, hst, hown, hbw⟩ := hrel
    have hsw := hbw.out.size
    by_cases hlt : k < ps.length
    · have hltI : (k : Int) < (ps.length : Int) := by omega
      obtain ⟨b, off, rfl, hbl, hc⟩ := HR.out.2 (by omega)
      obtain ⟨q, hq⟩ : ∃ q, ps[k]? = some q := ⟨_, List.getElem?_eq_getElem hlt⟩
      have hqe : ps[k] = q := (List.getElem?_eq_some_iff.1 hq).2
      have hol : o.length ≤ ps.length + 1 := by have := HK.out k hk; rw [hst.out] at this; exact this
      have hm3 : (o.length + 1) * 32 ≤ 140737488355328 := le32 (by omega)
      have hm4 : (o.length + 1 + 1) * 32 ≤ 140737488355328 := le32 (by omega)
      have hm1 : o.length + 1 ≤ maxLen := by unfold maxLen; omega
      have hm2 : o.length + 1 + 1 ≤ maxLen := by unfold maxLen; omega
      have hcq : ∀ W, Below w1.heap.size w1 W → _ := fun W hW => pt_cells (wr := W) hlt hc (fun p hp => (hW.cell (p := p) (by omega)).trans (Hbb.out.cell (p := p) (by omega))) hbl
      rw [hqe] at hcq
      have hstep := HS.out k hlt
      rw [hst.out, hqe] at hstep
      have hL := fun W => Lib.hid (HL.out q (List.mem_of_getElem? hq) W)
      clear hqe hq hc
      obtain ⟨qn, qt, qv⟩ := q
      dsimp only at hcq hL
      have HCq := Lib.hid hcq
      obtain ⟨q0, q1, q2⟩ := hcq wr hbw.out
      clear hcq
      obtain ⟨x0, x1, x2⟩ := pt3_of (HBb.out.below hbw.out (by omega))
      have HN : Hid (∀ L ls, Rf.like (pn, pt, pv) (qn, qt, qv) = L → Pt.lessB (pn, pt, pv) (qn, qt, qv) = ls → Rf.st (pn, pt, pv) (ps.take (k + 1)) = ((o ++ (if (!b0 && (L || ls)) = true then [(pn, pt, pv)] else [])) ++ (if L = true then [] else [(qn, qt, qv)]), b0 || (L || ls))) := fun L ls h1 h2 => by
        rw [hstep]; unfold Rf.step; dsimp only; rw [h1, h2]
      clear hstep hst
      obtain ⟨ls, hls⟩ : ∃ ls, Pt.lessB (pn, pt, pv) (qn, qt, qv) = ls := ⟨_, rfl⟩
      rw [hls] at hL
      have Hls := Lib.hid hls
      clear hls
      have hBr := HBb.out.below hbw.out (show g < w1.heap.size by omega)
      have HBr := Lib.hid hBr
      clear hBr
      obtain ⟨L, hL1⟩ : ∃ L, Rf.like (pn, pt, pv) (qn, qt, qv) = L := ⟨_, rfl⟩
      have HN1 := Lib.hid (HN.out L ls hL1 Hls.out)
      have hways : (qn = pn ∧ qt = pt ∧ L = true) ∨ ((qn.toList == pn.toList) = false ∧ L = false) ∨ ((qn.toList == pn.toList) = true ∧ (qt == pt) = false ∧ L = false) := by
        rw [← hL1]
        unfold Rf.like
        by_cases h1 : qn = pn
        · by_cases h2 : qt = pt
          · exact .inl ⟨h1, h2, by simp [h1, h2]⟩
          · exact .inr (.inr ⟨by rw [h1]; exact beq_self_eq_true _, by simp [h2], by simp [h2]⟩)
        · exact .inr (.inl ⟨str_ne h1, by simp [h1]⟩)
      have Hways := Lib.hid hways
      clear HN Hls hL1 hways
      go_upto_region 7 with fail
      go_cut [8] (fun c wx => c = .bool L ∧ wr.drew = wx)
      case first =>
        as_aux_lemma =>
          clear HN1 hL HCq HL HS HK HRes
          rcases Hways.out with ⟨rfl, rfl, rfl⟩ | ⟨hw0, rfl⟩ | ⟨hw0, hw1, rfl⟩
          · clear Hways
            go_wp2_with fail
            go_region
            go_wp2_with fail
            go_meet
            exact ⟨rfl, rfl⟩
          · clear Hways
            go_wp2_with fail
            go_region
            go_wp2_with fail
            go_meet
            exact ⟨rfl, rfl⟩
          · clear Hways
            go_wp2_with fail
            go_region
            go_wp2_with fail
            go_meet
            exact ⟨rfl, rfl⟩
      case rest =>
        obtain ⟨rfl, rfl⟩ := hcut
        have Hbd : Hid (Below w1.heap.size w1 wr.drew) := hbw.out.drew
        have Hod : Hid (wr.drew.ownsRow w1.heap.size 66 3 u5 o.length (o.flatMap pointCells)) := hown.out
        have HBd := Lib.hid HBr.out.drew
        have hsd : w1.heap.size ≤ wr.drew.heap.size := hsw
        clear x0 x1 x2 q0 q1 q2 hbw hown hsw HBr Hways
        generalize wr.drew = wd at *
        have hx := fun x : Aft wd.heap.size wd => pt3_of (HBd.out.below x.below (show g < wd.heap.size by omega))
        have hx0 := fun x => (hx x).1
        have hx1 := fun x => (hx x).2.1
        have hx2 := fun x => (hx x).2.2
        have hy := fun x : Aft wd.heap.size wd => HCq.out x.world (Hbd.out.trans (x.below.mono hsd))
        have hy0 := fun x => (hy x).1
        have hy1 := fun x => (hy x).2.1
        have hy2 := fun x => (hy x).2.2
        cases L with
        | true =>
          as_aux_lemma =>
            clear hx0 hx1 hx2 hy0 hy1 hy2 hy
            cases b0 with
            | true =>
              go_wp2_with fail
              refine wp_region_aft wd.heap.size wd (by kernel_rfl) (by kernel_rfl) (Below.refl _ _) ?_
              repeat (go_big_quiet_step (fail))
              refine wpQuiet_nil ?_
              rintro _ ⟨x, rfl⟩
              have Hx : Hid (Below w1.heap.size w1 x.world) := Hbd.out.trans (x.below.mono hsd)
              have Ho : Hid (x.world.ownsRow w1.heap.size 66 3 u5 o.length (o.flatMap pointCells)) := own_only Hod.out (Only.new (fun _ => False) x.below) (fun _ _ h => h)
              clear hx
              generalize x.world = w3 at *
              go_wp2_with fail
              go_roundw
              case rel => exact ⟨k + 1, o, true, by omega, by go_num, rfl, by have := HN1.out; simp at this; exact Lib.hid this, Ho, Hx⟩
              case measure => simp [intOf]; omega
            | false =>
              go_wp2_with fail
              refine wp_region_aft wd.heap.size wd (by kernel_rfl) (by kernel_rfl) (Below.refl _ _) ?_
              repeat (go_big_quiet_step (fail))
              refine wpQuiet_nil ?_
              rintro _ ⟨x, rfl⟩
              have Hx : Hid (Below w1.heap.size w1 x.world) := Hbd.out.trans (x.below.mono hsd)
              have hsx := Hx.out.size
              have Ho : Hid (x.world.ownsRow w1.heap.size 66 3 u5 o.length (o.flatMap pointCells)) := own_only Hod.out (Only.new (fun _ => False) x.below) (fun _ _ h => h)
              obtain ⟨y0, y1, y2⟩ := hx x
              clear hx
              generalize x.world = w3 at *
              go_wp2_with (at_builtin; refine wpList_push _ rfl _ _ 27 rfl w1.heap.size 66 i0 _ 3 32 Tryz.underlying27 hi hz0 hz1 hz2 rfl (by decide) _ o.length _ (by rfl) Ho.out [.string pn, .int .i64 pt, .int .i64 pv] (by rfl) rfl (by simp [Value.oneCell']) hm1 hm3 w1 Hx.out hsx ?_; intro v8 w8 hown8 hb8)
              have Hown8 : Hid (w8.ownsRow w1.heap.size 66 3 v8 (o ++ [(pn, pt, pv)]).length ((o ++ [(pn, pt, pv)]).flatMap pointCells)) := by
                show World.ownsRow _ _ _ _ _ _ _
                rw [flat_one, List.length_append]; exact hown8
              have Hb8 := Lib.hid hb8
              clear hown8 hb8
              go_roundw
              case rel => exact ⟨k + 1, o ++ [(pn, pt, pv)], true, by omega, by go_num, rfl, by have := HN1.out; simp at this; exact Lib.hid this, Hown8, Hb8⟩
              case measure => simp [intOf]; omega
        | false =>
          as_aux_lemma =>
            clear hx hy
            cases b0 with
            | true =>
              go_wp2_with fail
              refine wp_region_aft wd.heap.size wd (by kernel_rfl) (by kernel_rfl) (Below.refl _ _) ?_
              repeat (go_big_quiet_step (fail))
              refine wpQuiet_nil ?_
              rintro _ ⟨x, rfl⟩
              have Hx : Hid (Below w1.heap.size w1 x.world) := Hbd.out.trans (x.below.mono hsd)
              have hsx := Hx.out.size
              have Ho : Hid (x.world.ownsRow w1.heap.size 66 3 u5 o.length (o.flatMap pointCells)) := own_only Hod.out (Only.new (fun _ => False) x.below) (fun _ _ h => h)
              have z0 := hy0 x
              have z1 := hy1 x
              have z2 := hy2 x
              clear hx0 hx1 hx2 hy0 hy1 hy2
              generalize x.world = w3 at *
              go_wp2_with (at_builtin; refine wpList_push _ rfl _ _ 27 rfl w1.heap.size 66 i0 _ 3 32 Tryz.underlying27 hi hz0 hz1 hz2 rfl (by decide) _ o.length _ (by rfl) Ho.out [.string qn, .int .i64 qt, .int .i64 qv] (by rfl) rfl (by simp [Value.oneCell']) hm1 hm3 w1 Hx.out hsx ?_; intro v8 w8 hown8 hb8)
              have Hown8 : Hid (w8.ownsRow w1.heap.size 66 3 v8 (o ++ [(qn, qt, qv)]).length ((o ++ [(qn, qt, qv)]).flatMap pointCells)) := by
                show World.ownsRow _ _ _ _ _ _ _
                rw [flat_one, List.length_append]; exact hown8
              have Hb8 := Lib.hid hb8
              clear hown8 hb8
              go_roundw
              case rel => exact ⟨k + 1, o ++ [(qn, qt, qv)], true, by omega, by go_num, rfl, by have := HN1.out; simp at this; exact Lib.hid this, Hown8, Hb8⟩
              case measure => simp [intOf]; omega
            | false =>
              go_wp2_with fail
              refine wp_region_aft wd.heap.size wd (by kernel_rfl) (by kernel_rfl) (Below.refl _ _) ?_
              repeat (go_big_quiet_step (first | (go_at_call 77; with_reducible exact aft_new (Nat.le_refl _) (Hid.out (hL _)))))
              refine wpQuiet_nil ?_
              rintro _ ⟨x, rfl⟩
              have Hx : Hid (Below w1.heap.size w1 x.world) := Hbd.out.trans (x.below.mono hsd)
              have hsx := Hx.out.size
              have Ho : Hid (x.world.ownsRow w1.heap.size 66 3 u5 o.length (o.flatMap pointCells)) := own_only Hod.out (Only.new (fun _ => False) x.below) (fun _ _ h => h)
              have z0 := hy0 x
              have z1 := hy1 x
              have z2 := hy2 x
              have y0 := hx0 x
              have y1 := hx1 x
              have y2 := hx2 x
              clear hx0 hx1 hx2 hy0 hy1 hy2
              generalize x.world = w3 at *
              cases ls with
              | false =>
                go_wp2_with (at_builtin; refine wpList_push _ rfl _ _ 27 rfl w1.heap.size 66 i0 _ 3 32 Tryz.underlying27 hi hz0 hz1 hz2 rfl (by decide) _ o.length _ (by rfl) Ho.out [.string qn, .int .i64 qt, .int .i64 qv] (by rfl) rfl (by simp [Value.oneCell']) hm1 hm3 w1 Hx.out hsx ?_; intro v8 w8 hown8 hb8)
                have Hown8 : Hid (w8.ownsRow w1.heap.size 66 3 v8 (o ++ [(qn, qt, qv)]).length ((o ++ [(qn, qt, qv)]).flatMap pointCells)) := by
                  show World.ownsRow _ _ _ _ _ _ _
                  rw [flat_one, List.length_append]; exact hown8
                have Hb8 := Lib.hid hb8
                clear hown8 hb8
                go_roundw
                case rel => exact ⟨k + 1, o ++ [(qn, qt, qv)], false, by omega, by go_num, rfl, by have := HN1.out; simp at this; exact Lib.hid this, Hown8, Hb8⟩
                case measure => simp [intOf]; omega
              | true =>
                go_wp2_with (first
                  | (at_builtin; refine wpList_push (o := ⟨some 49, _, _, _, _, _⟩) _ rfl _ _ 27 rfl w1.heap.size 66 i0 _ 3 32 Tryz.underlying27 hi hz0 hz1 hz2 rfl (by decide) _ o.length _ (by rfl) Ho.out [.string pn, .int .i64 pt, .int .i64 pv] (by rfl) rfl (by simp [Value.oneCell']) hm1 hm3 w1 Hx.out hsx ?_; intro v7 w7 hown7 hb7; obtain ⟨c0, c1, c2⟩ := HCq.out w7 hb7; have hsw7 := hb7.size; have Hown7 := Lib.hid hown7; have Hb7 := Lib.hid hb7; clear hown7 hb7)
                  | (at_builtin; refine wpList_push (o := ⟨some 58, _, _, _, _, _⟩) _ rfl _ _ 27 rfl w1.heap.size 66 i0 _ 3 32 Tryz.underlying27 hi hz0 hz1 hz2 rfl (by decide) _ (o.length + 1) _ (by rfl) Hown7.out [.string qn, .int .i64 qt, .int .i64 qv] (by rfl) rfl (by simp [Value.oneCell']) hm2 hm4 w1 Hb7.out hsw7 ?_; intro v8 w8 hown8 hb8))
                have Hown8 : Hid (w8.ownsRow w1.heap.size 66 3 v8 (o ++ [(pn, pt, pv)] ++ [(qn, qt, qv)]).length ((o ++ [(pn, pt, pv)] ++ [(qn, qt, qv)]).flatMap pointCells)) := by
                  show World.ownsRow _ _ _ _ _ _ _
                  rw [flat_one, flat_one, List.length_append, List.length_append]; exact hown8
                have Hb8 := Lib.hid hb8
                clear hown8 hb8
                go_roundw
                case rel => exact ⟨k + 1, o ++ [(pn, pt, pv)] ++ [(qn, qt, qv)], true, by omega, by go_num, rfl, by have := HN1.out; simp at this; simpa using Lib.hid this, Hown8, Hb8⟩
                case measure => simp [intOf]; omega
    · obtain rfl : k = ps.length := by omega
      have hR := HRes.out o b0 (by rw [← HE.out]; exact hst.out)
      have hol : o.length ≤ ps.length + 1 := by have := HK.out ps.length hk; rw [hst.out] at this; exact this
      have hltI : ¬ (ps.length : Int) < (ps.length : Int) := by omega
      obtain ⟨x0, x1, x2⟩ := pt3_of (HBb.out.below hbw.out (by omega))
      have HR2 := Lib.hid hR
      clear hR hst
      cases b0 with
      | true =>
        go_wp2_with fail
        go_ret
        refine ⟨_, rfl, by rw [HR2.out, ← Hg.out]; exact own_down hown.out (by omega), Hbb.out.trans (hbw.out.mono (by have := Hg.out; omega))⟩
      | false =>
        go_wp2_with (at_builtin; refine wpList_push _ rfl _ _ 27 rfl w1.heap.size 66 i0 _ 3 32 Tryz.underlying27 hi hz0 hz1 hz2 rfl (by decide) _ o.length _ (by rfl) hown.out [.string pn, .int .i64 pt, .int .i64 pv] (by rfl) rfl (by simp [Value.oneCell']) (by unfold maxLen; omega) (le32 (by omega)) w1 hbw.out hsw ?_; intro v8 w8 hown8 hb8)
        have Hown8 : Hid (w8.ownsRow w1.heap.size 66 3 v8 (o ++ [(pn, pt, pv)]).length ((o ++ [(pn, pt, pv)]).flatMap pointCells)) := by
          show World.ownsRow _ _ _ _ _ _ _
          rw [flat_one, List.length_append]; exact hown8
        have Hb8 := Lib.hid hb8
        clear hown8 hb8
        go_ret
        refine ⟨_, rfl, by rw [HR2.out, ← Hg.out]; exact own_down Hown8.out (by omega), Hbb.out.trans (Hb8.out.mono (by have := Hg.out; omega))⟩
end Go.Proofs.YtmnigoibbcigdaaGreat
/- The walk through the reference's open (chapter 10). -/
namespace Go.Proofs.YtmnigoibbcigdaaGreat
open Go.RowKit Go.Shelf
set_option linter.unusedVariables false

def Se.outK (ps : List Se.Row) (t : Int) (k : Nat) : List Se.Row := if Se.lo ps t < k then ps.take (Se.lo ps t) ++ Se.new t :: (ps.take k).drop (Se.lo ps t) else ps.take k
section
variable {ps : List Se.Row} {t : Int} {k : Nat}
theorem out_put (h : Se.lo ps t < k) (hk : k < ps.length) : Se.outK ps t (k + 1) = Se.outK ps t k ++ [ps[k]] := by
  unfold Se.outK
  rw [if_pos (by omega), if_pos h, List.take_succ_eq_append_getElem hk, List.drop_append_of_le_length (by rw [List.length_take]; omega)]
  simp
theorem out_not (h : k < Se.lo ps t) (hk : k < ps.length) : Se.outK ps t (k + 1) = Se.outK ps t k ++ [ps[k]] := by
  unfold Se.outK
  rw [if_neg (by omega), if_neg (by omega), List.take_succ_eq_append_getElem hk]
theorem out_at (h : k = Se.lo ps t) (hk : k < ps.length) : Se.outK ps t (k + 1) = Se.outK ps t k ++ [Se.new t] ++ [ps[k]] := by
  subst h
  unfold Se.outK
  rw [if_pos (by omega), if_neg (by omega), List.take_succ_eq_append_getElem hk, List.drop_left' (by rw [List.length_take]; omega)]
  simp
theorem out_end (h : Se.lo ps t < ps.length) : Se.outK ps t ps.length = Se.ins ps t := by
  unfold Se.outK Se.ins
  rw [if_pos h, List.take_length]
theorem out_last (h : ¬ Se.lo ps t < ps.length) : Se.outK ps t ps.length ++ [Se.new t] = Se.ins ps t := by
  have := Se.lo_le ps t
  have e : Se.lo ps t = ps.length := by omega
  unfold Se.outK Se.ins
  rw [if_neg h, e, List.take_length, List.drop_length]
theorem out_len (hk : k ≤ ps.length) : (Se.outK ps t k).length ≤ k + 1 := by
  unfold Se.outK
  split
  · simp; omega
  · simp; omega
end
theorem ne_of_none {ps : List Se.Row} {t : Int} (h : ¬ Se.idx ps t < ps.length) (k : Nat) (hk : k < ps.length) : ps[k].1 ≠ t := fun e => by
  apply h
  unfold Se.idx
  rw [List.findIdx_lt_length]
  exact ⟨ps[k], List.getElem_mem _, by simpa using e⟩
section
variable {P : Program}
theorem step_append_own {ops : Array Oper} {o : Oper} {a : Act} {K : Act → World → Prop} {Q : Exit → Act → World → Prop} {E : Prop} (w : World) (hgd : o.guard = none) (s x : Operand) (t : TypeId)
    (ho : o.op = .call { callee := .builtin .append, args := #[s, x], argTypes := #[t, t] })
    (base : Nat) (e : TypeId) (i : TypeInfo) (z : Value) (size bytes : Nat) (ht : P.underlying t = some (.slice e)) (hi : P.info? e = some i) (hz : i.zero = some z)
    (hsize : i.size = size) (hby : i.bytes = bytes) (hzs : z.cells.size = size) (hsz : 0 < size)
    (v : Value) (n : Nat) (xs : List Value) (hs : a.eval s = v) (hown : w.ownsRow base e size v n xs)
    (B : Nat) (A : Option Addr) (m c : Nat) (news : List Value) (hx : a.eval x = .slice A m c) (hr : Reads w B size A m news) (h1 : ∀ u ∈ news, u.oneCell' = true)
    (h63 : n + m ≤ maxLen) (hbytes : (n + m) * bytes ≤ 140737488355328) (hbase : base ≤ w.heap.size)
    (h : ∀ v' w', w'.ownsRow base e size v' (n + m) (xs ++ news) → w.grownBy w' v.ownBlock → (v'.ownBlock = v.ownBlock ∨ v'.ownBlock = some w.heap.size) → K (a.put o.dst v') w') :
    if Region.wanted o (yielded ops a.tmps) = true then Oper.wp P o a w K Q else E := by
  have hw : Region.wanted o (yielded ops a.tmps) = true := by simp [Region.wanted, hgd]
  rw [if_pos hw]
  exact wp_append_all w s x t ho base e i z size bytes ht hi hz hsize hby hzs hsz v n xs hs hown B A m c news hx hr h1 h63 hbytes hbase h
end
/-- what the last two appends leave -/
theorem ropen_fin {res : List Se.Row} {w W w7 w8 : World} {v7 v8 : Value} {a k : Nat} {xs ys : List Value} {o : Obj} (hb : Below w.heap.size w W) (hown7 : w7.ownsRow w.heap.size 96 4 v7 a xs) (hg7 : ((W.alloc o).drew).grownBy w7 (some W.heap.size)) (hg8 : w7.grownBy w8 v7.ownBlock)
    (hown8 : w8.ownsRow w.heap.size 96 4 v8 k ys) (hk : k = res.length) (hys : ys = res.flatMap rowCells) : OwnPost w res (.returned v8) w8 := by
  subst hk; subst hys
  have hs := hb.size
  have h1 : Below w.heap.size w ((W.alloc o).drew) := (hb.alloc hs _).drew
  have h2 : Below w.heap.size w w7 := h1.grown hg7 h1.size (fun j e => by cases e; exact hs)
  exact ⟨_, rfl, hown8, h2.grown hg8 h2.size (fun j e => (own_lt hown7 e).1)⟩
theorem reads_drop {W w7 : World} {base gq n cq m : Nat} {q : List Se.Row} {o : Obj} (hq : W.ownsRow base 96 4 (.slice (some ⟨gq, 0, none⟩) n cq) n (q.flatMap rowCells)) (hm : m < n) (hl : q.length = n) (hg7 : ((W.alloc o).drew).grownBy w7 (some W.heap.size)) :
    Reads w7 W.heap.size 4 (some ⟨gq, m * 4, none⟩) (n - m) ((q.drop m).flatMap rowCells) := by
  have hlt := (own_lt hq rfl).2
  have hb : Below W.heap.size W w7 := ((Below.refl _ _).alloc (Nat.le_refl _) _).drew.grown hg7 (by show _ ≤ (W.alloc o).heap.size; simp) (fun j e => by cases e; exact Nat.le_refl _)
  refine ⟨by rw [flat_length rowCells 4 (fun _ => rfl), List.length_drop, hl], fun _ => ⟨gq, m * 4, rfl, hlt, fun j u hu => ?_⟩⟩
  rw [← flat_drop rowCells 4 (fun _ => rfl), List.getElem?_drop] at hu
  exact (hb.cell (p := ⟨gq, m * 4 + j, none⟩) hlt).trans (own_cell hq hu)
theorem reads_take {W : World} {base gq n cq m : Nat} {q : List Se.Row} (o : Obj) (hq : W.ownsRow base 96 4 (.slice (some ⟨gq, 0, none⟩) n cq) n (q.flatMap rowCells)) (hm : m ≤ n) :
    Reads ((W.alloc o).drew) W.heap.size 4 (some ⟨gq, 0, none⟩) m ((q.take m).flatMap rowCells) := by
  have h := Reads.of_own (own_cut hq m hm)
  rw [flat_take rowCells 4 (fun _ => rfl)] at h
  exact (h.alloc (Nat.le_refl _) o).drewN 1
set_option maxRecDepth 100000 in
set_option maxHeartbeats 2000000 in
theorem ropen_any (A : Option Addr) (c : Nat) (ps : List Se.Row) (t : Int) (w : World) (B : Nat) (hr : Reads w B 4 A ps.length (ps.flatMap rowCells)) (hB : B ≤ w.heap.size) (hm : Se.mayB ps = true) (hnx : ¬ Se.idx ps t < ps.length) :
    Calls Tryz.prog 76 #[.slice A ps.length c, .int .i64 t] w (OwnPost w (Se.openR ps t)) := by
  have h4 := Se.may_len hm
  have hlo := Se.lo_le ps t
  obtain ⟨i0, hi, hz0, hz1, hz2⟩ := info_parts info_srow
  have HR := Lib.hid hr
  have Hne := Lib.hid (fun k hk => ne_of_none hnx k hk)
  have Hah : Hid (∀ j (hj : j < ps.length), j < Se.lo ps t → ps[j].1 < t) := fun j hj h => Se.lo_ahead j h
  have Hbe := Lib.hid (@Se.lo_behind ps t)
  have Hsm := Lib.hid (@open_small ps t)
  have Hbg := Lib.hid (@open_big ps t)
  have O1 := Lib.hid (fun k h hk => @out_put ps t k h hk)
  have O2 := Lib.hid (fun k h hk => @out_not ps t k h hk)
  have O3 := Lib.hid (fun k h hk => @out_at ps t k h hk)
  have O4 := Lib.hid (@out_end ps t)
  have O5 := Lib.hid (@out_last ps t)
  have O6 := Lib.hid (fun k hk => @out_len ps t k hk)
  have Oz : Hid (Se.outK ps t 0 = []) := by show _ = _; unfold Se.outK; simp
  have hil := Se.ins_len ps t
  clear hr hm hnx
  generalize Se.openR ps t = res at *
  generalize Se.ins ps t = q at *
  generalize Se.outK ps t = out at *
  generalize Se.lo ps t = lo at *
  go_enter Tryz.func76, Tryz.ntmps76
  go_wp2_with fail
  go_loopw [5, 6, 7] (fun v p i wr => ∃ k : Nat, k ≤ ps.length ∧ i = .int .i64 (k : Int) ∧ p = .bool (decide (lo < k)) ∧ Hid (wr.ownsRow w.heap.size 96 4 v (out k).length ((out k).flatMap rowCells)) ∧ Hid (Below w.heap.size w wr)) (fun _ _ i _ => ps.length - (intOf i).toNat)
  case atStart => exact ⟨0, Nat.zero_le _, rfl, by simp, Lib.hid (by show World.ownsRow _ _ _ _ _ _ _; rw [Oz.out]; exact own_nil _ _ _ _), Lib.hid (Below.refl _ _)⟩
  case round =>
    obtain ⟨k, hk, rfl, rfl, hown, hbw⟩ := hrel
    have hsw := hbw.out.size
    have hol := O6.out k hk
    by_cases hlt : k < ps.length
    · obtain ⟨b, off, rfl, hbl, hc⟩ := HR.out.2 (by omega)
      have hcx := fun (W : World) (hb : Below w.heap.size w W) => row_cells (wr := W) hlt hc (fun p hp => hb.cell (p := p) (by omega)) hbl
      have Hcx := Lib.hid hcx
      obtain ⟨hc0, hc1, hc2, hc3⟩ := hcx wr hbw.out
      have hne := Hne.out k hlt
      have Hah' := Lib.hid (fun h => Hah.out k hlt h)
      have hbe' : Hid (k = lo → t ≤ ps[k].1) := fun e => by
        have : ∀ j (hj : j < ps.length), j = k → t ≤ ps[j].1 → t ≤ ps[k].1 := fun j hj e h => by subst e; exact h
        exact this lo (by omega) e.symm (Hbe.out (by omega))
      have O1' := Lib.hid (fun h => O1.out k h hlt)
      have O2' := Lib.hid (fun h => O2.out k h hlt)
      have O3' := Lib.hid (fun h => O3.out k h hlt)
      have hrw : Hid (rowCells ps[k] = [.int .i64 ps[k].1, .int .i64 ps[k].2.1, .int .i64 ps[k].2.2.1, .int .i64 ps[k].2.2.2]) := rfl
      clear hc hcx Hne Hah Hbe O1 O2 O3 O4 O5 O6 Oz Hsm Hbg
      generalize hp : ps[k] = p at *
      obtain ⟨s0, s1, s2, s3⟩ := p
      simp only at hc0 hc1 hc2 hc3 hrw hne Hah' hbe' Hcx
      have Hp := Lib.hid hp
      clear hp
      by_cases hput : lo < k
      · have Hout := Lib.hid (O1'.out hput)
        have hd : decide (lo < k) = true := decide_eq_true hput
        rw [hd]
        clear O1' O2' O3' hbe' Hah'
        go_wp2_with (at_builtin; refine wpList_push _ rfl _ _ 26 rfl w.heap.size 96 i0 _ 4 32 Tryz.underlying26 hi hz0 hz1 hz2 rfl (by decide) _ (out k).length _ (by rfl) hown.out [.int .i64 s0, .int .i64 s1, .int .i64 s2, .int .i64 s3] (by rfl) rfl (by simp [Value.oneCell']) (by unfold maxLen; omega) (by omega) w hbw.out hsw ?_; intro v8 w8 hown8 hb8)
        have Hown8 : Hid (w8.ownsRow w.heap.size 96 4 v8 (out (k + 1)).length ((out (k + 1)).flatMap rowCells)) := by
          show World.ownsRow _ _ _ _ _ _ _
          rw [Hout.out, List.length_append, List.flatMap_append]; exact hown8
        have Hb8 := Lib.hid hb8
        clear hown8 hb8
        go_wp2_with fail
        go_roundw
        case rel => exact ⟨k + 1, by omega, by go_num, by rw [decide_eq_true (by omega : lo < k + 1)], Hown8, Hb8⟩
        case measure => simp [intOf]; omega
      · have hd : decide (lo < k) = false := decide_eq_false hput
        rw [hd]
        by_cases hat : k = lo
        · have hgt : t < s0 := by have := hbe'.out hat; omega
          have Hout := Lib.hid (O3'.out hat)
          have hd2 : decide (t < s0) = true := decide_eq_true hgt
          have Hat := Lib.hid hat
          clear O1' O2' O3' hbe' Hah' hat
          go_wp2_with (first
            | (at_builtin; refine wpList_push (o := ⟨some 33, _, _, _, _, _⟩) _ rfl _ _ 26 rfl w.heap.size 96 i0 _ 4 32 Tryz.underlying26 hi hz0 hz1 hz2 rfl (by decide) _ (out k).length _ (by rfl) hown.out [.int .i64 t, .int .i64 0, .int .i64 t, .int .i64 t] (by rfl) rfl (by simp [Value.oneCell']) (by unfold maxLen; omega) (by omega) w hbw.out hsw ?_; intro v7 w7 hown7 hb7; obtain ⟨gx0, gx1, gx2, gx3⟩ := Hcx.out w7 hb7; have hsw7 := hb7.size; have Hown7 := Lib.hid hown7; have Hb7 := Lib.hid hb7; clear hown7 hb7)
            | (at_builtin; refine wpList_push (o := ⟨some 40, _, _, _, _, _⟩) _ rfl _ _ 26 rfl w.heap.size 96 i0 _ 4 32 Tryz.underlying26 hi hz0 hz1 hz2 rfl (by decide) _ ((out k).length + 1) _ (by rfl) Hown7.out [.int .i64 s0, .int .i64 s1, .int .i64 s2, .int .i64 s3] (by rfl) rfl (by simp [Value.oneCell']) (by unfold maxLen; omega) (by omega) w Hb7.out hsw7 ?_; intro v8 w8 hown8 hb8))
          have Hown8 : Hid (w8.ownsRow w.heap.size 96 4 v8 (out (k + 1)).length ((out (k + 1)).flatMap rowCells)) := by
            show World.ownsRow _ _ _ _ _ _ _
            rw [Hout.out, List.length_append, List.length_append, List.flatMap_append, List.flatMap_append]; exact hown8
          have Hb8 := Lib.hid hb8
          clear hown8 hb8
          go_wp2_with fail
          go_roundw
          case rel => exact ⟨k + 1, by omega, by go_num, by rw [decide_eq_true (by have := Hat.out; omega : lo < k + 1)], Hown8, Hb8⟩
          case measure => simp [intOf]; omega
        · have hle : ¬ t < s0 := by have := Hah'.out (by omega); omega
          have Hout := Lib.hid (O2'.out (by omega))
          have hd2 : decide (t < s0) = false := decide_eq_false hle
          clear O1' O2' O3' hbe' Hah'
          go_wp2_with (at_builtin; refine wpList_push _ rfl _ _ 26 rfl w.heap.size 96 i0 _ 4 32 Tryz.underlying26 hi hz0 hz1 hz2 rfl (by decide) _ (out k).length _ (by rfl) hown.out [.int .i64 s0, .int .i64 s1, .int .i64 s2, .int .i64 s3] (by rfl) rfl (by simp [Value.oneCell']) (by unfold maxLen; omega) (by omega) w hbw.out hsw ?_; intro v8 w8 hown8 hb8)
          have Hown8 : Hid (w8.ownsRow w.heap.size 96 4 v8 (out (k + 1)).length ((out (k + 1)).flatMap rowCells)) := by
            show World.ownsRow _ _ _ _ _ _ _
            rw [Hout.out, List.length_append, List.flatMap_append]; exact hown8
          have Hb8 := Lib.hid hb8
          clear hown8 hb8
          go_wp2_with fail
          go_roundw
          case rel => exact ⟨k + 1, by omega, by go_num, by rw [decide_eq_false (by omega : ¬ lo < k + 1)], Hown8, Hb8⟩
          case measure => simp [intOf]; omega
    · obtain rfl : k = ps.length := by omega
      by_cases hput : lo < ps.length
      · have hq := O4.out hput
        rw [hq, hil] at hown
        obtain ⟨Aq, cq, rfl, hnq, _⟩ := own_slice hown.out
        obtain ⟨gq, rfl, hgq1, hgq2⟩ := own_some hown.out (by omega)
        have Hq := Lib.hid hown.out
        have Hbq := Lib.hid hbw.out
        obtain ⟨wq, hwq⟩ : ∃ wq, wq = wr := ⟨_, rfl⟩
        subst hwq
        have hd : decide (lo < ps.length) = true := decide_eq_true hput
        rw [hd]
        clear hown hbw O1 O2 O3 O4 O5 O6 Oz Hne Hah Hbe hq
        by_cases h3 : ps.length + 1 ≤ 4
        · have Hres : Hid (res = q) := Hsm.out h3
          have hlen : ((ps.length : Int) + 1 ≤ 4) := by omega
          clear Hsm Hbg
          go_wp2_with fail
          go_ret
          exact ⟨_, rfl, by rw [Hres.out, hil]; exact Hq.out, Hbq.out⟩
        · have Hres := Lib.hid (Hbg.out h3)
          have hlen : ¬ ((ps.length : Int) + 1 ≤ 4) := by omega
          clear Hsm Hbg
          go_wp2_with fail
          have HC := fun k hk => Lib.hid (row_own_cells Hq.out k hk)
          have HLs := Lib.hid (fun j hj => least_step q j hj)
          have HLl := Lib.hid (fun j => Se.leastK_le q j)
          go_loopw [8, 9] (fun l i wx => ∃ j n m : Nat, 1 ≤ j ∧ j ≤ ps.length + 1 ∧ i = .int .i64 (j : Int) ∧ l = .int .i64 (m : Int) ∧ Hid (m = Se.leastK q j) ∧ wx = wq.drewN n) (fun _ i _ => ps.length + 1 - (intOf i).toNat)
          case atStart => exact ⟨1, 0, 0, Nat.le_refl _, by omega, rfl, rfl, Lib.hid (by show _ = _; rw [Se.leastK, Se.leastK]; simp), rfl⟩
          case round =>
            obtain ⟨j, n, m, hj1, hj, rfl, rfl, hmk, rfl⟩ := hrel
            have hml : m ≤ j - 1 := by rw [hmk.out]; exact HLl.out j
            by_cases hlt2 : j < ps.length + 1
            · have hc1 := (HC j (by omega)).out.2.2.2
              have hc2 := (HC m (by omega)).out.2.2.2
              have hst := HLs.out j (by omega)
              have hst2 : Hid (Se.leastK q (j + 1) = if (q[j]'(by omega)).2.2.2 < (q[m]'(by omega)).2.2.2 then j else m) := by
                show _ = _
                rw [hst]
                have : ∀ k (hk : k < q.length), k = m → (if (q[j]'(by omega)).2.2.2 < q[k].2.2.2 then j else k) = (if (q[j]'(by omega)).2.2.2 < (q[m]'(by omega)).2.2.2 then j else m) := fun k hk e => by subst e; rfl
                exact this _ _ hmk.out.symm
              clear hst
              generalize (q[j]'(by omega)).2.2.2 = x at *
              generalize (q[m]'(by omega)).2.2.2 = y at *
              by_cases hxy : x < y
              · have hF : Hid (j = Se.leastK q (j + 1)) := by show _ = _; rw [hst2.out, if_pos hxy]
                have hd : decide (x < y) = true := decide_eq_true hxy
                clear hst2
                go_wp2_with fail
                go_quiet (fail)
                go_wp2_with fail
                go_roundw
                case rel => exact ⟨j + 1, n + nq, j, by omega, by omega, by go_num, rfl, hF, by first | rfl | rw [World.drewN_drewN]⟩
                case measure => simp [intOf]; omega
              · have hF : Hid (m = Se.leastK q (j + 1)) := by show _ = _; rw [hst2.out, if_neg hxy]
                have hd : decide (x < y) = false := decide_eq_false hxy
                clear hst2
                go_wp2_with fail
                go_quiet (fail)
                go_wp2_with fail
                go_roundw
                case rel => exact ⟨j + 1, n + nq, m, by omega, by omega, by go_num, rfl, hF, by first | rfl | rw [World.drewN_drewN]⟩
                case measure => simp [intOf]; omega
            · obtain rfl : j = ps.length + 1 := by omega
              have Hres2 : Hid (res = q.eraseIdx m) := by show _ = _; rw [Hres.out, hil, ← hmk.out]
              have hml' : m ≤ ps.length := by omega
              clear hmk HC HLs HLl
              have hmm : (m : Int) ≤ (ps.length : Int) + 1 := by omega
              have hw1 : IntKind.i64.wrap ((m : Int) + 1) = (m : Int) + 1 := by rw [IntKind.wrap_i64]; omega
              have hbs := Hbq.out.size
              have HqW := Lib.hid (own_drewN Hq.out n)
              have HbW := Lib.hid (below_drewN Hbq.out n)
              have hsW : w.heap.size ≤ (wq.drewN n).heap.size := hbs
              generalize wq.drewN n = W at *
              have Ho0 : Hid (((W.alloc (.cells #[] 96)).drew).ownsRow w.heap.size 96 4 (.slice (some ⟨W.heap.size, 0, none⟩) 0 0) 0 []) := own_drewN (own_empty W w.heap.size 96 4 hsW) 1
              have hbs7 : w.heap.size ≤ ((W.alloc (.cells #[] 96)).drew).heap.size := by show _ ≤ (W.alloc _).heap.size; simp; omega
              have Hr1 := Lib.hid (reads_take (.cells #[] 96) HqW.out (show m ≤ ps.length + 1 by omega))
              have mixed : Tryz.prog.follows .mixedOrders = true := by kernel_rfl
              have htn : ((m : Int) + 1).toNat = m + 1 := by omega
              have hb1 : (0 : Int) ≤ (m : Int) + 1 := by omega
              have hmc : m ≤ cq := by omega
              have hmc0 : ¬ (cq = 0) := by omega
              have hlee : (q.eraseIdx m).length = ps.length := by rw [List.length_eraseIdx_of_lt (by omega), hil]; omega
              by_cases hmn : m = ps.length
              · have hdn : q.drop (m + 1) = [] := List.drop_eq_nil_of_le (by omega)
                have HR2 : Hid (∀ w7, ((W.alloc (.cells #[] 96)).drew).grownBy w7 (some W.heap.size) → ∀ A, Reads w7 W.heap.size 4 A 0 []) := fun _ _ _ => Reads.none_
                have Hk : Hid (0 + m + 0 = res.length) := by show _ = _; rw [Hres2.out, hlee]; omega
                have Hys : Hid ([] ++ (q.take m).flatMap rowCells ++ [] = res.flatMap rowCells) := by show _ = _; rw [Hres2.out, List.eraseIdx_eq_take_drop_succ, hdn]; simp
                have hmx : (m : Int) + 1 ≤ (ps.length : Int) + 1 := by omega
                clear Hres2 hlee hdn
                subst hmn
                by_cases hce : cq = ps.length + 1
                · subst hce
                  go_wp2_with fail
                  go_region_law_o (first
                    | (refine step_append_own (o := ⟨some 76, _, _, _, _, _⟩) _ rfl (.tmp 72) (.tmp 75) 26 rfl w.heap.size 96 i0 _ 4 32 Tryz.underlying26 hi hz0 hz1 hz2 rfl (by decide) (.slice (some ⟨W.heap.size, 0, none⟩) 0 0) 0 [] (by simp [Act.eval]) Ho0.out W.heap.size (some ⟨gq, 0, none⟩) ps.length (ps.length + 1) _ (by simp [Act.eval]) Hr1.out (rowCells_one _) (by unfold maxLen; omega) (by omega) hbs7 ?_; intro v7 w7 hown7 hg7 hor7; have Hown7 := Lib.hid hown7; have Hg7 := Lib.hid hg7; have Hr2 := Lib.hid (HR2.out w7 hg7 (some ⟨gq, 0, none⟩)); have hs7 := Nat.le_trans hbs7 hg7.size; clear hown7 hg7 hor7)
                    | (refine step_append_own (o := ⟨some 81, _, _, _, _, _⟩) _ rfl (.tmp 76) (.tmp 80) 26 rfl w.heap.size 96 i0 _ 4 32 Tryz.underlying26 hi hz0 hz1 hz2 rfl (by decide) v7 (0 + ps.length) _ (by simp [Act.eval]) Hown7.out W.heap.size (some ⟨gq, 0, none⟩) 0 0 _ (by simp [Act.eval]) Hr2.out (by simp) (by unfold maxLen; omega) (by omega) hs7 ?_; intro v8 w8 hown8 hg8 hor8; have Hfin := Lib.hid (ropen_fin HbW.out Hown7.out Hg7.out hg8 hown8 Hk.out Hys.out); clear hown8 hg8 hor8))
                  all_goals
                    go_wp2_with fail
                    go_ret
                    exact Hfin.out
                · go_wp2_with fail
                  go_region_law_o (first
                    | (refine step_append_own (o := ⟨some 76, _, _, _, _, _⟩) _ rfl (.tmp 72) (.tmp 75) 26 rfl w.heap.size 96 i0 _ 4 32 Tryz.underlying26 hi hz0 hz1 hz2 rfl (by decide) (.slice (some ⟨W.heap.size, 0, none⟩) 0 0) 0 [] (by simp [Act.eval]) Ho0.out W.heap.size (some ⟨gq, 0, none⟩) ps.length cq _ (by simp [Act.eval]) Hr1.out (rowCells_one _) (by unfold maxLen; omega) (by omega) hbs7 ?_; intro v7 w7 hown7 hg7 hor7; have Hown7 := Lib.hid hown7; have Hg7 := Lib.hid hg7; have Hr2 := Lib.hid (HR2.out w7 hg7 (some ⟨gq, (ps.length + 1) * 4, none⟩)); have hs7 := Nat.le_trans hbs7 hg7.size; clear hown7 hg7 hor7)
                    | (refine step_append_own (o := ⟨some 81, _, _, _, _, _⟩) _ rfl (.tmp 76) (.tmp 80) 26 rfl w.heap.size 96 i0 _ 4 32 Tryz.underlying26 hi hz0 hz1 hz2 rfl (by decide) v7 (0 + ps.length) _ (by simp [Act.eval]) Hown7.out W.heap.size (some ⟨gq, (ps.length + 1) * 4, none⟩) 0 (cq - (ps.length + 1)) _ (by simp [Act.eval]) Hr2.out (by simp) (by unfold maxLen; omega) (by omega) hs7 ?_; intro v8 w8 hown8 hg8 hor8; have Hfin := Lib.hid (ropen_fin HbW.out Hown7.out Hg7.out hg8 hown8 Hk.out Hys.out); clear hown8 hg8 hor8))
                  all_goals
                    go_wp2_with fail
                    go_ret
                    exact Hfin.out
              · have HR2 : Hid (∀ w7, ((W.alloc (.cells #[] 96)).drew).grownBy w7 (some W.heap.size) → Reads w7 W.heap.size 4 (some ⟨gq, (m + 1) * 4, none⟩) (ps.length + 1 - (m + 1)) ((q.drop (m + 1)).flatMap rowCells)) := fun w7 hg7 => reads_drop HqW.out (by omega) hil hg7
                rw [show ps.length + 1 - (m + 1) = ps.length - m from by omega] at HR2
                have Hk : Hid (0 + m + (ps.length - m) = res.length) := by show _ = _; rw [Hres2.out, hlee]; omega
                have Hys : Hid ([] ++ (q.take m).flatMap rowCells ++ (q.drop (m + 1)).flatMap rowCells = res.flatMap rowCells) := by show _ = _; rw [Hres2.out, List.eraseIdx_eq_take_drop_succ]; simp
                have hce : ¬ (cq = m + 1) := by omega
                have hmx : (m : Int) + 1 ≤ (ps.length : Int) + 1 := by omega
                clear Hres2 hlee
                go_wp2_with fail
                go_region_law_o (first
                  | (refine step_append_own (o := ⟨some 76, _, _, _, _, _⟩) _ rfl (.tmp 72) (.tmp 75) 26 rfl w.heap.size 96 i0 _ 4 32 Tryz.underlying26 hi hz0 hz1 hz2 rfl (by decide) (.slice (some ⟨W.heap.size, 0, none⟩) 0 0) 0 [] (by simp [Act.eval]) Ho0.out W.heap.size (some ⟨gq, 0, none⟩) m cq _ (by simp [Act.eval]) Hr1.out (rowCells_one _) (by unfold maxLen; omega) (by omega) hbs7 ?_; intro v7 w7 hown7 hg7 hor7; have Hown7 := Lib.hid hown7; have Hg7 := Lib.hid hg7; have Hr2 := Lib.hid (HR2.out w7 hg7); have hs7 := Nat.le_trans hbs7 hg7.size; clear hown7 hg7 hor7)
                  | (refine step_append_own (o := ⟨some 81, _, _, _, _, _⟩) _ rfl (.tmp 76) (.tmp 80) 26 rfl w.heap.size 96 i0 _ 4 32 Tryz.underlying26 hi hz0 hz1 hz2 rfl (by decide) v7 (0 + m) _ (by simp [Act.eval]) Hown7.out W.heap.size (some ⟨gq, (m + 1) * 4, none⟩) (ps.length - m) (cq - (m + 1)) _ (by simp [Act.eval]) Hr2.out (rowCells_one _) (by unfold maxLen; omega) (by omega) hs7 ?_; intro v8 w8 hown8 hg8 hor8; have Hfin := Lib.hid (ropen_fin HbW.out Hown7.out Hg7.out hg8 hown8 Hk.out Hys.out); clear hown8 hg8 hor8))
                all_goals
                  go_wp2_with fail
                  go_ret
                  exact Hfin.out
      · have hq := O5.out hput
        have hln : (out ps.length).length = ps.length := by have := congrArg List.length hq; rw [List.length_append, hil] at this; simpa using this
        have hd : decide (lo < ps.length) = false := decide_eq_false hput
        rw [hd]
        have hqc : (out ps.length).flatMap rowCells ++ [.int .i64 t, .int .i64 0, .int .i64 t, .int .i64 t] = q.flatMap rowCells := by rw [← hq, List.flatMap_append]; rfl
        rw [hln] at hown
        have Hqc := Lib.hid hqc
        clear O1 O2 O3 O4 O5 O6 Oz Hne Hah Hbe hq hln hqc hol
        by_cases h3 : ps.length + 1 ≤ 4
        · have Hres : Hid (res = q) := Hsm.out h3
          have hlen : ((ps.length : Int) + 1 ≤ 4) := by omega
          clear Hsm Hbg
          go_wp2_with (at_builtin; refine wpList_push _ rfl _ _ 26 rfl w.heap.size 96 i0 _ 4 32 Tryz.underlying26 hi hz0 hz1 hz2 rfl (by decide) _ ps.length _ (by rfl) hown.out [.int .i64 t, .int .i64 0, .int .i64 t, .int .i64 t] (by rfl) rfl (by simp [Value.oneCell']) (by unfold maxLen; omega) (by omega) w hbw.out hsw ?_; intro v7 wq hown7 hb7; rw [Hqc.out] at hown7; obtain ⟨gq, cq, rfl, hgq1, hgq2⟩ := hown7.form (by omega); have hcq := (own_cap hown7).1; have Hq := Lib.hid hown7; have Hbq := Lib.hid hb7; clear hown7 hb7)
          go_ret
          exact ⟨_, rfl, by rw [Hres.out, hil]; exact Hq.out, Hbq.out⟩
        · have Hres := Lib.hid (Hbg.out h3)
          have hlen : ¬ ((ps.length : Int) + 1 ≤ 4) := by omega
          clear Hsm Hbg
          go_wp2_with (at_builtin; refine wpList_push _ rfl _ _ 26 rfl w.heap.size 96 i0 _ 4 32 Tryz.underlying26 hi hz0 hz1 hz2 rfl (by decide) _ ps.length _ (by rfl) hown.out [.int .i64 t, .int .i64 0, .int .i64 t, .int .i64 t] (by rfl) rfl (by simp [Value.oneCell']) (by unfold maxLen; omega) (by omega) w hbw.out hsw ?_; intro v7 wq hown7 hb7; rw [Hqc.out] at hown7; obtain ⟨gq, cq, rfl, hgq1, hgq2⟩ := hown7.form (by omega); have hcq := (own_cap hown7).1; have Hq := Lib.hid hown7; have Hbq := Lib.hid hb7; clear hown7 hb7)
          have HC := fun k hk => Lib.hid (row_own_cells Hq.out k hk)
          have HLs := Lib.hid (fun j hj => least_step q j hj)
          have HLl := Lib.hid (fun j => Se.leastK_le q j)
          go_loopw [8, 9] (fun l i wx => ∃ j n m : Nat, 1 ≤ j ∧ j ≤ ps.length + 1 ∧ i = .int .i64 (j : Int) ∧ l = .int .i64 (m : Int) ∧ Hid (m = Se.leastK q j) ∧ wx = wq.drewN n) (fun _ i _ => ps.length + 1 - (intOf i).toNat)
          case atStart => exact ⟨1, 0, 0, Nat.le_refl _, by omega, rfl, rfl, Lib.hid (by show _ = _; rw [Se.leastK, Se.leastK]; simp), rfl⟩
          case round =>
            obtain ⟨j, n, m, hj1, hj, rfl, rfl, hmk, rfl⟩ := hrel
            have hml : m ≤ j - 1 := by rw [hmk.out]; exact HLl.out j
            by_cases hlt2 : j < ps.length + 1
            · have hc1 := (HC j (by omega)).out.2.2.2
              have hc2 := (HC m (by omega)).out.2.2.2
              have hst := HLs.out j (by omega)
              have hst2 : Hid (Se.leastK q (j + 1) = if (q[j]'(by omega)).2.2.2 < (q[m]'(by omega)).2.2.2 then j else m) := by
                show _ = _
                rw [hst]
                have : ∀ k (hk : k < q.length), k = m → (if (q[j]'(by omega)).2.2.2 < q[k].2.2.2 then j else k) = (if (q[j]'(by omega)).2.2.2 < (q[m]'(by omega)).2.2.2 then j else m) := fun k hk e => by subst e; rfl
                exact this _ _ hmk.out.symm
              clear hst
              generalize (q[j]'(by omega)).2.2.2 = x at *
              generalize (q[m]'(by omega)).2.2.2 = y at *
              by_cases hxy : x < y
              · have hF : Hid (j = Se.leastK q (j + 1)) := by show _ = _; rw [hst2.out, if_pos hxy]
                have hd : decide (x < y) = true := decide_eq_true hxy
                clear hst2
                go_wp2_with fail
                go_quiet (fail)
                go_wp2_with fail
                go_roundw
                case rel => exact ⟨j + 1, n + nq, j, by omega, by omega, by go_num, rfl, hF, by first | rfl | rw [World.drewN_drewN]⟩
                case measure => simp [intOf]; omega
              · have hF : Hid (m = Se.leastK q (j + 1)) := by show _ = _; rw [hst2.out, if_neg hxy]
                have hd : decide (x < y) = false := decide_eq_false hxy
                clear hst2
                go_wp2_with fail
                go_quiet (fail)
                go_wp2_with fail
                go_roundw
                case rel => exact ⟨j + 1, n + nq, m, by omega, by omega, by go_num, rfl, hF, by first | rfl | rw [World.drewN_drewN]⟩
                case measure => simp [intOf]; omega
            · obtain rfl : j = ps.length + 1 := by omega
              have Hres2 : Hid (res = q.eraseIdx m) := by show _ = _; rw [Hres.out, hil, ← hmk.out]
              have hml' : m ≤ ps.length := by omega
              clear hmk HC HLs HLl
              have hmm : (m : Int) ≤ (ps.length : Int) + 1 := by omega
              have hw1 : IntKind.i64.wrap ((m : Int) + 1) = (m : Int) + 1 := by rw [IntKind.wrap_i64]; omega
              have hbs := Hbq.out.size
              have HqW := Lib.hid (own_drewN Hq.out n)
              have HbW := Lib.hid (below_drewN Hbq.out n)
              have hsW : w.heap.size ≤ (wq.drewN n).heap.size := hbs
              generalize wq.drewN n = W at *
              have Ho0 : Hid (((W.alloc (.cells #[] 96)).drew).ownsRow w.heap.size 96 4 (.slice (some ⟨W.heap.size, 0, none⟩) 0 0) 0 []) := own_drewN (own_empty W w.heap.size 96 4 hsW) 1
              have hbs7 : w.heap.size ≤ ((W.alloc (.cells #[] 96)).drew).heap.size := by show _ ≤ (W.alloc _).heap.size; simp; omega
              have Hr1 := Lib.hid (reads_take (.cells #[] 96) HqW.out (show m ≤ ps.length + 1 by omega))
              have mixed : Tryz.prog.follows .mixedOrders = true := by kernel_rfl
              have htn : ((m : Int) + 1).toNat = m + 1 := by omega
              have hb1 : (0 : Int) ≤ (m : Int) + 1 := by omega
              have hmc : m ≤ cq := by omega
              have hmc0 : ¬ (cq = 0) := by omega
              have hlee : (q.eraseIdx m).length = ps.length := by rw [List.length_eraseIdx_of_lt (by omega), hil]; omega
              by_cases hmn : m = ps.length
              · have hdn : q.drop (m + 1) = [] := List.drop_eq_nil_of_le (by omega)
                have HR2 : Hid (∀ w7, ((W.alloc (.cells #[] 96)).drew).grownBy w7 (some W.heap.size) → ∀ A, Reads w7 W.heap.size 4 A 0 []) := fun _ _ _ => Reads.none_
                have Hk : Hid (0 + m + 0 = res.length) := by show _ = _; rw [Hres2.out, hlee]; omega
                have Hys : Hid ([] ++ (q.take m).flatMap rowCells ++ [] = res.flatMap rowCells) := by show _ = _; rw [Hres2.out, List.eraseIdx_eq_take_drop_succ, hdn]; simp
                have hmx : (m : Int) + 1 ≤ (ps.length : Int) + 1 := by omega
                clear Hres2 hlee hdn
                subst hmn
                by_cases hce : cq = ps.length + 1
                · subst hce
                  go_wp2_with fail
                  go_region_law_o (first
                    | (refine step_append_own (o := ⟨some 76, _, _, _, _, _⟩) _ rfl (.tmp 72) (.tmp 75) 26 rfl w.heap.size 96 i0 _ 4 32 Tryz.underlying26 hi hz0 hz1 hz2 rfl (by decide) (.slice (some ⟨W.heap.size, 0, none⟩) 0 0) 0 [] (by simp [Act.eval]) Ho0.out W.heap.size (some ⟨gq, 0, none⟩) ps.length (ps.length + 1) _ (by simp [Act.eval]) Hr1.out (rowCells_one _) (by unfold maxLen; omega) (by omega) hbs7 ?_; intro v7 w7 hown7 hg7 hor7; have Hown7 := Lib.hid hown7; have Hg7 := Lib.hid hg7; have Hr2 := Lib.hid (HR2.out w7 hg7 (some ⟨gq, 0, none⟩)); have hs7 := Nat.le_trans hbs7 hg7.size; clear hown7 hg7 hor7)
                    | (refine step_append_own (o := ⟨some 81, _, _, _, _, _⟩) _ rfl (.tmp 76) (.tmp 80) 26 rfl w.heap.size 96 i0 _ 4 32 Tryz.underlying26 hi hz0 hz1 hz2 rfl (by decide) v7 (0 + ps.length) _ (by simp [Act.eval]) Hown7.out W.heap.size (some ⟨gq, 0, none⟩) 0 0 _ (by simp [Act.eval]) Hr2.out (by simp) (by unfold maxLen; omega) (by omega) hs7 ?_; intro v8 w8 hown8 hg8 hor8; have Hfin := Lib.hid (ropen_fin HbW.out Hown7.out Hg7.out hg8 hown8 Hk.out Hys.out); clear hown8 hg8 hor8))
                  all_goals
                    go_wp2_with fail
                    go_ret
                    exact Hfin.out
                · go_wp2_with fail
                  go_region_law_o (first
                    | (refine step_append_own (o := ⟨some 76, _, _, _, _, _⟩) _ rfl (.tmp 72) (.tmp 75) 26 rfl w.heap.size 96 i0 _ 4 32 Tryz.underlying26 hi hz0 hz1 hz2 rfl (by decide) (.slice (some ⟨W.heap.size, 0, none⟩) 0 0) 0 [] (by simp [Act.eval]) Ho0.out W.heap.size (some ⟨gq, 0, none⟩) ps.length cq _ (by simp [Act.eval]) Hr1.out (rowCells_one _) (by unfold maxLen; omega) (by omega) hbs7 ?_; intro v7 w7 hown7 hg7 hor7; have Hown7 := Lib.hid hown7; have Hg7 := Lib.hid hg7; have Hr2 := Lib.hid (HR2.out w7 hg7 (some ⟨gq, (ps.length + 1) * 4, none⟩)); have hs7 := Nat.le_trans hbs7 hg7.size; clear hown7 hg7 hor7)
                    | (refine step_append_own (o := ⟨some 81, _, _, _, _, _⟩) _ rfl (.tmp 76) (.tmp 80) 26 rfl w.heap.size 96 i0 _ 4 32 Tryz.underlying26 hi hz0 hz1 hz2 rfl (by decide) v7 (0 + ps.length) _ (by simp [Act.eval]) Hown7.out W.heap.size (some ⟨gq, (ps.length + 1) * 4, none⟩) 0 (cq - (ps.length + 1)) _ (by simp [Act.eval]) Hr2.out (by simp) (by unfold maxLen; omega) (by omega) hs7 ?_; intro v8 w8 hown8 hg8 hor8; have Hfin := Lib.hid (ropen_fin HbW.out Hown7.out Hg7.out hg8 hown8 Hk.out Hys.out); clear hown8 hg8 hor8))
                  all_goals
                    go_wp2_with fail
                    go_ret
                    exact Hfin.out
              · have HR2 : Hid (∀ w7, ((W.alloc (.cells #[] 96)).drew).grownBy w7 (some W.heap.size) → Reads w7 W.heap.size 4 (some ⟨gq, (m + 1) * 4, none⟩) (ps.length + 1 - (m + 1)) ((q.drop (m + 1)).flatMap rowCells)) := fun w7 hg7 => reads_drop HqW.out (by omega) hil hg7
                rw [show ps.length + 1 - (m + 1) = ps.length - m from by omega] at HR2
                have Hk : Hid (0 + m + (ps.length - m) = res.length) := by show _ = _; rw [Hres2.out, hlee]; omega
                have Hys : Hid ([] ++ (q.take m).flatMap rowCells ++ (q.drop (m + 1)).flatMap rowCells = res.flatMap rowCells) := by show _ = _; rw [Hres2.out, List.eraseIdx_eq_take_drop_succ]; simp
                have hce : ¬ (cq = m + 1) := by omega
                have hmx : (m : Int) + 1 ≤ (ps.length : Int) + 1 := by omega
                clear Hres2 hlee
                go_wp2_with fail
                go_region_law_o (first
                  | (refine step_append_own (o := ⟨some 76, _, _, _, _, _⟩) _ rfl (.tmp 72) (.tmp 75) 26 rfl w.heap.size 96 i0 _ 4 32 Tryz.underlying26 hi hz0 hz1 hz2 rfl (by decide) (.slice (some ⟨W.heap.size, 0, none⟩) 0 0) 0 [] (by simp [Act.eval]) Ho0.out W.heap.size (some ⟨gq, 0, none⟩) m cq _ (by simp [Act.eval]) Hr1.out (rowCells_one _) (by unfold maxLen; omega) (by omega) hbs7 ?_; intro v7 w7 hown7 hg7 hor7; have Hown7 := Lib.hid hown7; have Hg7 := Lib.hid hg7; have Hr2 := Lib.hid (HR2.out w7 hg7); have hs7 := Nat.le_trans hbs7 hg7.size; clear hown7 hg7 hor7)
                  | (refine step_append_own (o := ⟨some 81, _, _, _, _, _⟩) _ rfl (.tmp 76) (.tmp 80) 26 rfl w.heap.size 96 i0 _ 4 32 Tryz.underlying26 hi hz0 hz1 hz2 rfl (by decide) v7 (0 + m) _ (by simp [Act.eval]) Hown7.out W.heap.size (some ⟨gq, (m + 1) * 4, none⟩) (ps.length - m) (cq - (m + 1)) _ (by simp [Act.eval]) Hr2.out (rowCells_one _) (by unfold maxLen; omega) (by omega) hs7 ?_; intro v8 w8 hown8 hg8 hor8; have Hfin := Lib.hid (ropen_fin HbW.out Hown7.out Hg7.out hg8 hown8 Hk.out Hys.out); clear hown8 hg8 hor8))
                all_goals
                  go_wp2_with fail
                  go_ret
                  exact Hfin.out
end Go.Proofs.YtmnigoibbcigdaaGreat
/- The walk through the reference's Apply (chapter 10). -/
namespace Go.Proofs.YtmnigoibbcigdaaGreat
open Go.RowKit Go.Shelf
set_option linter.unusedVariables false

theorem flat_set4 (ps : List Se.Row) (k : Nat) (hk : k < ps.length) (r : Se.Row) : setL (ps.flatMap rowCells) (k * 4) (rowCells r) = (ps.set k r).flatMap rowCells := by
  have hl : (ps.flatMap rowCells).length = ps.length * 4 := flat_length rowCells 4 (fun _ => rfl) ps
  rw [setL_eq _ _ _ (by rw [hl]; show k * 4 + 4 ≤ _; omega), show k * 4 + (rowCells r).length = (k + 1) * 4 from by show k * 4 + 4 = _; omega, flat_take rowCells 4 (fun _ => rfl), flat_drop rowCells 4 (fun _ => rfl), List.set_eq_take_append_cons_drop, if_pos hk, List.flatMap_append, List.flatMap_cons, List.append_assoc]
set_option maxRecDepth 100000 in
set_option maxHeartbeats 4000000 in
theorem rapply_any (A : Option Addr) (c : Nat) (ps : List Se.Row) (ev ec es en t : Int) (Ab : Option Addr) (nb cb : Nat) (w : World) (B : Nat) (hr : Reads w B 4 A ps.length (ps.flatMap rowCells)) (hB : B ≤ w.heap.size) (hn : ps.length * 32 ≤ 140737488355328) :
    Calls Tryz.prog 23 #[.slice A ps.length c, .agg (entryCells ev ec es en (.slice Ab nb cb)), .int .i64 t] w (ApplyPost w (Se.applyR ps es en t)) := by
  have HNo := Lib.hid (@ap_no ps es en t)
  have HOp := Lib.hid (@ap_open ps es en t)
  have HGo := Lib.hid (@ap_gone ps es en t)
  have HAg := Lib.hid (@ap_again ps es en t)
  have HDo := Lib.hid (@ap_done ps es en t)
  have hE := Blk.new w 36 (entryCells ev ec es en (.slice Ab nb cb))
  have hb1 : Below w.heap.size w (w.alloc (.cells (entryCells ev ec es en (.slice Ab nb cb)) 36)) := (Below.refl _ _).alloc (Nat.le_refl _) _
  have HE := Lib.hid hE
  have Hb1 := Lib.hid hb1
  have Hrd0 := Lib.hid hr
  have HCo := fun W (hb : Below w.heap.size w W) => Lib.hid (rcopied_any A c ps W B (Hrd0.out.keep (fun p hp => hb.cell (by omega))) (by have := hb.size; omega) hn)
  have HAt := fun s W (hb : Below w.heap.size w W) => Lib.hid (rat_any A c ps s W B (Hrd0.out.keep (fun p hp => hb.cell (by omega))) (by omega))
  have HTb := fun W (hb : Below w.heap.size w W) => Lib.hid (rtable_any A c ps W B (Hrd0.out.keep (fun p hp => hb.cell (by omega))) (by omega))
  clear hr hE hb1
  generalize Se.applyR ps es en t = res at *
  go_enter Tryz.func23, Tryz.ntmps23
  unfold entryCells at *
  go_wp2_with fail
  generalize w.alloc (.cells #[.int .i64 ev, .int .i64 ec, .int .i64 es, .int .i64 en, .slice Ab nb cb] 36) = w1 at *
  have hs1 := Hb1.out.size
  refine (HTb w1 Hb1.out).out.mono ?_
  rintro e w2' ⟨rfl, n2, rfl⟩
  have Hb2 : Hid (Below w.heap.size w (w1.drewN n2)) := below_drewN Hb1.out n2
  have hE2 := (HE.out.drewN n2).cell 2
  have hE3 := (HE.out.drewN n2).cell 3
  simp only [List.getElem?_toArray, List.getElem?_cons_zero, List.getElem?_cons_succ] at hE2 hE3
  have Hbk : Hid (Blk (w1.drewN n2) w.heap.size 36 #[.int .i64 ev, .int .i64 ec, .int .i64 es, .int .i64 en, .slice Ab nb cb]) := HE.out.drewN n2
  clear HE HTb Hb1
  have hs2 : w.heap.size ≤ (w1.drewN n2).heap.size := hs1
  generalize w1.drewN n2 = w2 at *
  have hCo := HCo w2 Hb2.out
  have fin : ∀ (r : Int) (b : Bool) (W : World) (v : Value), res = (ps, r, b) → W.ownsRow w2.heap.size 96 4 v ps.length (ps.flatMap rowCells) → Below w2.heap.size w2 W → ApplyPost w res (.returned (.tuple #[v, .int .i64 r, .bool b])) W := fun r b W v he ho hb => by
    subst he
    exact ⟨_, rfl, own_down ho hs2, Hb2.out.trans (hb.mono hs2)⟩
  have Fin := Lib.hid fin
  clear fin
  cases hm : Se.mayB ps
  · have Hres := Lib.hid (HNo.out (.inl hm))
    clear HNo HOp HGo HAg HDo hm
    go_wp2_with fail
    refine hCo.out.mono ?_
    rintro e w3 ⟨v3, rfl, hown3, hb3⟩
    have HF := Lib.hid (Fin.out _ _ _ _ Hres.out hown3 hb3)
    clear hown3 hb3
    go_wp2_with fail
    go_ret3
    exact HF.out
  · have h4 := Se.may_len hm
    by_cases ht : t < 1
    · have Hres := Lib.hid (HNo.out (.inr (.inl ht)))
      have hd : decide (t < 1) = true := decide_eq_true ht
      clear HNo HOp HGo HAg HDo hm
      go_wp2_with fail
      refine hCo.out.mono ?_
      rintro e w3 ⟨v3, rfl, hown3, hb3⟩
      have HF := Lib.hid (Fin.out _ _ _ _ Hres.out hown3 hb3)
      clear hown3 hb3
      go_wp2_with fail
      go_ret3
      exact HF.out
    · have hd : decide (t < 1) = false := decide_eq_false ht
      by_cases h0 : es = 0
      · have hz : (es == 0) = true := by simp [h0]
        have HFt := HAt t w2 Hb2.out
        by_cases hx : Se.idx ps t < ps.length
        · have Hres := Lib.hid (HNo.out (.inr (.inr ⟨h0, hx⟩)))
          rw [findV_lt hx] at HFt
          clear HNo HOp HGo HAg HDo hm hx
          generalize Se.idx ps t = ix at *
          go_wp2_with fail
          refine HFt.out.mono ?_
          rintro e w' ⟨rfl, rfl⟩
          go_wp2_with fail
          refine hCo.out.mono ?_
          rintro e w3 ⟨v3, rfl, hown3, hb3⟩
          have HF := Lib.hid (Fin.out _ _ _ _ Hres.out hown3 hb3)
          clear hown3 hb3
          go_wp2_with fail
          go_ret3
          exact HF.out
        · have hnn : ¬ (Se.mayB ps = false ∨ t < 1 ∨ (es = 0 ∧ Se.idx ps t < ps.length)) := by rintro (h | h | ⟨_, h⟩); rw [hm] at h; cases h; exact ht h; exact hx h
          have Hres := Lib.hid (HOp.out hnn h0)
          have HO := Lib.hid (ropen_any A c ps t w2 B (Hrd0.out.keep (fun p hp => Hb2.out.cell (by omega))) (by omega) hm hx)
          rw [findV_no hx] at HFt
          clear HNo HOp HGo HAg HDo hm hx hnn
          go_wp2_with fail
          refine HFt.out.mono ?_
          rintro e w' ⟨rfl, rfl⟩
          go_wp2_with fail
          refine HO.out.mono ?_
          rintro e w5 ⟨v5, rfl, hown5, hb5⟩
          have Hown5 := Lib.hid (own_down hown5 hs2)
          have Hb5 : Hid (Below w.heap.size w w5) := Hb2.out.trans (hb5.mono hs2)
          clear hown5 hb5
          go_wp2_with fail
          go_ret3
          exact ⟨_, by rw [Hres.out]; rfl, by rw [Hres.out]; exact Hown5.out, Hb5.out⟩
      · have hz : (es == 0) = false := by simp [h0]
        have hnn : ¬ (Se.mayB ps = false ∨ t < 1 ∨ (es = 0 ∧ Se.idx ps t < ps.length)) := by rintro (h | h | ⟨h, _⟩); rw [hm] at h; cases h; exact ht h; exact h0 h
        have HFs := HAt es w2 Hb2.out
        have HGo' := Lib.hid (HGo.out hnn h0)
        have HAg' := Lib.hid (HAg.out hnn h0)
        have HDo' := Lib.hid (HDo.out hnn h0)
        clear HNo HOp HGo HAg HDo hm hnn
        by_cases hx : Se.idx ps es < ps.length
        · rw [findV_lt hx] at HFs
          have hat := Se.at_lt hx
          have hse := Se.idx_lt hx
          generalize Se.idx ps es = ix at *
          rw [hat] at HGo' HAg' HDo'
          have Hse := Lib.hid hse
          obtain ⟨b, off, rfl, hbl, hc⟩ := Hrd0.out.2 (by omega)
          have hcx := fun (W : World) (hb : Below w2.heap.size w2 W) => row_cells (wr := W) hx hc (fun p hp => (hb.cell (p := p) (by omega)).trans (Hb2.out.cell (p := p) (by omega))) hbl
          have Hcx := Lib.hid hcx
          have HEx := fun (W : World) (hb : Below w2.heap.size w2 W) => Lib.hid (Blk.below Hbk.out hb Hbk.out.lt)
          obtain ⟨hc0, hc1, hc2, hc3⟩ := hcx w2 (Below.refl _ _)
          clear hat hse hcx hc
          have hd0 : decide ((ix : Int) < 0) = false := decide_eq_false (by omega)
          have hi1 : (ix : Int) < (ps.length : Int) := by omega
          by_cases h1 : en < ps[ix].2.1
          · have Hres := Lib.hid (HGo'.out (.inr h1))
            have hd1 : decide (en < ps[ix].2.1) = true := decide_eq_true h1
            have hCx := fun n => Lib.hid (HCo (w2.drewN n) (below_drewN Hb2.out n)).out
            clear HGo' HAg' HDo' hCo HCo
            generalize ps[ix].2.1 = N at *
            go_wp2_with fail
            refine HFs.out.mono ?_
            rintro e w' ⟨rfl, rfl⟩
            go_wp2_with fail
            go_quiet (fail)
            go_wp2_with fail
            refine (hCx nq).out.mono ?_
            rintro e w3 ⟨v3, rfl, hown3, hb3⟩
            have HF := Lib.hid (Fin.out _ _ _ _ Hres.out hown3 ((below_drewN (Below.refl _ _) nq).trans hb3))
            clear hown3 hb3
            go_wp2_with fail
            go_ret3
            exact HF.out
          · have hd1 : decide (en < ps[ix].2.1) = false := decide_eq_false h1
            have hn1 : ¬ (¬ ix < ps.length ∨ en < ps[ix].2.1) := by rintro (h | h); exact h hx; exact h1 h
            by_cases h2 : en = ps[ix].2.1
            · have Hres := Lib.hid (HAg'.out hn1 h2)
              have hd2 : (en == ps[ix].2.1) = true := by simp [← h2]
              clear HGo' HAg' HDo' h2 hCo
              have HCN : Hid (∀ (W : World), Below w2.heap.size w2 W → W.cell? ⟨b, off + ix * 4 + 2, none⟩ = some (.int .i64 ps[ix].2.2.1)) := fun W hb => (Hcx.out W hb).2.2.1
              generalize ps[ix].2.1 = N at *
              generalize ps[ix].2.2.1 = R at *
              go_wp2_with fail
              refine HFs.out.mono ?_
              rintro e w' ⟨rfl, rfl⟩
              go_wp2_with fail
              go_quiet (fail)
              go_wp2_with fail
              generalize nq = n5
              go_quiet (fail)
              go_wp2_with fail
              have Hb6 : Hid (Below w2.heap.size w2 (w2.drewN (n5 + nq + 1))) := below_drewN (Below.refl _ _) _
              have hCx := Lib.hid (HCo (w2.drewN (n5 + nq + 1)) (below_drewN Hb2.out _)).out
              clear hc0 hc1 hc3 hE2 hE3
              go_region_with (first | (go_at_call 75; refine hCx.out.mono ?_; rintro e w7 ⟨v7, rfl, hown7, hb7⟩; have HF := Lib.hid (Fin.out _ _ _ _ Hres.out hown7 (Hb6.out.trans hb7)); have hcS := HCN.out _ (Hb6.out.trans hb7); clear hown7 hb7))
              all_goals
                go_wp2_with fail
                go_ret3
                exact HF.out
            · have Hres := Lib.hid (HDo'.out hn1 h2)
              have hd2 : (en == ps[ix].2.1) = false := by simp [h2]
              have HS := Lib.hid (flat_set4 ps ix hx (es, en, t, t))
              have hCx := fun n => Lib.hid (HCo (w2.drewN n) (below_drewN Hb2.out n)).out
              clear HGo' HAg' HDo' h2 hCo HCo
              generalize ps[ix].2.1 = N at *
              go_wp2_with fail
              refine HFs.out.mono ?_
              rintro e w' ⟨rfl, rfl⟩
              go_wp2_with fail
              go_quiet (fail)
              go_wp2_with fail
              generalize nq = n5
              go_quiet (fail)
              go_wp2_with fail
              refine (hCx _).out.mono ?_
              rintro e w7 ⟨v7, rfl, hown7, hb7⟩
              obtain ⟨A7, c7, rfl, hnc7, _⟩ := own_slice hown7
              obtain ⟨g, rfl, hg1, hg2⟩ := own_some hown7 (by omega)
              have hf0 := own_frozen hown7 (ix * 4)
              have hf1 := own_frozen hown7 (ix * 4 + 1)
              have hf2 := own_frozen hown7 (ix * 4 + 2)
              have hf3 := own_frozen hown7 (ix * 4 + 3)
              obtain ⟨gc0, gc1, gc2, gc3⟩ := row_own_cells hown7 ix hx
              have hbk := Blk.below (Hbk.out.drewN (n5 + nq)) hb7 Hbk.out.lt
              have hX2 := hbk.cell 2
              have hX3 := hbk.cell 3
              simp only [List.getElem?_toArray, List.getElem?_cons_zero, List.getElem?_cons_succ] at hX2 hX3
              have Hown7 := Lib.hid hown7
              have Hb7 := Lib.hid hb7
              clear hown7 hb7 hbk hc0 hc1 hc2 hc3 hE2 hE3
              go_wp2_with fail
              go_ret3
              have hgw : w.heap.size ≤ g := Nat.le_trans hs2 hg1
              exact ⟨_, by rw [Hres.out]; rfl, by rw [Hres.out, List.length_set, ← HS.out]; exact own_setCells (rowCells (es, en, t, t)) (ix * 4) (own_down Hown7.out hs2), (((((below_drewN Hb2.out (n5 + nq)).trans (Hb7.out.mono hs2)).setCell (p := ⟨g, _, none⟩) hgw _).setCell (p := ⟨g, _, none⟩) hgw _).setCell (p := ⟨g, _, none⟩) hgw _).setCell (p := ⟨g, _, none⟩) hgw _⟩
        · have Hres := Lib.hid (HGo'.out (.inl hx))
          rw [findV_no hx] at HFs
          have hd0 : decide ((-1 : Int) < 0) = true := by decide
          have hCx := fun n => Lib.hid (HCo (w2.drewN n) (below_drewN Hb2.out n)).out
          clear HGo' HAg' HDo' hx
          go_wp2_with fail
          refine HFs.out.mono ?_
          rintro e w' ⟨rfl, rfl⟩
          go_wp2_with fail
          go_quiet (fail)
          go_wp2_with fail
          refine (hCx nq).out.mono ?_
          rintro e w3 ⟨v3, rfl, hown3, hb3⟩
          have HF := Lib.hid (Fin.out _ _ _ _ Hres.out hown3 ((below_drewN (Below.refl _ _) nq).trans hb3))
          clear hown3 hb3
          go_wp2_with fail
          go_ret3
          exact HF.out
end Go.Proofs.YtmnigoibbcigdaaGreat
/- Where the reference machine stands while it applies an entry (chapter 11). -/
namespace Go.Proofs.YtmnigoibbcigdaaGreat
open Go.RowKit
set_option linter.unusedVariables false

/-- where the reference's machine stands on its way from w to w' -/
def RAt (w : World) (base g : Nat) (vr vo vd vs : Value) (q : Ig.M) (w' : World) : Prop :=
  ∃ vr' vo' vd' vs', RMach w' base g q vr' vo' vd' vs' ∧ Only (Foot g vr vo vd vs) w w' ∧ ∀ k, Foot g vr' vo' vd' vs' k → Foot g vr vo vd vs k ∨ w.heap.size ≤ k
def RMachPost (w : World) (base g : Nat) (vr vo vd vs : Value) (q : Ig.M × Int × Int) (e : Ending) (w' : World) : Prop :=
  e = .returned (.tuple #[.int .i64 q.2.1, .int .i64 q.2.2]) ∧ RAt w base g vr vo vd vs q.1 w'
section
variable {w w1 w2 : World} {base g : Nat} {vr vo vd vs : Value} {q q' : Ig.M}
theorem RAt.below (h : RAt w base g vr vo vd vs q w1) (hb : Below w1.heap.size w1 w2) : RAt w base g vr vo vd vs q w2 := by
  obtain ⟨vr', vo', vd', vs', hm, ho, hf⟩ := h
  exact ⟨vr', vo', vd', vs', hm.below hb, ho.trans (Only.new (fun _ => False) hb) (fun _ _ h => absurd h id), hf⟩
theorem RAt.cells (h : RAt w base g vr vo vd vs q w1) : w1.cell? ⟨g, 0, none⟩ = some (.int .i64 q.at_) ∧
    (∃ A c, w1.cell? ⟨g, 1, none⟩ = some (.slice A q.rows.length c) ∧ Reads w1 w1.heap.size 4 A q.rows.length (q.rows.flatMap rowCells)) ∧
    (∃ A c, w1.cell? ⟨g, 2, none⟩ = some (.slice A q.opn.length c) ∧ Reads w1 w1.heap.size 3 A q.opn.length (q.opn.flatMap pointCells)) ∧
    ∀ j, w1.frozen? ⟨g, j, none⟩ = false := by
  obtain ⟨vr', vo', vd', vs', hm, ho, hf⟩ := h
  obtain ⟨c0, c1, c2, c3, c4⟩ := hm.cells
  obtain ⟨Ar, cr, e1, _, hr1⟩ := own_slice hm.rows
  obtain ⟨Ao, co, e2, _, hr2⟩ := own_slice hm.opn
  rw [e1] at c1
  rw [e2] at c2
  exact ⟨c0, ⟨Ar, cr, c1, hr1⟩, ⟨Ao, co, c2, hr2⟩, fun j => hm.blk.frozen j⟩
theorem RAt.size (h : RAt w base g vr vo vd vs q w1) : w.heap.size ≤ w1.heap.size := by
  obtain ⟨vr', vo', vd', vs', hm, ho, hf⟩ := h
  exact ho.size
theorem RAt.lt (h : RAt w base g vr vo vd vs q w1) : g < w1.heap.size := by
  obtain ⟨vr', vo', vd', vs', hm, ho, hf⟩ := h
  exact hm.blk.lt
/-- the machine's own block is worked on from outside: a field is written with a row of new memory -/
theorem RAt.setRows (h : RAt w base g vr vo vd vs q w1) (hbase : base ≤ w.heap.size) {b : Nat} {v : Value} {R : List Se.Row} (hv : w1.ownsRow b 96 4 v R.length (R.flatMap rowCells)) (hb : w.heap.size ≤ b) : RAt w base g vr vo vd vs { q with rows := R } (w1.setCell ⟨g, 1, none⟩ v) := by
  obtain ⟨vr', vo', vd', vs', hm, ho, hf⟩ := h
  refine ⟨v, vo', vd', vs', hm.setRows (own_down hv (by omega)), ho.setCell (p := ⟨g, 1, none⟩) (fun _ => .inl rfl) _, fun k hk => ?_⟩
  rcases hk with z | z | z | z | z
  · exact hf k (.inl z)
  · exact .inr (Nat.le_trans hb (own_lt hv z).1)
  · exact hf k (.inr (.inr (.inl z)))
  · exact hf k (.inr (.inr (.inr (.inl z))))
  · exact hf k (.inr (.inr (.inr (.inr z))))
theorem RAt.setOpen (h : RAt w base g vr vo vd vs q w1) (hbase : base ≤ w.heap.size) {b : Nat} {v : Value} {P : List Pt.Point} (hv : w1.ownsRow b 66 3 v P.length (P.flatMap pointCells)) (hb : w.heap.size ≤ b) : RAt w base g vr vo vd vs { q with opn := P } (w1.setCell ⟨g, 2, none⟩ v) := by
  obtain ⟨vr', vo', vd', vs', hm, ho, hf⟩ := h
  refine ⟨vr', v, vd', vs', hm.setOpen (Only.refl _ _) (own_down hv (by omega)), ho.setCell (p := ⟨g, 2, none⟩) (fun _ => .inl rfl) _, fun k hk => ?_⟩
  rcases hk with z | z | z | z | z
  · exact hf k (.inl z)
  · exact hf k (.inr (.inl z))
  · exact .inr (Nat.le_trans hb (own_lt hv z).1)
  · exact hf k (.inr (.inr (.inr (.inl z))))
  · exact hf k (.inr (.inr (.inr (.inr z))))
theorem RAt.setNil (h : RAt w base g vr vo vd vs q w1) : RAt w base g vr vo vd vs { q with opn := [] } (w1.setCell ⟨g, 2, none⟩ (.slice none 0 0)) := by
  obtain ⟨vr', vo', vd', vs', hm, ho, hf⟩ := h
  refine ⟨vr', .slice none 0 0, vd', vs', hm.setOpen (P := []) (Only.refl _ _) (own_nil _ _ _ _), ho.setCell (p := ⟨g, 2, none⟩) (fun _ => .inl rfl) _, fun k hk => ?_⟩
  rcases hk with z | z | z | z | z
  · exact hf k (.inl z)
  · exact hf k (.inr (.inl z))
  · simp [Value.ownBlock] at z
  · exact hf k (.inr (.inr (.inr (.inl z))))
  · exact hf k (.inr (.inr (.inr (.inr z))))
end
end Go.Proofs.YtmnigoibbcigdaaGreat
