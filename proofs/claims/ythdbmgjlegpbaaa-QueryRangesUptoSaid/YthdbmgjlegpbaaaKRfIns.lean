/- The walk through the reference's Insert. -/
import Derived.Test.YthdbmgjlegpbaaaKRfInsP
import Derived.Test.YthdbmgjlegpbaaaK2
import Derived.BigRegion
import Derived.Deep.DeepCutAuto
namespace Go.Proofs.Ythdbmgjlegpbaaa
open Go.RowKit
set_option linter.unusedVariables false

def PtsPost (w : World) (ps : List Pt.Point) (e : Ending) (w' : World) : Prop := ∃ v, e = .returned v ∧ w'.ownsRow w.heap.size 52 3 v ps.length (ps.flatMap pointCells) ∧ Below w.heap.size w w'
theorem str_ne {a b : ByteArray} (h : a ≠ b) : (a.toList == b.toList) = false := by
  rw [beq_eq_false_iff_ne]; exact fun e => h (by rw [Lib.toList_data, Lib.toList_data] at e; exact ByteArray.ext (Array.ext' e))
theorem flat_one (o : List Pt.Point) (q : Pt.Point) : (o ++ [q]).flatMap pointCells = o.flatMap pointCells ++ [.string q.1, .int .i64 q.2.1, .int .i64 q.2.2] := by rw [List.flatMap_append]; rfl
theorem le32 {n : Nat} (h : n ≤ 4398046511104) : n * 32 ≤ 140737488355328 := by omega
set_option maxRecDepth 100000 in
set_option maxHeartbeats 4000000 in
theorem rinsert_any (A : Option Addr) (c : Nat) (ps : List Pt.Point) (p : Pt.Point) (w : World) (B : Nat) (hr : Reads w B 3 A ps.length (ps.flatMap pointCells)) (hB : B ≤ w.heap.size) (hn : ps.length + 3 ≤ 4398046511104) (hwf : ∀ q ∈ ps, q.1.size ≤ 9223372036854775807) (hp : p.1.size ≤ 9223372036854775807) :
    Calls Try.prog 61 #[.slice A ps.length c, .agg #[.string p.1, .int .i64 p.2.1, .int .i64 p.2.2]] w (PtsPost w (Rf.res p ps)) := by
  obtain ⟨i0, hi, hz0, hz1, hz2⟩ := info_parts info_point
  have HL : Hid (∀ q ∈ ps, ∀ W, Calls Try.prog 85 #[.agg #[.string p.1, .int .i64 p.2.1, .int .i64 p.2.2], .agg #[.string q.1, .int .i64 q.2.1, .int .i64 q.2.2]] W fun e w' => e = .returned (.bool (Pt.lessB p q)) ∧ Below W.heap.size W w') := fun q hq W => rless_any p q W hp (hwf q hq)
  have HS := Lib.hid (Rf.st_snoc p ps)
  have HK := Lib.hid (Rf.st_len_k p ps)
  have HR := Lib.hid hr
  have HRes : Hid (∀ o b, Rf.st p ps = (o, b) → Rf.res p ps = if b = true then o else o ++ [p]) := fun o b h => by unfold Rf.res; rw [h]
  have HE : Hid (Rf.st p (ps.take ps.length) = Rf.st p ps) := by show _ = _; rw [List.take_length]
  clear hr hwf hp
  obtain ⟨pn, pt, pv⟩ := p
  dsimp only at HL
  have hBb := Blk.new w 52 #[.string pn, .int .i64 pt, .int .i64 pv]
  have hbb : Below w.heap.size w (w.alloc (.cells #[.string pn, .int .i64 pt, .int .i64 pv] 52)) := (Below.refl _ _).alloc (Nat.le_refl _) _
  have hss : (w.alloc (.cells #[.string pn, .int .i64 pt, .int .i64 pv] 52)).heap.size = w.heap.size + 1 := by simp
  go_enter Try.func61, Try.ntmps61
  go_wp2_with fail
  generalize (w.alloc (.cells #[.string pn, .int .i64 pt, .int .i64 pv] 52)) = w1 at *
  have HBb := Lib.hid hBb
  have Hbb := Lib.hid hbb
  obtain ⟨g, hg⟩ : ∃ g, g = w.heap.size := ⟨_, rfl⟩
  rw [← hg] at HBb
  have Hg := Lib.hid hg
  rw [← hg]
  have hg1 : w1.heap.size = g + 1 := by omega
  have hgw : w.heap.size ≤ g := by omega
  clear hBb hbb hss hg
  go_loopw [5, 6, 7, 8] (fun vo b i _ wr => ∃ (k : Nat) (o : List Pt.Point) (b0 : Bool), k ≤ ps.length ∧ i = .int .i64 (k : Int) ∧ b = .bool b0 ∧ Hid (Rf.st (pn, pt, pv) (ps.take k) = (o, b0)) ∧ Hid (wr.ownsRow w1.heap.size 52 3 vo o.length (o.flatMap pointCells)) ∧ Hid (Below w1.heap.size w1 wr)) (fun _ _ i _ _ => ps.length - (intOf i).toNat)
  case atStart => exact ⟨0, [], false, Nat.zero_le _, rfl, rfl, Lib.hid rfl, Lib.hid (own_nil _ _ _ _), Lib.hid (Below.refl _ _)⟩
  case round =>
    obtain ⟨k, o, b0, hk, rfl, rfl, hst, hown, hbw⟩ := hrel
    have hsw := hbw.out.size
    by_cases hlt : k < ps.length
    · have hltI : (k : Int) < (ps.length : Int) := by omega
      obtain ⟨b, off, rfl, hbl, hc⟩ := HR.out.2 (by omega)
      obtain ⟨q, hq⟩ : ∃ q, ps[k]? = some q := ⟨_, List.getElem?_eq_getElem hlt⟩
      have hqe : ps[k] = q := (List.getElem?_eq_some_iff.1 hq).2
      have hol : o.length ≤ ps.length + 1 := by have := HK.out k hk; rw [hst.out] at this; exact this
      have hm3 : (o.length + 1) * 32 ≤ 140737488355328 := le32 (by omega)
      have hm4 : (o.length + 1 + 1) * 32 ≤ 140737488355328 := le32 (by omega)
      have hm1 : o.length + 1 ≤ maxLen := by unfold maxLen; omega
      have hm2 : o.length + 1 + 1 ≤ maxLen := by unfold maxLen; omega
      have hcq : ∀ W, Below w1.heap.size w1 W → _ := fun W hW => pt_cells (wr := W) hlt hc (fun p hp => (hW.cell (p := p) (by omega)).trans (Hbb.out.cell (p := p) (by omega))) hbl
      rw [hqe] at hcq
      have hstep := HS.out k hlt
      rw [hst.out, hqe] at hstep
      have hL := fun W => Lib.hid (HL.out q (List.mem_of_getElem? hq) W)
      clear hqe hq hc
      obtain ⟨qn, qt, qv⟩ := q
      dsimp only at hcq hL
      have HCq := Lib.hid hcq
      obtain ⟨q0, q1, q2⟩ := hcq wr hbw.out
      clear hcq
      obtain ⟨x0, x1, x2⟩ := pt3_of (HBb.out.below hbw.out (by omega))
      have HN : Hid (∀ L ls, Rf.like (pn, pt, pv) (qn, qt, qv) = L → Pt.lessB (pn, pt, pv) (qn, qt, qv) = ls → Rf.st (pn, pt, pv) (ps.take (k + 1)) = ((o ++ (if (!b0 && (L || ls)) = true then [(pn, pt, pv)] else [])) ++ (if L = true then [] else [(qn, qt, qv)]), b0 || (L || ls))) := fun L ls h1 h2 => by
        rw [hstep]; unfold Rf.step; dsimp only; rw [h1, h2]
      clear hstep hst
      obtain ⟨ls, hls⟩ : ∃ ls, Pt.lessB (pn, pt, pv) (qn, qt, qv) = ls := ⟨_, rfl⟩
      rw [hls] at hL
      have Hls := Lib.hid hls
      clear hls
      have hBr := HBb.out.below hbw.out (show g < w1.heap.size by omega)
      have HBr := Lib.hid hBr
      clear hBr
      obtain ⟨L, hL1⟩ : ∃ L, Rf.like (pn, pt, pv) (qn, qt, qv) = L := ⟨_, rfl⟩
      have HN1 := Lib.hid (HN.out L ls hL1 Hls.out)
      have hways : (qn = pn ∧ qt = pt ∧ L = true) ∨ ((qn.toList == pn.toList) = false ∧ L = false) ∨ ((qn.toList == pn.toList) = true ∧ (qt == pt) = false ∧ L = false) := by
        rw [← hL1]
        unfold Rf.like
        by_cases h1 : qn = pn
        · by_cases h2 : qt = pt
          · exact .inl ⟨h1, h2, by simp [h1, h2]⟩
          · exact .inr (.inr ⟨by rw [h1]; exact beq_self_eq_true _, by simp [h2], by simp [h2]⟩)
        · exact .inr (.inl ⟨str_ne h1, by simp [h1]⟩)
      have Hways := Lib.hid hways
      clear HN Hls hL1 hways
      go_upto_region 7 with fail
      go_cut [8] (fun c wx => c = .bool L ∧ wr.drew = wx)
      case first =>
        as_aux_lemma =>
          clear HN1 hL HCq HL HS HK HRes
          rcases Hways.out with ⟨rfl, rfl, rfl⟩ | ⟨hw0, rfl⟩ | ⟨hw0, hw1, rfl⟩
          · clear Hways
            go_wp2_with fail
            go_region
            go_wp2_with fail
            go_meet
            exact ⟨rfl, rfl⟩
          · clear Hways
            go_wp2_with fail
            go_region
            go_wp2_with fail
            go_meet
            exact ⟨rfl, rfl⟩
          · clear Hways
            go_wp2_with fail
            go_region
            go_wp2_with fail
            go_meet
            exact ⟨rfl, rfl⟩
      case rest =>
        obtain ⟨rfl, rfl⟩ := hcut
        have Hbd : Hid (Below w1.heap.size w1 wr.drew) := hbw.out.drew
        have Hod : Hid (wr.drew.ownsRow w1.heap.size 52 3 u5 o.length (o.flatMap pointCells)) := hown.out
        have HBd := Lib.hid HBr.out.drew
        have hsd : w1.heap.size ≤ wr.drew.heap.size := hsw
        clear x0 x1 x2 q0 q1 q2 hbw hown hsw HBr Hways
        generalize wr.drew = wd at *
        have hx := fun x : Aft wd.heap.size wd => pt3_of (HBd.out.below x.below (show g < wd.heap.size by omega))
        have hx0 := fun x => (hx x).1
        have hx1 := fun x => (hx x).2.1
        have hx2 := fun x => (hx x).2.2
        have hy := fun x : Aft wd.heap.size wd => HCq.out x.world (Hbd.out.trans (x.below.mono hsd))
        have hy0 := fun x => (hy x).1
        have hy1 := fun x => (hy x).2.1
        have hy2 := fun x => (hy x).2.2
        cases L with
        | true =>
          as_aux_lemma =>
            clear hx0 hx1 hx2 hy0 hy1 hy2 hy
            cases b0 with
            | true =>
              go_wp2_with fail
              refine wp_region_aft wd.heap.size wd (by kernel_rfl) (by kernel_rfl) (Below.refl _ _) ?_
              repeat (go_big_quiet_step (fail))
              refine wpQuiet_nil ?_
              rintro _ ⟨x, rfl⟩
              have Hx : Hid (Below w1.heap.size w1 x.world) := Hbd.out.trans (x.below.mono hsd)
              have Ho : Hid (x.world.ownsRow w1.heap.size 52 3 u5 o.length (o.flatMap pointCells)) := own_only Hod.out (Only.new (fun _ => False) x.below) (fun _ _ h => h)
              clear hx
              generalize x.world = w3 at *
              go_wp2_with fail
              go_roundw
              case rel => exact ⟨k + 1, o, true, by omega, by go_num, rfl, by have := HN1.out; simp at this; exact Lib.hid this, Ho, Hx⟩
              case measure => simp [intOf]; omega
            | false =>
              go_wp2_with fail
              refine wp_region_aft wd.heap.size wd (by kernel_rfl) (by kernel_rfl) (Below.refl _ _) ?_
              repeat (go_big_quiet_step (fail))
              refine wpQuiet_nil ?_
              rintro _ ⟨x, rfl⟩
              have Hx : Hid (Below w1.heap.size w1 x.world) := Hbd.out.trans (x.below.mono hsd)
              have hsx := Hx.out.size
              have Ho : Hid (x.world.ownsRow w1.heap.size 52 3 u5 o.length (o.flatMap pointCells)) := own_only Hod.out (Only.new (fun _ => False) x.below) (fun _ _ h => h)
              obtain ⟨y0, y1, y2⟩ := hx x
              clear hx
              generalize x.world = w3 at *
              go_wp2_with (at_builtin; refine wpList_push _ rfl _ _ 38 rfl w1.heap.size 52 i0 _ 3 32 Try.underlying38 hi hz0 hz1 hz2 rfl (by decide) _ o.length _ (by rfl) Ho.out [.string pn, .int .i64 pt, .int .i64 pv] (by rfl) rfl (by simp [Value.oneCell']) hm1 hm3 w1 Hx.out hsx ?_; intro v8 w8 hown8 hb8)
              have Hown8 : Hid (w8.ownsRow w1.heap.size 52 3 v8 (o ++ [(pn, pt, pv)]).length ((o ++ [(pn, pt, pv)]).flatMap pointCells)) := by
                show World.ownsRow _ _ _ _ _ _ _
                rw [flat_one, List.length_append]; exact hown8
              have Hb8 := Lib.hid hb8
              clear hown8 hb8
              go_roundw
              case rel => exact ⟨k + 1, o ++ [(pn, pt, pv)], true, by omega, by go_num, rfl, by have := HN1.out; simp at this; exact Lib.hid this, Hown8, Hb8⟩
              case measure => simp [intOf]; omega
        | false =>
          as_aux_lemma =>
            clear hx hy
            cases b0 with
            | true =>
              go_wp2_with fail
              refine wp_region_aft wd.heap.size wd (by kernel_rfl) (by kernel_rfl) (Below.refl _ _) ?_
              repeat (go_big_quiet_step (fail))
              refine wpQuiet_nil ?_
              rintro _ ⟨x, rfl⟩
              have Hx : Hid (Below w1.heap.size w1 x.world) := Hbd.out.trans (x.below.mono hsd)
              have hsx := Hx.out.size
              have Ho : Hid (x.world.ownsRow w1.heap.size 52 3 u5 o.length (o.flatMap pointCells)) := own_only Hod.out (Only.new (fun _ => False) x.below) (fun _ _ h => h)
              have z0 := hy0 x
              have z1 := hy1 x
              have z2 := hy2 x
              clear hx0 hx1 hx2 hy0 hy1 hy2
              generalize x.world = w3 at *
              go_wp2_with (at_builtin; refine wpList_push _ rfl _ _ 38 rfl w1.heap.size 52 i0 _ 3 32 Try.underlying38 hi hz0 hz1 hz2 rfl (by decide) _ o.length _ (by rfl) Ho.out [.string qn, .int .i64 qt, .int .i64 qv] (by rfl) rfl (by simp [Value.oneCell']) hm1 hm3 w1 Hx.out hsx ?_; intro v8 w8 hown8 hb8)
              have Hown8 : Hid (w8.ownsRow w1.heap.size 52 3 v8 (o ++ [(qn, qt, qv)]).length ((o ++ [(qn, qt, qv)]).flatMap pointCells)) := by
                show World.ownsRow _ _ _ _ _ _ _
                rw [flat_one, List.length_append]; exact hown8
              have Hb8 := Lib.hid hb8
              clear hown8 hb8
              go_roundw
              case rel => exact ⟨k + 1, o ++ [(qn, qt, qv)], true, by omega, by go_num, rfl, by have := HN1.out; simp at this; exact Lib.hid this, Hown8, Hb8⟩
              case measure => simp [intOf]; omega
            | false =>
              go_wp2_with fail
              refine wp_region_aft wd.heap.size wd (by kernel_rfl) (by kernel_rfl) (Below.refl _ _) ?_
              repeat (go_big_quiet_step (first | (go_at_call 85; with_reducible exact aft_new (Nat.le_refl _) (Hid.out (hL _)))))
              refine wpQuiet_nil ?_
              rintro _ ⟨x, rfl⟩
              have Hx : Hid (Below w1.heap.size w1 x.world) := Hbd.out.trans (x.below.mono hsd)
              have hsx := Hx.out.size
              have Ho : Hid (x.world.ownsRow w1.heap.size 52 3 u5 o.length (o.flatMap pointCells)) := own_only Hod.out (Only.new (fun _ => False) x.below) (fun _ _ h => h)
              have z0 := hy0 x
              have z1 := hy1 x
              have z2 := hy2 x
              have y0 := hx0 x
              have y1 := hx1 x
              have y2 := hx2 x
              clear hx0 hx1 hx2 hy0 hy1 hy2
              generalize x.world = w3 at *
              cases ls with
              | false =>
                go_wp2_with (at_builtin; refine wpList_push _ rfl _ _ 38 rfl w1.heap.size 52 i0 _ 3 32 Try.underlying38 hi hz0 hz1 hz2 rfl (by decide) _ o.length _ (by rfl) Ho.out [.string qn, .int .i64 qt, .int .i64 qv] (by rfl) rfl (by simp [Value.oneCell']) hm1 hm3 w1 Hx.out hsx ?_; intro v8 w8 hown8 hb8)
                have Hown8 : Hid (w8.ownsRow w1.heap.size 52 3 v8 (o ++ [(qn, qt, qv)]).length ((o ++ [(qn, qt, qv)]).flatMap pointCells)) := by
                  show World.ownsRow _ _ _ _ _ _ _
                  rw [flat_one, List.length_append]; exact hown8
                have Hb8 := Lib.hid hb8
                clear hown8 hb8
                go_roundw
                case rel => exact ⟨k + 1, o ++ [(qn, qt, qv)], false, by omega, by go_num, rfl, by have := HN1.out; simp at this; exact Lib.hid this, Hown8, Hb8⟩
                case measure => simp [intOf]; omega
              | true =>
                go_wp2_with (first
                  | (at_builtin; refine wpList_push (o := ⟨some 49, _, _, _, _, _⟩) _ rfl _ _ 38 rfl w1.heap.size 52 i0 _ 3 32 Try.underlying38 hi hz0 hz1 hz2 rfl (by decide) _ o.length _ (by rfl) Ho.out [.string pn, .int .i64 pt, .int .i64 pv] (by rfl) rfl (by simp [Value.oneCell']) hm1 hm3 w1 Hx.out hsx ?_; intro v7 w7 hown7 hb7; obtain ⟨c0, c1, c2⟩ := HCq.out w7 hb7; have hsw7 := hb7.size; have Hown7 := Lib.hid hown7; have Hb7 := Lib.hid hb7; clear hown7 hb7)
                  | (at_builtin; refine wpList_push (o := ⟨some 58, _, _, _, _, _⟩) _ rfl _ _ 38 rfl w1.heap.size 52 i0 _ 3 32 Try.underlying38 hi hz0 hz1 hz2 rfl (by decide) _ (o.length + 1) _ (by rfl) Hown7.out [.string qn, .int .i64 qt, .int .i64 qv] (by rfl) rfl (by simp [Value.oneCell']) hm2 hm4 w1 Hb7.out hsw7 ?_; intro v8 w8 hown8 hb8))
                have Hown8 : Hid (w8.ownsRow w1.heap.size 52 3 v8 (o ++ [(pn, pt, pv)] ++ [(qn, qt, qv)]).length ((o ++ [(pn, pt, pv)] ++ [(qn, qt, qv)]).flatMap pointCells)) := by
                  show World.ownsRow _ _ _ _ _ _ _
                  rw [flat_one, flat_one, List.length_append, List.length_append]; exact hown8
                have Hb8 := Lib.hid hb8
                clear hown8 hb8
                go_roundw
                case rel => exact ⟨k + 1, o ++ [(pn, pt, pv)] ++ [(qn, qt, qv)], true, by omega, by go_num, rfl, by have := HN1.out; simp at this; simpa using Lib.hid this, Hown8, Hb8⟩
                case measure => simp [intOf]; omega
    · obtain rfl : k = ps.length := by omega
      have hR := HRes.out o b0 (by rw [← HE.out]; exact hst.out)
      have hol : o.length ≤ ps.length + 1 := by have := HK.out ps.length hk; rw [hst.out] at this; exact this
      have hltI : ¬ (ps.length : Int) < (ps.length : Int) := by omega
      obtain ⟨x0, x1, x2⟩ := pt3_of (HBb.out.below hbw.out (by omega))
      have HR2 := Lib.hid hR
      clear hR hst
      cases b0 with
      | true =>
        go_wp2_with fail
        go_ret
        refine ⟨_, rfl, by rw [HR2.out, ← Hg.out]; exact own_down hown.out (by omega), Hbb.out.trans (hbw.out.mono (by have := Hg.out; omega))⟩
      | false =>
        go_wp2_with (at_builtin; refine wpList_push _ rfl _ _ 38 rfl w1.heap.size 52 i0 _ 3 32 Try.underlying38 hi hz0 hz1 hz2 rfl (by decide) _ o.length _ (by rfl) hown.out [.string pn, .int .i64 pt, .int .i64 pv] (by rfl) rfl (by simp [Value.oneCell']) (by unfold maxLen; omega) (le32 (by omega)) w1 hbw.out hsw ?_; intro v8 w8 hown8 hb8)
        have Hown8 : Hid (w8.ownsRow w1.heap.size 52 3 v8 (o ++ [(pn, pt, pv)]).length ((o ++ [(pn, pt, pv)]).flatMap pointCells)) := by
          show World.ownsRow _ _ _ _ _ _ _
          rw [flat_one, List.length_append]; exact hown8
        have Hb8 := Lib.hid hb8
        clear hown8 hb8
        go_ret
        refine ⟨_, rfl, by rw [HR2.out, ← Hg.out]; exact own_down Hown8.out (by omega), Hbb.out.trans (Hb8.out.mono (by have := Hg.out; omega))⟩
end Go.Proofs.Ythdbmgjlegpbaaa
