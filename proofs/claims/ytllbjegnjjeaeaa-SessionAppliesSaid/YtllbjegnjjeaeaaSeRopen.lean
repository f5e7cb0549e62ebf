/- The walk through the reference's open (chapter 10). -/
import Derived.Test.YtllbjegnjjeaeaaSeApply
namespace Go.Proofs.Ytllbjegnjjeaeaa
open Go.RowKit Go.Shelf
set_option linter.unusedVariables false

def Se.outK (ps : List Se.Row) (t : Int) (k : Nat) : List Se.Row := if Se.lo ps t < k then ps.take (Se.lo ps t) ++ Se.new t :: (ps.take k).drop (Se.lo ps t) else ps.take k
section
variable {ps : List Se.Row} {t : Int} {k : Nat}
theorem out_put (h : Se.lo ps t < k) (hk : k < ps.length) : Se.outK ps t (k + 1) = Se.outK ps t k ++ [ps[k]] := by
  unfold Se.outK
  rw [if_pos (by omega), if_pos h, List.take_succ_eq_append_getElem hk, List.drop_append_of_le_length (by rw [List.length_take]; omega)]
  simp
theorem out_not (h : k < Se.lo ps t) (hk : k < ps.length) : Se.outK ps t (k + 1) = Se.outK ps t k ++ [ps[k]] := by
  unfold Se.outK
  rw [if_neg (by omega), if_neg (by omega), List.take_succ_eq_append_getElem hk]
theorem out_at (h : k = Se.lo ps t) (hk : k < ps.length) : Se.outK ps t (k + 1) = Se.outK ps t k ++ [Se.new t] ++ [ps[k]] := by
  subst h
  unfold Se.outK
  rw [if_pos (by omega), if_neg (by omega), List.take_succ_eq_append_getElem hk, List.drop_left' (by rw [List.length_take]; omega)]
  simp
theorem out_end (h : Se.lo ps t < ps.length) : Se.outK ps t ps.length = Se.ins ps t := by
  unfold Se.outK Se.ins
  rw [if_pos h, List.take_length]
theorem out_last (h : ¬ Se.lo ps t < ps.length) : Se.outK ps t ps.length ++ [Se.new t] = Se.ins ps t := by
  have := Se.lo_le ps t
  have e : Se.lo ps t = ps.length := by omega
  unfold Se.outK Se.ins
  rw [if_neg h, e, List.take_length, List.drop_length]
theorem out_len (hk : k ≤ ps.length) : (Se.outK ps t k).length ≤ k + 1 := by
  unfold Se.outK
  split
  · simp; omega
  · simp; omega
end
theorem ne_of_none {ps : List Se.Row} {t : Int} (h : ¬ Se.idx ps t < ps.length) (k : Nat) (hk : k < ps.length) : ps[k].1 ≠ t := fun e => by
  apply h
  unfold Se.idx
  rw [List.findIdx_lt_length]
  exact ⟨ps[k], List.getElem_mem _, by simpa using e⟩
section
variable {P : Program}
theorem step_append_own {ops : Array Oper} {o : Oper} {a : Act} {K : Act → World → Prop} {Q : Exit → Act → World → Prop} {E : Prop} (w : World) (hgd : o.guard = none) (s x : Operand) (t : TypeId)
    (ho : o.op = .call { callee := .builtin .append, args := #[s, x], argTypes := #[t, t] })
    (base : Nat) (e : TypeId) (i : TypeInfo) (z : Value) (size bytes : Nat) (ht : P.underlying t = some (.slice e)) (hi : P.info? e = some i) (hz : i.zero = some z)
    (hsize : i.size = size) (hby : i.bytes = bytes) (hzs : z.cells.size = size) (hsz : 0 < size)
    (v : Value) (n : Nat) (xs : List Value) (hs : a.eval s = v) (hown : w.ownsRow base e size v n xs)
    (B : Nat) (A : Option Addr) (m c : Nat) (news : List Value) (hx : a.eval x = .slice A m c) (hr : Reads w B size A m news) (h1 : ∀ u ∈ news, u.oneCell' = true)
    (h63 : n + m ≤ maxLen) (hbytes : (n + m) * bytes ≤ 140737488355328) (hbase : base ≤ w.heap.size)
    (h : ∀ v' w', w'.ownsRow base e size v' (n + m) (xs ++ news) → w.grownBy w' v.ownBlock → (v'.ownBlock = v.ownBlock ∨ v'.ownBlock = some w.heap.size) → K (a.put o.dst v') w') :
    if Region.wanted o (yielded ops a.tmps) = true then Oper.wp P o a w K Q else E := by
  have hw : Region.wanted o (yielded ops a.tmps) = true := by simp [Region.wanted, hgd]
  rw [if_pos hw]
  exact wp_append_all w s x t ho base e i z size bytes ht hi hz hsize hby hzs hsz v n xs hs hown B A m c news hx hr h1 h63 hbytes hbase h
end
/-- what the last two appends leave -/
theorem ropen_fin {res : List Se.Row} {w W w7 w8 : World} {v7 v8 : Value} {a k : Nat} {xs ys : List Value} {o : Obj} (hb : Below w.heap.size w W) (hown7 : w7.ownsRow w.heap.size 49 4 v7 a xs) (hg7 : ((W.alloc o).drew).grownBy w7 (some W.heap.size)) (hg8 : w7.grownBy w8 v7.ownBlock)
    (hown8 : w8.ownsRow w.heap.size 49 4 v8 k ys) (hk : k = res.length) (hys : ys = res.flatMap rowCells) : OwnPost w res (.returned v8) w8 := by
  subst hk; subst hys
  have hs := hb.size
  have h1 : Below w.heap.size w ((W.alloc o).drew) := (hb.alloc hs _).drew
  have h2 : Below w.heap.size w w7 := h1.grown hg7 h1.size (fun j e => by cases e; exact hs)
  exact ⟨_, rfl, hown8, h2.grown hg8 h2.size (fun j e => (own_lt hown7 e).1)⟩
theorem reads_drop {W w7 : World} {base gq n cq m : Nat} {q : List Se.Row} {o : Obj} (hq : W.ownsRow base 49 4 (.slice (some ⟨gq, 0, none⟩) n cq) n (q.flatMap rowCells)) (hm : m < n) (hl : q.length = n) (hg7 : ((W.alloc o).drew).grownBy w7 (some W.heap.size)) :
    Reads w7 W.heap.size 4 (some ⟨gq, m * 4, none⟩) (n - m) ((q.drop m).flatMap rowCells) := by
  have hlt := (own_lt hq rfl).2
  have hb : Below W.heap.size W w7 := ((Below.refl _ _).alloc (Nat.le_refl _) _).drew.grown hg7 (by show _ ≤ (W.alloc o).heap.size; simp) (fun j e => by cases e; exact Nat.le_refl _)
  refine ⟨by rw [flat_length rowCells 4 (fun _ => rfl), List.length_drop, hl], fun _ => ⟨gq, m * 4, rfl, hlt, fun j u hu => ?_⟩⟩
  rw [← flat_drop rowCells 4 (fun _ => rfl), List.getElem?_drop] at hu
  exact (hb.cell (p := ⟨gq, m * 4 + j, none⟩) hlt).trans (own_cell hq hu)
theorem reads_take {W : World} {base gq n cq m : Nat} {q : List Se.Row} (o : Obj) (hq : W.ownsRow base 49 4 (.slice (some ⟨gq, 0, none⟩) n cq) n (q.flatMap rowCells)) (hm : m ≤ n) :
    Reads ((W.alloc o).drew) W.heap.size 4 (some ⟨gq, 0, none⟩) m ((q.take m).flatMap rowCells) := by
  have h := Reads.of_own (own_cut hq m hm)
  rw [flat_take rowCells 4 (fun _ => rfl)] at h
  exact (h.alloc (Nat.le_refl _) o).drewN 1
set_option maxRecDepth 100000 in
set_option maxHeartbeats 2000000 in
theorem ropen_any (A : Option Addr) (c : Nat) (ps : List Se.Row) (t : Int) (w : World) (B : Nat) (hr : Reads w B 4 A ps.length (ps.flatMap rowCells)) (hB : B ≤ w.heap.size) (hm : Se.mayB ps = true) (hnx : ¬ Se.idx ps t < ps.length) :
    Calls Try.prog 32 #[.slice A ps.length c, .int .i64 t] w (OwnPost w (Se.openR ps t)) := by
  have h4 := Se.may_len hm
  have hlo := Se.lo_le ps t
  obtain ⟨i0, hi, hz0, hz1, hz2⟩ := info_parts info_srow
  have HR := Lib.hid hr
  have Hne := Lib.hid (fun k hk => ne_of_none hnx k hk)
  have Hah : Hid (∀ j (hj : j < ps.length), j < Se.lo ps t → ps[j].1 < t) := fun j hj h => Se.lo_ahead j h
  have Hbe := Lib.hid (@Se.lo_behind ps t)
  have Hsm := Lib.hid (@open_small ps t)
  have Hbg := Lib.hid (@open_big ps t)
  have O1 := Lib.hid (fun k h hk => @out_put ps t k h hk)
  have O2 := Lib.hid (fun k h hk => @out_not ps t k h hk)
  have O3 := Lib.hid (fun k h hk => @out_at ps t k h hk)
  have O4 := Lib.hid (@out_end ps t)
  have O5 := Lib.hid (@out_last ps t)
  have O6 := Lib.hid (fun k hk => @out_len ps t k hk)
  have Oz : Hid (Se.outK ps t 0 = []) := by show _ = _; unfold Se.outK; simp
  have hil := Se.ins_len ps t
  clear hr hm hnx
  generalize Se.openR ps t = res at *
  generalize Se.ins ps t = q at *
  generalize Se.outK ps t = out at *
  generalize Se.lo ps t = lo at *
  go_enter Try.func32, Try.ntmps32
  go_wp2_with fail
  go_loopw [5, 6, 7] (fun v p i wr => ∃ k : Nat, k ≤ ps.length ∧ i = .int .i64 (k : Int) ∧ p = .bool (decide (lo < k)) ∧ Hid (wr.ownsRow w.heap.size 49 4 v (out k).length ((out k).flatMap rowCells)) ∧ Hid (Below w.heap.size w wr)) (fun _ _ i _ => ps.length - (intOf i).toNat)
  case atStart => exact ⟨0, Nat.zero_le _, rfl, by simp, Lib.hid (by show World.ownsRow _ _ _ _ _ _ _; rw [Oz.out]; exact own_nil _ _ _ _), Lib.hid (Below.refl _ _)⟩
  case round =>
    obtain ⟨k, hk, rfl, rfl, hown, hbw⟩ := hrel
    have hsw := hbw.out.size
    have hol := O6.out k hk
    by_cases hlt : k < ps.length
    · obtain ⟨b, off, rfl, hbl, hc⟩ := HR.out.2 (by omega)
      have hcx := fun (W : World) (hb : Below w.heap.size w W) => row_cells (wr := W) hlt hc (fun p hp => hb.cell (p := p) (by omega)) hbl
      have Hcx := Lib.hid hcx
      obtain ⟨hc0, hc1, hc2, hc3⟩ := hcx wr hbw.out
      have hne := Hne.out k hlt
      have Hah' := Lib.hid (fun h => Hah.out k hlt h)
      have hbe' : Hid (k = lo → t ≤ ps[k].1) := fun e => by
        have : ∀ j (hj : j < ps.length), j = k → t ≤ ps[j].1 → t ≤ ps[k].1 := fun j hj e h => by subst e; exact h
        exact this lo (by omega) e.symm (Hbe.out (by omega))
      have O1' := Lib.hid (fun h => O1.out k h hlt)
      have O2' := Lib.hid (fun h => O2.out k h hlt)
      have O3' := Lib.hid (fun h => O3.out k h hlt)
      have hrw : Hid (rowCells ps[k] = [.int .i64 ps[k].1, .int .i64 ps[k].2.1, .int .i64 ps[k].2.2.1, .int .i64 ps[k].2.2.2]) := rfl
      clear hc hcx Hne Hah Hbe O1 O2 O3 O4 O5 O6 Oz Hsm Hbg
      generalize hp : ps[k] = p at *
      obtain ⟨s0, s1, s2, s3⟩ := p
      simp only at hc0 hc1 hc2 hc3 hrw hne Hah' hbe' Hcx
      have Hp := Lib.hid hp
      clear hp
      by_cases hput : lo < k
      · have Hout := Lib.hid (O1'.out hput)
        have hd : decide (lo < k) = true := decide_eq_true hput
        rw [hd]
        clear O1' O2' O3' hbe' Hah'
        go_wp2_with (at_builtin; refine wpList_push _ rfl _ _ 22 rfl w.heap.size 49 i0 _ 4 32 Try.underlying22 hi hz0 hz1 hz2 rfl (by decide) _ (out k).length _ (by rfl) hown.out [.int .i64 s0, .int .i64 s1, .int .i64 s2, .int .i64 s3] (by rfl) rfl (by simp [Value.oneCell']) (by unfold maxLen; omega) (by omega) w hbw.out hsw ?_; intro v8 w8 hown8 hb8)
        have Hown8 : Hid (w8.ownsRow w.heap.size 49 4 v8 (out (k + 1)).length ((out (k + 1)).flatMap rowCells)) := by
          show World.ownsRow _ _ _ _ _ _ _
          rw [Hout.out, List.length_append, List.flatMap_append]; exact hown8
        have Hb8 := Lib.hid hb8
        clear hown8 hb8
        go_wp2_with fail
        go_roundw
        case rel => exact ⟨k + 1, by omega, by go_num, by rw [decide_eq_true (by omega : lo < k + 1)], Hown8, Hb8⟩
        case measure => simp [intOf]; omega
      · have hd : decide (lo < k) = false := decide_eq_false hput
        rw [hd]
        by_cases hat : k = lo
        · have hgt : t < s0 := by have := hbe'.out hat; omega
          have Hout := Lib.hid (O3'.out hat)
          have hd2 : decide (t < s0) = true := decide_eq_true hgt
          have Hat := Lib.hid hat
          clear O1' O2' O3' hbe' Hah' hat
          go_wp2_with (first
            | (at_builtin; refine wpList_push (o := ⟨some 33, _, _, _, _, _⟩) _ rfl _ _ 22 rfl w.heap.size 49 i0 _ 4 32 Try.underlying22 hi hz0 hz1 hz2 rfl (by decide) _ (out k).length _ (by rfl) hown.out [.int .i64 t, .int .i64 0, .int .i64 t, .int .i64 t] (by rfl) rfl (by simp [Value.oneCell']) (by unfold maxLen; omega) (by omega) w hbw.out hsw ?_; intro v7 w7 hown7 hb7; obtain ⟨gx0, gx1, gx2, gx3⟩ := Hcx.out w7 hb7; have hsw7 := hb7.size; have Hown7 := Lib.hid hown7; have Hb7 := Lib.hid hb7; clear hown7 hb7)
            | (at_builtin; refine wpList_push (o := ⟨some 40, _, _, _, _, _⟩) _ rfl _ _ 22 rfl w.heap.size 49 i0 _ 4 32 Try.underlying22 hi hz0 hz1 hz2 rfl (by decide) _ ((out k).length + 1) _ (by rfl) Hown7.out [.int .i64 s0, .int .i64 s1, .int .i64 s2, .int .i64 s3] (by rfl) rfl (by simp [Value.oneCell']) (by unfold maxLen; omega) (by omega) w Hb7.out hsw7 ?_; intro v8 w8 hown8 hb8))
          have Hown8 : Hid (w8.ownsRow w.heap.size 49 4 v8 (out (k + 1)).length ((out (k + 1)).flatMap rowCells)) := by
            show World.ownsRow _ _ _ _ _ _ _
            rw [Hout.out, List.length_append, List.length_append, List.flatMap_append, List.flatMap_append]; exact hown8
          have Hb8 := Lib.hid hb8
          clear hown8 hb8
          go_wp2_with fail
          go_roundw
          case rel => exact ⟨k + 1, by omega, by go_num, by rw [decide_eq_true (by have := Hat.out; omega : lo < k + 1)], Hown8, Hb8⟩
          case measure => simp [intOf]; omega
        · have hle : ¬ t < s0 := by have := Hah'.out (by omega); omega
          have Hout := Lib.hid (O2'.out (by omega))
          have hd2 : decide (t < s0) = false := decide_eq_false hle
          clear O1' O2' O3' hbe' Hah'
          go_wp2_with (at_builtin; refine wpList_push _ rfl _ _ 22 rfl w.heap.size 49 i0 _ 4 32 Try.underlying22 hi hz0 hz1 hz2 rfl (by decide) _ (out k).length _ (by rfl) hown.out [.int .i64 s0, .int .i64 s1, .int .i64 s2, .int .i64 s3] (by rfl) rfl (by simp [Value.oneCell']) (by unfold maxLen; omega) (by omega) w hbw.out hsw ?_; intro v8 w8 hown8 hb8)
          have Hown8 : Hid (w8.ownsRow w.heap.size 49 4 v8 (out (k + 1)).length ((out (k + 1)).flatMap rowCells)) := by
            show World.ownsRow _ _ _ _ _ _ _
            rw [Hout.out, List.length_append, List.flatMap_append]; exact hown8
          have Hb8 := Lib.hid hb8
          clear hown8 hb8
          go_wp2_with fail
          go_roundw
          case rel => exact ⟨k + 1, by omega, by go_num, by rw [decide_eq_false (by omega : ¬ lo < k + 1)], Hown8, Hb8⟩
          case measure => simp [intOf]; omega
    · obtain rfl : k = ps.length := by omega
      by_cases hput : lo < ps.length
      · have hq := O4.out hput
        rw [hq, hil] at hown
        obtain ⟨Aq, cq, rfl, hnq, _⟩ := own_slice hown.out
        obtain ⟨gq, rfl, hgq1, hgq2⟩ := own_some hown.out (by omega)
        have Hq := Lib.hid hown.out
        have Hbq := Lib.hid hbw.out
        obtain ⟨wq, hwq⟩ : ∃ wq, wq = wr := ⟨_, rfl⟩
        subst hwq
        have hd : decide (lo < ps.length) = true := decide_eq_true hput
        rw [hd]
        clear hown hbw O1 O2 O3 O4 O5 O6 Oz Hne Hah Hbe hq
        by_cases h3 : ps.length + 1 ≤ 4
        · have Hres : Hid (res = q) := Hsm.out h3
          have hlen : ((ps.length : Int) + 1 ≤ 4) := by omega
          clear Hsm Hbg
          go_wp2_with fail
          go_ret
          exact ⟨_, rfl, by rw [Hres.out, hil]; exact Hq.out, Hbq.out⟩
        · have Hres := Lib.hid (Hbg.out h3)
          have hlen : ¬ ((ps.length : Int) + 1 ≤ 4) := by omega
          clear Hsm Hbg
          go_wp2_with fail
          have HC := fun k hk => Lib.hid (row_own_cells Hq.out k hk)
          have HLs := Lib.hid (fun j hj => least_step q j hj)
          have HLl := Lib.hid (fun j => Se.leastK_le q j)
          go_loopw [8, 9] (fun l i wx => ∃ j n m : Nat, 1 ≤ j ∧ j ≤ ps.length + 1 ∧ i = .int .i64 (j : Int) ∧ l = .int .i64 (m : Int) ∧ Hid (m = Se.leastK q j) ∧ wx = wq.drewN n) (fun _ i _ => ps.length + 1 - (intOf i).toNat)
          case atStart => exact ⟨1, 0, 0, Nat.le_refl _, by omega, rfl, rfl, Lib.hid (by show _ = _; rw [Se.leastK, Se.leastK]; simp), rfl⟩
          case round =>
            obtain ⟨j, n, m, hj1, hj, rfl, rfl, hmk, rfl⟩ := hrel
            have hml : m ≤ j - 1 := by rw [hmk.out]; exact HLl.out j
            by_cases hlt2 : j < ps.length + 1
            · have hc1 := (HC j (by omega)).out.2.2.2
              have hc2 := (HC m (by omega)).out.2.2.2
              have hst := HLs.out j (by omega)
              have hst2 : Hid (Se.leastK q (j + 1) = if (q[j]'(by omega)).2.2.2 < (q[m]'(by omega)).2.2.2 then j else m) := by
                show _ = _
                rw [hst]
                have : ∀ k (hk : k < q.length), k = m → (if (q[j]'(by omega)).2.2.2 < q[k].2.2.2 then j else k) = (if (q[j]'(by omega)).2.2.2 < (q[m]'(by omega)).2.2.2 then j else m) := fun k hk e => by subst e; rfl
                exact this _ _ hmk.out.symm
              clear hst
              generalize (q[j]'(by omega)).2.2.2 = x at *
              generalize (q[m]'(by omega)).2.2.2 = y at *
              by_cases hxy : x < y
              · have hF : Hid (j = Se.leastK q (j + 1)) := by show _ = _; rw [hst2.out, if_pos hxy]
                have hd : decide (x < y) = true := decide_eq_true hxy
                clear hst2
                go_wp2_with fail
                go_quiet (fail)
                go_wp2_with fail
                go_roundw
                case rel => exact ⟨j + 1, n + nq, j, by omega, by omega, by go_num, rfl, hF, by first | rfl | rw [World.drewN_drewN]⟩
                case measure => simp [intOf]; omega
              · have hF : Hid (m = Se.leastK q (j + 1)) := by show _ = _; rw [hst2.out, if_neg hxy]
                have hd : decide (x < y) = false := decide_eq_false hxy
                clear hst2
                go_wp2_with fail
                go_quiet (fail)
                go_wp2_with fail
                go_roundw
                case rel => exact ⟨j + 1, n + nq, m, by omega, by omega, by go_num, rfl, hF, by first | rfl | rw [World.drewN_drewN]⟩
                case measure => simp [intOf]; omega
            · obtain rfl : j = ps.length + 1 := by omega
              have Hres2 : Hid (res = q.eraseIdx m) := by show _ = _; rw [Hres.out, hil, ← hmk.out]
              have hml' : m ≤ ps.length := by omega
              clear hmk HC HLs HLl
              have hmm : (m : Int) ≤ (ps.length : Int) + 1 := by omega
              have hw1 : IntKind.i64.wrap ((m : Int) + 1) = (m : Int) + 1 := by rw [IntKind.wrap_i64]; omega
              have hbs := Hbq.out.size
              have HqW := Lib.hid (own_drewN Hq.out n)
              have HbW := Lib.hid (below_drewN Hbq.out n)
              have hsW : w.heap.size ≤ (wq.drewN n).heap.size := hbs
              generalize wq.drewN n = W at *
              have Ho0 : Hid (((W.alloc (.cells #[] 49)).drew).ownsRow w.heap.size 49 4 (.slice (some ⟨W.heap.size, 0, none⟩) 0 0) 0 []) := own_drewN (own_empty W w.heap.size 49 4 hsW) 1
              have hbs7 : w.heap.size ≤ ((W.alloc (.cells #[] 49)).drew).heap.size := by show _ ≤ (W.alloc _).heap.size; simp; omega
              have Hr1 := Lib.hid (reads_take (.cells #[] 49) HqW.out (show m ≤ ps.length + 1 by omega))
              have mixed : Try.prog.follows .mixedOrders = true := by kernel_rfl
              have htn : ((m : Int) + 1).toNat = m + 1 := by omega
              have hb1 : (0 : Int) ≤ (m : Int) + 1 := by omega
              have hmc : m ≤ cq := by omega
              have hmc0 : ¬ (cq = 0) := by omega
              have hlee : (q.eraseIdx m).length = ps.length := by rw [List.length_eraseIdx_of_lt (by omega), hil]; omega
              by_cases hmn : m = ps.length
              · have hdn : q.drop (m + 1) = [] := List.drop_eq_nil_of_le (by omega)
                have HR2 : Hid (∀ w7, ((W.alloc (.cells #[] 49)).drew).grownBy w7 (some W.heap.size) → ∀ A, Reads w7 W.heap.size 4 A 0 []) := fun _ _ _ => Reads.none_
                have Hk : Hid (0 + m + 0 = res.length) := by show _ = _; rw [Hres2.out, hlee]; omega
                have Hys : Hid ([] ++ (q.take m).flatMap rowCells ++ [] = res.flatMap rowCells) := by show _ = _; rw [Hres2.out, List.eraseIdx_eq_take_drop_succ, hdn]; simp
                have hmx : (m : Int) + 1 ≤ (ps.length : Int) + 1 := by omega
                clear Hres2 hlee hdn
                subst hmn
                by_cases hce : cq = ps.length + 1
                · subst hce
                  go_wp2_with fail
                  go_region_law_o (first
                    | (refine step_append_own (o := ⟨some 76, _, _, _, _, _⟩) _ rfl (.tmp 72) (.tmp 75) 22 rfl w.heap.size 49 i0 _ 4 32 Try.underlying22 hi hz0 hz1 hz2 rfl (by decide) (.slice (some ⟨W.heap.size, 0, none⟩) 0 0) 0 [] (by simp [Act.eval]) Ho0.out W.heap.size (some ⟨gq, 0, none⟩) ps.length (ps.length + 1) _ (by simp [Act.eval]) Hr1.out (rowCells_one _) (by unfold maxLen; omega) (by omega) hbs7 ?_; intro v7 w7 hown7 hg7 hor7; have Hown7 := Lib.hid hown7; have Hg7 := Lib.hid hg7; have Hr2 := Lib.hid (HR2.out w7 hg7 (some ⟨gq, 0, none⟩)); have hs7 := Nat.le_trans hbs7 hg7.size; clear hown7 hg7 hor7)
                    | (refine step_append_own (o := ⟨some 81, _, _, _, _, _⟩) _ rfl (.tmp 76) (.tmp 80) 22 rfl w.heap.size 49 i0 _ 4 32 Try.underlying22 hi hz0 hz1 hz2 rfl (by decide) v7 (0 + ps.length) _ (by simp [Act.eval]) Hown7.out W.heap.size (some ⟨gq, 0, none⟩) 0 0 _ (by simp [Act.eval]) Hr2.out (by simp) (by unfold maxLen; omega) (by omega) hs7 ?_; intro v8 w8 hown8 hg8 hor8; have Hfin := Lib.hid (ropen_fin HbW.out Hown7.out Hg7.out hg8 hown8 Hk.out Hys.out); clear hown8 hg8 hor8))
                  all_goals
                    go_wp2_with fail
                    go_ret
                    exact Hfin.out
                · go_wp2_with fail
                  go_region_law_o (first
                    | (refine step_append_own (o := ⟨some 76, _, _, _, _, _⟩) _ rfl (.tmp 72) (.tmp 75) 22 rfl w.heap.size 49 i0 _ 4 32 Try.underlying22 hi hz0 hz1 hz2 rfl (by decide) (.slice (some ⟨W.heap.size, 0, none⟩) 0 0) 0 [] (by simp [Act.eval]) Ho0.out W.heap.size (some ⟨gq, 0, none⟩) ps.length cq _ (by simp [Act.eval]) Hr1.out (rowCells_one _) (by unfold maxLen; omega) (by omega) hbs7 ?_; intro v7 w7 hown7 hg7 hor7; have Hown7 := Lib.hid hown7; have Hg7 := Lib.hid hg7; have Hr2 := Lib.hid (HR2.out w7 hg7 (some ⟨gq, (ps.length + 1) * 4, none⟩)); have hs7 := Nat.le_trans hbs7 hg7.size; clear hown7 hg7 hor7)
                    | (refine step_append_own (o := ⟨some 81, _, _, _, _, _⟩) _ rfl (.tmp 76) (.tmp 80) 22 rfl w.heap.size 49 i0 _ 4 32 Try.underlying22 hi hz0 hz1 hz2 rfl (by decide) v7 (0 + ps.length) _ (by simp [Act.eval]) Hown7.out W.heap.size (some ⟨gq, (ps.length + 1) * 4, none⟩) 0 (cq - (ps.length + 1)) _ (by simp [Act.eval]) Hr2.out (by simp) (by unfold maxLen; omega) (by omega) hs7 ?_; intro v8 w8 hown8 hg8 hor8; have Hfin := Lib.hid (ropen_fin HbW.out Hown7.out Hg7.out hg8 hown8 Hk.out Hys.out); clear hown8 hg8 hor8))
                  all_goals
                    go_wp2_with fail
                    go_ret
                    exact Hfin.out
              · have HR2 : Hid (∀ w7, ((W.alloc (.cells #[] 49)).drew).grownBy w7 (some W.heap.size) → Reads w7 W.heap.size 4 (some ⟨gq, (m + 1) * 4, none⟩) (ps.length + 1 - (m + 1)) ((q.drop (m + 1)).flatMap rowCells)) := fun w7 hg7 => reads_drop HqW.out (by omega) hil hg7
                rw [show ps.length + 1 - (m + 1) = ps.length - m from by omega] at HR2
                have Hk : Hid (0 + m + (ps.length - m) = res.length) := by show _ = _; rw [Hres2.out, hlee]; omega
                have Hys : Hid ([] ++ (q.take m).flatMap rowCells ++ (q.drop (m + 1)).flatMap rowCells = res.flatMap rowCells) := by show _ = _; rw [Hres2.out, List.eraseIdx_eq_take_drop_succ]; simp
                have hce : ¬ (cq = m + 1) := by omega
                have hmx : (m : Int) + 1 ≤ (ps.length : Int) + 1 := by omega
                clear Hres2 hlee
                go_wp2_with fail
                go_region_law_o (first
                  | (refine step_append_own (o := ⟨some 76, _, _, _, _, _⟩) _ rfl (.tmp 72) (.tmp 75) 22 rfl w.heap.size 49 i0 _ 4 32 Try.underlying22 hi hz0 hz1 hz2 rfl (by decide) (.slice (some ⟨W.heap.size, 0, none⟩) 0 0) 0 [] (by simp [Act.eval]) Ho0.out W.heap.size (some ⟨gq, 0, none⟩) m cq _ (by simp [Act.eval]) Hr1.out (rowCells_one _) (by unfold maxLen; omega) (by omega) hbs7 ?_; intro v7 w7 hown7 hg7 hor7; have Hown7 := Lib.hid hown7; have Hg7 := Lib.hid hg7; have Hr2 := Lib.hid (HR2.out w7 hg7); have hs7 := Nat.le_trans hbs7 hg7.size; clear hown7 hg7 hor7)
                  | (refine step_append_own (o := ⟨some 81, _, _, _, _, _⟩) _ rfl (.tmp 76) (.tmp 80) 22 rfl w.heap.size 49 i0 _ 4 32 Try.underlying22 hi hz0 hz1 hz2 rfl (by decide) v7 (0 + m) _ (by simp [Act.eval]) Hown7.out W.heap.size (some ⟨gq, (m + 1) * 4, none⟩) (ps.length - m) (cq - (m + 1)) _ (by simp [Act.eval]) Hr2.out (rowCells_one _) (by unfold maxLen; omega) (by omega) hs7 ?_; intro v8 w8 hown8 hg8 hor8; have Hfin := Lib.hid (ropen_fin HbW.out Hown7.out Hg7.out hg8 hown8 Hk.out Hys.out); clear hown8 hg8 hor8))
                all_goals
                  go_wp2_with fail
                  go_ret
                  exact Hfin.out
      · have hq := O5.out hput
        have hln : (out ps.length).length = ps.length := by have := congrArg List.length hq; rw [List.length_append, hil] at this; simpa using this
        have hd : decide (lo < ps.length) = false := decide_eq_false hput
        rw [hd]
        have hqc : (out ps.length).flatMap rowCells ++ [.int .i64 t, .int .i64 0, .int .i64 t, .int .i64 t] = q.flatMap rowCells := by rw [← hq, List.flatMap_append]; rfl
        rw [hln] at hown
        have Hqc := Lib.hid hqc
        clear O1 O2 O3 O4 O5 O6 Oz Hne Hah Hbe hq hln hqc hol
        by_cases h3 : ps.length + 1 ≤ 4
        · have Hres : Hid (res = q) := Hsm.out h3
          have hlen : ((ps.length : Int) + 1 ≤ 4) := by omega
          clear Hsm Hbg
          go_wp2_with (at_builtin; refine wpList_push _ rfl _ _ 22 rfl w.heap.size 49 i0 _ 4 32 Try.underlying22 hi hz0 hz1 hz2 rfl (by decide) _ ps.length _ (by rfl) hown.out [.int .i64 t, .int .i64 0, .int .i64 t, .int .i64 t] (by rfl) rfl (by simp [Value.oneCell']) (by unfold maxLen; omega) (by omega) w hbw.out hsw ?_; intro v7 wq hown7 hb7; rw [Hqc.out] at hown7; obtain ⟨gq, cq, rfl, hgq1, hgq2⟩ := hown7.form (by omega); have hcq := (own_cap hown7).1; have Hq := Lib.hid hown7; have Hbq := Lib.hid hb7; clear hown7 hb7)
          go_ret
          exact ⟨_, rfl, by rw [Hres.out, hil]; exact Hq.out, Hbq.out⟩
        · have Hres := Lib.hid (Hbg.out h3)
          have hlen : ¬ ((ps.length : Int) + 1 ≤ 4) := by omega
          clear Hsm Hbg
          go_wp2_with (at_builtin; refine wpList_push _ rfl _ _ 22 rfl w.heap.size 49 i0 _ 4 32 Try.underlying22 hi hz0 hz1 hz2 rfl (by decide) _ ps.length _ (by rfl) hown.out [.int .i64 t, .int .i64 0, .int .i64 t, .int .i64 t] (by rfl) rfl (by simp [Value.oneCell']) (by unfold maxLen; omega) (by omega) w hbw.out hsw ?_; intro v7 wq hown7 hb7; rw [Hqc.out] at hown7; obtain ⟨gq, cq, rfl, hgq1, hgq2⟩ := hown7.form (by omega); have hcq := (own_cap hown7).1; have Hq := Lib.hid hown7; have Hbq := Lib.hid hb7; clear hown7 hb7)
          have HC := fun k hk => Lib.hid (row_own_cells Hq.out k hk)
          have HLs := Lib.hid (fun j hj => least_step q j hj)
          have HLl := Lib.hid (fun j => Se.leastK_le q j)
          go_loopw [8, 9] (fun l i wx => ∃ j n m : Nat, 1 ≤ j ∧ j ≤ ps.length + 1 ∧ i = .int .i64 (j : Int) ∧ l = .int .i64 (m : Int) ∧ Hid (m = Se.leastK q j) ∧ wx = wq.drewN n) (fun _ i _ => ps.length + 1 - (intOf i).toNat)
          case atStart => exact ⟨1, 0, 0, Nat.le_refl _, by omega, rfl, rfl, Lib.hid (by show _ = _; rw [Se.leastK, Se.leastK]; simp), rfl⟩
          case round =>
            obtain ⟨j, n, m, hj1, hj, rfl, rfl, hmk, rfl⟩ := hrel
            have hml : m ≤ j - 1 := by rw [hmk.out]; exact HLl.out j
            by_cases hlt2 : j < ps.length + 1
            · have hc1 := (HC j (by omega)).out.2.2.2
              have hc2 := (HC m (by omega)).out.2.2.2
              have hst := HLs.out j (by omega)
              have hst2 : Hid (Se.leastK q (j + 1) = if (q[j]'(by omega)).2.2.2 < (q[m]'(by omega)).2.2.2 then j else m) := by
                show _ = _
                rw [hst]
                have : ∀ k (hk : k < q.length), k = m → (if (q[j]'(by omega)).2.2.2 < q[k].2.2.2 then j else k) = (if (q[j]'(by omega)).2.2.2 < (q[m]'(by omega)).2.2.2 then j else m) := fun k hk e => by subst e; rfl
                exact this _ _ hmk.out.symm
              clear hst
              generalize (q[j]'(by omega)).2.2.2 = x at *
              generalize (q[m]'(by omega)).2.2.2 = y at *
              by_cases hxy : x < y
              · have hF : Hid (j = Se.leastK q (j + 1)) := by show _ = _; rw [hst2.out, if_pos hxy]
                have hd : decide (x < y) = true := decide_eq_true hxy
                clear hst2
                go_wp2_with fail
                go_quiet (fail)
                go_wp2_with fail
                go_roundw
                case rel => exact ⟨j + 1, n + nq, j, by omega, by omega, by go_num, rfl, hF, by first | rfl | rw [World.drewN_drewN]⟩
                case measure => simp [intOf]; omega
              · have hF : Hid (m = Se.leastK q (j + 1)) := by show _ = _; rw [hst2.out, if_neg hxy]
                have hd : decide (x < y) = false := decide_eq_false hxy
                clear hst2
                go_wp2_with fail
                go_quiet (fail)
                go_wp2_with fail
                go_roundw
                case rel => exact ⟨j + 1, n + nq, m, by omega, by omega, by go_num, rfl, hF, by first | rfl | rw [World.drewN_drewN]⟩
                case measure => simp [intOf]; omega
            · obtain rfl : j = ps.length + 1 := by omega
              have Hres2 : Hid (res = q.eraseIdx m) := by show _ = _; rw [Hres.out, hil, ← hmk.out]
              have hml' : m ≤ ps.length := by omega
              clear hmk HC HLs HLl
              have hmm : (m : Int) ≤ (ps.length : Int) + 1 := by omega
              have hw1 : IntKind.i64.wrap ((m : Int) + 1) = (m : Int) + 1 := by rw [IntKind.wrap_i64]; omega
              have hbs := Hbq.out.size
              have HqW := Lib.hid (own_drewN Hq.out n)
              have HbW := Lib.hid (below_drewN Hbq.out n)
              have hsW : w.heap.size ≤ (wq.drewN n).heap.size := hbs
              generalize wq.drewN n = W at *
              have Ho0 : Hid (((W.alloc (.cells #[] 49)).drew).ownsRow w.heap.size 49 4 (.slice (some ⟨W.heap.size, 0, none⟩) 0 0) 0 []) := own_drewN (own_empty W w.heap.size 49 4 hsW) 1
              have hbs7 : w.heap.size ≤ ((W.alloc (.cells #[] 49)).drew).heap.size := by show _ ≤ (W.alloc _).heap.size; simp; omega
              have Hr1 := Lib.hid (reads_take (.cells #[] 49) HqW.out (show m ≤ ps.length + 1 by omega))
              have mixed : Try.prog.follows .mixedOrders = true := by kernel_rfl
              have htn : ((m : Int) + 1).toNat = m + 1 := by omega
              have hb1 : (0 : Int) ≤ (m : Int) + 1 := by omega
              have hmc : m ≤ cq := by omega
              have hmc0 : ¬ (cq = 0) := by omega
              have hlee : (q.eraseIdx m).length = ps.length := by rw [List.length_eraseIdx_of_lt (by omega), hil]; omega
              by_cases hmn : m = ps.length
              · have hdn : q.drop (m + 1) = [] := List.drop_eq_nil_of_le (by omega)
                have HR2 : Hid (∀ w7, ((W.alloc (.cells #[] 49)).drew).grownBy w7 (some W.heap.size) → ∀ A, Reads w7 W.heap.size 4 A 0 []) := fun _ _ _ => Reads.none_
                have Hk : Hid (0 + m + 0 = res.length) := by show _ = _; rw [Hres2.out, hlee]; omega
                have Hys : Hid ([] ++ (q.take m).flatMap rowCells ++ [] = res.flatMap rowCells) := by show _ = _; rw [Hres2.out, List.eraseIdx_eq_take_drop_succ, hdn]; simp
                have hmx : (m : Int) + 1 ≤ (ps.length : Int) + 1 := by omega
                clear Hres2 hlee hdn
                subst hmn
                by_cases hce : cq = ps.length + 1
                · subst hce
                  go_wp2_with fail
                  go_region_law_o (first
                    | (refine step_append_own (o := ⟨some 76, _, _, _, _, _⟩) _ rfl (.tmp 72) (.tmp 75) 22 rfl w.heap.size 49 i0 _ 4 32 Try.underlying22 hi hz0 hz1 hz2 rfl (by decide) (.slice (some ⟨W.heap.size, 0, none⟩) 0 0) 0 [] (by simp [Act.eval]) Ho0.out W.heap.size (some ⟨gq, 0, none⟩) ps.length (ps.length + 1) _ (by simp [Act.eval]) Hr1.out (rowCells_one _) (by unfold maxLen; omega) (by omega) hbs7 ?_; intro v7 w7 hown7 hg7 hor7; have Hown7 := Lib.hid hown7; have Hg7 := Lib.hid hg7; have Hr2 := Lib.hid (HR2.out w7 hg7 (some ⟨gq, 0, none⟩)); have hs7 := Nat.le_trans hbs7 hg7.size; clear hown7 hg7 hor7)
                    | (refine step_append_own (o := ⟨some 81, _, _, _, _, _⟩) _ rfl (.tmp 76) (.tmp 80) 22 rfl w.heap.size 49 i0 _ 4 32 Try.underlying22 hi hz0 hz1 hz2 rfl (by decide) v7 (0 + ps.length) _ (by simp [Act.eval]) Hown7.out W.heap.size (some ⟨gq, 0, none⟩) 0 0 _ (by simp [Act.eval]) Hr2.out (by simp) (by unfold maxLen; omega) (by omega) hs7 ?_; intro v8 w8 hown8 hg8 hor8; have Hfin := Lib.hid (ropen_fin HbW.out Hown7.out Hg7.out hg8 hown8 Hk.out Hys.out); clear hown8 hg8 hor8))
                  all_goals
                    go_wp2_with fail
                    go_ret
                    exact Hfin.out
                · go_wp2_with fail
                  go_region_law_o (first
                    | (refine step_append_own (o := ⟨some 76, _, _, _, _, _⟩) _ rfl (.tmp 72) (.tmp 75) 22 rfl w.heap.size 49 i0 _ 4 32 Try.underlying22 hi hz0 hz1 hz2 rfl (by decide) (.slice (some ⟨W.heap.size, 0, none⟩) 0 0) 0 [] (by simp [Act.eval]) Ho0.out W.heap.size (some ⟨gq, 0, none⟩) ps.length cq _ (by simp [Act.eval]) Hr1.out (rowCells_one _) (by unfold maxLen; omega) (by omega) hbs7 ?_; intro v7 w7 hown7 hg7 hor7; have Hown7 := Lib.hid hown7; have Hg7 := Lib.hid hg7; have Hr2 := Lib.hid (HR2.out w7 hg7 (some ⟨gq, (ps.length + 1) * 4, none⟩)); have hs7 := Nat.le_trans hbs7 hg7.size; clear hown7 hg7 hor7)
                    | (refine step_append_own (o := ⟨some 81, _, _, _, _, _⟩) _ rfl (.tmp 76) (.tmp 80) 22 rfl w.heap.size 49 i0 _ 4 32 Try.underlying22 hi hz0 hz1 hz2 rfl (by decide) v7 (0 + ps.length) _ (by simp [Act.eval]) Hown7.out W.heap.size (some ⟨gq, (ps.length + 1) * 4, none⟩) 0 (cq - (ps.length + 1)) _ (by simp [Act.eval]) Hr2.out (by simp) (by unfold maxLen; omega) (by omega) hs7 ?_; intro v8 w8 hown8 hg8 hor8; have Hfin := Lib.hid (ropen_fin HbW.out Hown7.out Hg7.out hg8 hown8 Hk.out Hys.out); clear hown8 hg8 hor8))
                  all_goals
                    go_wp2_with fail
                    go_ret
                    exact Hfin.out
              · have HR2 : Hid (∀ w7, ((W.alloc (.cells #[] 49)).drew).grownBy w7 (some W.heap.size) → Reads w7 W.heap.size 4 (some ⟨gq, (m + 1) * 4, none⟩) (ps.length + 1 - (m + 1)) ((q.drop (m + 1)).flatMap rowCells)) := fun w7 hg7 => reads_drop HqW.out (by omega) hil hg7
                rw [show ps.length + 1 - (m + 1) = ps.length - m from by omega] at HR2
                have Hk : Hid (0 + m + (ps.length - m) = res.length) := by show _ = _; rw [Hres2.out, hlee]; omega
                have Hys : Hid ([] ++ (q.take m).flatMap rowCells ++ (q.drop (m + 1)).flatMap rowCells = res.flatMap rowCells) := by show _ = _; rw [Hres2.out, List.eraseIdx_eq_take_drop_succ]; simp
                have hce : ¬ (cq = m + 1) := by omega
                have hmx : (m : Int) + 1 ≤ (ps.length : Int) + 1 := by omega
                clear Hres2 hlee
                go_wp2_with fail
                go_region_law_o (first
                  | (refine step_append_own (o := ⟨some 76, _, _, _, _, _⟩) _ rfl (.tmp 72) (.tmp 75) 22 rfl w.heap.size 49 i0 _ 4 32 Try.underlying22 hi hz0 hz1 hz2 rfl (by decide) (.slice (some ⟨W.heap.size, 0, none⟩) 0 0) 0 [] (by simp [Act.eval]) Ho0.out W.heap.size (some ⟨gq, 0, none⟩) m cq _ (by simp [Act.eval]) Hr1.out (rowCells_one _) (by unfold maxLen; omega) (by omega) hbs7 ?_; intro v7 w7 hown7 hg7 hor7; have Hown7 := Lib.hid hown7; have Hg7 := Lib.hid hg7; have Hr2 := Lib.hid (HR2.out w7 hg7); have hs7 := Nat.le_trans hbs7 hg7.size; clear hown7 hg7 hor7)
                  | (refine step_append_own (o := ⟨some 81, _, _, _, _, _⟩) _ rfl (.tmp 76) (.tmp 80) 22 rfl w.heap.size 49 i0 _ 4 32 Try.underlying22 hi hz0 hz1 hz2 rfl (by decide) v7 (0 + m) _ (by simp [Act.eval]) Hown7.out W.heap.size (some ⟨gq, (m + 1) * 4, none⟩) (ps.length - m) (cq - (m + 1)) _ (by simp [Act.eval]) Hr2.out (rowCells_one _) (by unfold maxLen; omega) (by omega) hs7 ?_; intro v8 w8 hown8 hg8 hor8; have Hfin := Lib.hid (ropen_fin HbW.out Hown7.out Hg7.out hg8 hown8 Hk.out Hys.out); clear hown8 hg8 hor8))
                all_goals
                  go_wp2_with fail
                  go_ret
                  exact Hfin.out
end Go.Proofs.Ytllbjegnjjeaeaa
