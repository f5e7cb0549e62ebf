/- Joined texts. -/
import Derived.Test.YtcchekmejnhlmaaGreatKEvRp
namespace Go.Proofs.YtcchekmejnhlmaaGreat
open Go.RowKit
set_option linter.unusedVariables false
set_option maxRecDepth 100000 in
theorem rep_act (tm : Array Value) (h : tm.size = 135) : tm = #[tm.getD 0 undef, tm.getD 1 undef, tm.getD 2 undef, tm.getD 3 undef, tm.getD 4 undef, tm.getD 5 undef, tm.getD 6 undef, tm.getD 7 undef, tm.getD 8 undef, tm.getD 9 undef, tm.getD 10 undef, tm.getD 11 undef, tm.getD 12 undef, tm.getD 13 undef, tm.getD 14 undef, tm.getD 15 undef, tm.getD 16 undef, tm.getD 17 undef, tm.getD 18 undef, tm.getD 19 undef, tm.getD 20 undef, tm.getD 21 undef, tm.getD 22 undef, tm.getD 23 undef, tm.getD 24 undef, tm.getD 25 undef, tm.getD 26 undef, tm.getD 27 undef, tm.getD 28 undef, tm.getD 29 undef, tm.getD 30 undef, tm.getD 31 undef, tm.getD 32 undef, tm.getD 33 undef, tm.getD 34 undef, tm.getD 35 undef, tm.getD 36 undef, tm.getD 37 undef, tm.getD 38 undef, tm.getD 39 undef, tm.getD 40 undef, tm.getD 41 undef, tm.getD 42 undef, tm.getD 43 undef, tm.getD 44 undef, tm.getD 45 undef, tm.getD 46 undef, tm.getD 47 undef, tm.getD 48 undef, tm.getD 49 undef, tm.getD 50 undef, tm.getD 51 undef, tm.getD 52 undef, tm.getD 53 undef, tm.getD 54 undef, tm.getD 55 undef, tm.getD 56 undef, tm.getD 57 undef, tm.getD 58 undef, tm.getD 59 undef, tm.getD 60 undef, tm.getD 61 undef, tm.getD 62 undef, tm.getD 63 undef, tm.getD 64 undef, tm.getD 65 undef, tm.getD 66 undef, tm.getD 67 undef, tm.getD 68 undef, tm.getD 69 undef, tm.getD 70 undef, tm.getD 71 undef, tm.getD 72 undef, tm.getD 73 undef, tm.getD 74 undef, tm.getD 75 undef, tm.getD 76 undef, tm.getD 77 undef, tm.getD 78 undef, tm.getD 79 undef, tm.getD 80 undef, tm.getD 81 undef, tm.getD 82 undef, tm.getD 83 undef, tm.getD 84 undef, tm.getD 85 undef, tm.getD 86 undef, tm.getD 87 undef, tm.getD 88 undef, tm.getD 89 undef, tm.getD 90 undef, tm.getD 91 undef, tm.getD 92 undef, tm.getD 93 undef, tm.getD 94 undef, tm.getD 95 undef, tm.getD 96 undef, tm.getD 97 undef, tm.getD 98 undef, tm.getD 99 undef, tm.getD 100 undef, tm.getD 101 undef, tm.getD 102 undef, tm.getD 103 undef, tm.getD 104 undef, tm.getD 105 undef, tm.getD 106 undef, tm.getD 107 undef, tm.getD 108 undef, tm.getD 109 undef, tm.getD 110 undef, tm.getD 111 undef, tm.getD 112 undef, tm.getD 113 undef, tm.getD 114 undef, tm.getD 115 undef, tm.getD 116 undef, tm.getD 117 undef, tm.getD 118 undef, tm.getD 119 undef, tm.getD 120 undef, tm.getD 121 undef, tm.getD 122 undef, tm.getD 123 undef, tm.getD 124 undef, tm.getD 125 undef, tm.getD 126 undef, tm.getD 127 undef, tm.getD 128 undef, tm.getD 129 undef, tm.getD 130 undef, tm.getD 131 undef, tm.getD 132 undef, tm.getD 133 undef, tm.getD 134 undef] := by
  have := Ev.arr_lit tm
  rw [h] at this
  exact this
namespace Ev
noncomputable section
def dmgScs (j len : Nat) : List Sc := [.i .i64 (.ofNat 9), .i .i64 (.ofNat j), .i .i64 (.ofNat 1), .xx 0 0 len 0, .i .i64 (.ofNat 0), .i .i64 (.ofNat 0), .i .i64 (.ofNat 0), .i .i64 (.ofNat 0), .i .i64 (.ofNat 0), .i .i64 (.ofNat 0), .i .i64 (.ofNat 0), .i .i64 (.ofNat 0), .i .i64 (.ofNat 0), .i .i64 (.ofNat 0), .i .i64 (.ofNat 0), .i .i64 (.ofNat 0), .i .i64 (.ofNat 0), .i .i64 (.ofNat 0), .s 0 0, .sn, .i .i64 (.ofNat 0), .s 0 0, .sn, .s 0 0]
def W6 : List Nat := [17, 18, 16, 14, 110, 1, 74, 12, 13, 11, 0, 55, 40, 10, 38, 7, 31, 2, 9, 26, 8, 20, 6]
def rpD (t : T8 V) (yid wid : Nat) (r : Rs) : Option (T8 V × HT × Nat) := match r with
  | .ok v H n => (match hget H yid with
    | .row k x dep d tt => cnd (Nat.ble 1 k) (match tget dep d tt 0 with | .p w2 o2 => cnd (and (Nat.beq w2 wid) (Nat.beq o2 0)) (some (tset 2 t 3 v, H, n)) none | _ => none) none
    | _ => none)
  | .no => none
def rpW (t : T8 V) (yid j len : Nat) (p : Sc) (H : HT) (n : Nat) : Option (T8 V × HT × Nat) := match p with
  | .p wid off => cnd (Nat.beq off 0) (rpD t yid wid (callB5 11 [.c (.p wid 0), .a (dmgScs j len)] H n)) none
  | _ => none
def rpY (t : T8 V) (yid j len : Nat) (H : HT) (n : Nat) : Option (T8 V × HT × Nat) := match hget H yid with
  | .row k x dep d tt => cnd (Nat.ble 1 k) (rpW t yid j len (tget dep d tt 0) H n) none
  | _ => none
def repH (t : T8 V) (H : HT) (n : Nat) : Option (T8 V × HT × Nat) := match tget 2 (V.t []) t 15, tget 2 (V.t []) t 9, tget 2 (V.t []) t 7 with
  | .c (.p yid off), .c (.i .i64 (.ofNat j)), .c (.s len m) => cnd (and (and (Nat.beq off 0) (Nat.blt yid HB)) (and (Nat.blt 0 len) (Nat.ble len 1000000))) (rpY t yid j len H n) none
  | _, _, _ => none
theorem repH_ok {t t' : T8 V} {H H' : HT} {n n' : Nat} (h : repH t H n = some (t', H', n')) : ∃ yid j len m k x dep d tt wid v k2 x2 dep2 d2 tt2,
    tget 2 (V.t []) t 15 = .c (.p yid 0) ∧ tget 2 (V.t []) t 9 = .c (.i .i64 (.ofNat j)) ∧ tget 2 (V.t []) t 7 = .c (.s len m) ∧ yid < HB ∧ 0 < len ∧ len ≤ 1000000 ∧ hget H yid = .row k x dep d tt ∧ 1 ≤ k ∧ tget dep d tt 0 = .p wid 0 ∧
    callB5 11 [.c (.p wid 0), .a (dmgScs j len)] H n = .ok v H' n' ∧ hget H' yid = .row k2 x2 dep2 d2 tt2 ∧ 1 ≤ k2 ∧ tget dep2 d2 tt2 0 = .p wid 0 ∧ t' = tset 2 t 3 v := by
  unfold repH at h
  split at h
  · rename_i yid off j len m e1 e2 e3
    have qq := cond_some h
    clear h
    obtain ⟨hb, h⟩ := qq
    rw [Bool.and_eq_true, Bool.and_eq_true, Bool.and_eq_true] at hb
    have o0 := nbeq_eq hb.1.1
    have hy := blt_true hb.1.2
    have hl := blt_true hb.2.1
    have hl2 := ble_true hb.2.2
    subst o0
    unfold rpY at h
    split at h
    · rename_i k x dep d tt oy
      have qq := cond_some h
      clear h
      obtain ⟨hk, h⟩ := qq
      have hk := ble_true hk
      unfold rpW at h
      split at h
      · rename_i wid woff e0
        have qq := cond_some h
        clear h
        obtain ⟨hw, h⟩ := qq
        have hw := nbeq_eq hw
        subst hw
        unfold rpD at h
        split at h
        · rename_i v H1 n1 hr
          split at h
          · rename_i k2 x2 dep2 d2 tt2 oy2
            have qq := cond_some h
            clear h
            obtain ⟨hk2, h⟩ := qq
            have hk2 := ble_true hk2
            split at h
            · rename_i w2 o2 f0
              have qq := cond_some h
              clear h
              obtain ⟨hb2, h⟩ := qq
              rw [Bool.and_eq_true] at hb2
              have a1 := nbeq_eq hb2.1
              have a2 := nbeq_eq hb2.2
              subst a1
              subst a2
              cases h
              exact ⟨yid, j, len, m, k, x, dep, d, tt, _, v, k2, x2, dep2, d2, tt2, e1, e2, e3, hy, hl, hl2, oy, hk, e0, hr, oy2, hk2, f0, rfl⟩
            · cases h
          · cases h
        · cases h
      · cases h
    · cases h
  · cases h
set_option maxRecDepth 1000000 in
theorem rep_hole {t t' : T8 V} {H H' : HT} {n n' : Nat} {at_ : Int} (h : repH t H n = some (t', H', n')) (h5 : tget 2 (V.t []) t 5 = .c (.i .i64 at_)) : Rq Tryz.prog 135 W6 repReg t H n .nx t' H' n' := by
  obtain ⟨yid, j, len, m, k, x, dep, d, tt, wid, v, k2, x2, dep2, d2, tt2, r15, r9, r7, hy, hl, hl2, oy, hk, e0, hr, oy2, hk2, f0, rfl⟩ := repH_ok h
  intro G a w hR hrg hn hg Q hQ
  obtain ⟨tm, ds⟩ := a
  have hn : tm.size = 135 := hn
  have reg : ∀ i (hi : i < 23), V.ok G (tget 2 (V.t []) t i) (tm.getD (W6[i]'hi) undef) := fun i hi => hrg.w i hi (by
    show W6[i]'hi < tm.size
    rw [hn]
    have : ∀ x ∈ W6, x < 135 := by decide
    exact this _ (List.getElem_mem hi))
  obtain ⟨yb, ysz, gy, e7⟩ : ∃ b sz, G yid = some (b, sz) ∧ tm.getD 7 undef = .pointer (some ⟨b, 0, none⟩) := by
    have := reg 15 (by decide)
    rw [r15] at this
    exact this
  have e11 : tm.getD 11 undef = .int .i64 (j : Int) := by
    have := reg 9 (by decide)
    rw [r9] at this
    exact this
  have e1 : tm.getD 1 undef = .int .i64 at_ := by
    have := reg 5 (by decide)
    rw [h5] at this
    exact this
  obtain ⟨s, e12, s1, s2⟩ : ∃ s : ByteArray, tm.getD 12 undef = .string s ∧ s.data.toList.length = len ∧ pk s.data.toList = m := by
    have := reg 7 (by decide)
    rw [r7] at this
    exact this
  have hsz : s.size = len := by rw [← s1, Array.length_toList]; rfl
  obtain ⟨yb', ysz', ya, yel, yfz, gy', Ly⟩ := hR.lies (id := yid) ((hp_get hy).trans oy)
  rw [gy] at gy'
  cases gy'
  have y0 := Ly.cell 0 (by omega)
  rw [e0] at y0
  obtain ⟨wb, wsz, gw, y0⟩ := y0
  have hyc : w.cell? ⟨yb, 0, none⟩ = some (.pointer (some ⟨wb, 0, none⟩)) := by
    rw [cell_at (off := 0) Ly.hb (by have := Ly.size; have := Ly.le; omega), y0]
  obtain ⟨_, hnn, kc⟩ := callB5_ok _ _ _ _ _ _ _ hr
  refine wp_mono (Q := Exit.then (Q .normal) fun _ _ _ => False) ?_ (fun e a w q => by cases e <;> first | exact q | exact q.elim)
  rw [rep_act tm hn, e7, e11, e1, e12]
  refine rep_region (Q .normal) ds _ _ _ _ _ _ _ _ _ _ _ _ _ _ _ _ _ _ _ _ _ _ _ _ _ _ _ _ _ _ _ _ _ _ _ _ _ _ _ _ _ _ _ _ _ _ _ _ _ _ _ _ _ _ _ _ _ _ _ _ _ _ _ _ _ _ _ _ _ _ _ _ _ _ _ _ _ _ _ _ _ _ _ _ _ _ _ _ _ _ _ _ _ _ _ _ _ _ _ _ _ _ _ _ _ _ _ _ _ _ _ _ _ _ _ _ _ _ _ _ _ _ _ _ _ _ _ _ _ _ _ yb wb j at_ s w hyc (by omega) (by omega) (fun cv w' => ∃ G1, Stp G (hp H) n w.drew G1 (hp H') n' w' ∧ V.ok G1 v cv) (fun q hq => ?_) ?_
  · refine (kc G w.drew #[.pointer (some ⟨wb, 0, none⟩), .agg (dmgAct j q)] (hR.drew _) (.cons ⟨wb, wsz, gw, rfl⟩ (.cons ⟨_, rfl, ?_⟩ .nil)) (fun i h1 _ => hg i h1)).mono ?_
    · exact .cons rfl (.cons rfl (.cons rfl (.cons ⟨rfl, fun _ => ⟨q, Nat.zero_le _, by omega, rfl⟩, fun h => absurd h (by decide)⟩ (.cons rfl (.cons rfl (.cons rfl (.cons rfl (.cons rfl (.cons rfl (.cons rfl (.cons rfl (.cons rfl (.cons rfl (.cons rfl (.cons rfl (.cons rfl (.cons rfl (.cons ⟨_, rfl, rfl, rfl⟩ (.cons rfl (.cons rfl (.cons ⟨_, rfl, rfl, rfl⟩ (.cons rfl (.cons ⟨_, rfl, rfl, rfl⟩ .nil)))))))))))))))))))))))
    · rintro e w' ⟨cv, G1, rfl, st, hv⟩
      refine ⟨cv, rfl, ⟨G1, st, hv⟩, ?_⟩
      obtain ⟨yb2, ysz2, ya2, yel2, yfz2, gy2, Ly2⟩ := st.r.lies (id := yid) ((hp_get hy).trans oy2)
      rw [st.ext.1 _ _ gy] at gy2
      cases gy2
      have z0 := Ly2.cell 0 (by omega)
      rw [f0] at z0
      obtain ⟨wb2, wsz2, gw2, z0⟩ := z0
      rw [st.ext.1 _ _ gw] at gw2
      cases gw2
      rw [cell_at (off := 0) Ly2.hb (by have := Ly2.size; have := Ly2.le; omega), z0]
  · rintro cv y75 y76 y77 y78 y79 y80 y81 y82 y83 y84 y85 y86 y87 y88 w' ⟨G1, st, hv⟩
    refine hQ G1 _ w' st.r ⟨st.fr.os, st.fr.tape, st.fr.output, st.fr.size, st.fr.block⟩ (fun b hb => st.ft b hb) ⟨fun i h1 h2 => ?_, fun t o q => by cases q⟩ rfl rfl (fun i hi => by rw [st.ext.2 i (.inr hi)]; exact hg i (Nat.le_trans hnn hi))
    have h1 : i < 23 := h1
    have : i = 0 ∨ i = 1 ∨ i = 2 ∨ i = 3 ∨ i = 4 ∨ i = 5 ∨ i = 6 ∨ i = 7 ∨ i = 8 ∨ i = 9 ∨ i = 10 ∨ i = 11 ∨ i = 12 ∨ i = 13 ∨ i = 14 ∨ i = 15 ∨ i = 16 ∨ i = 17 ∨ i = 18 ∨ i = 19 ∨ i = 20 ∨ i = 21 ∨ i = 22 := by omega
    rcases this with rfl | rfl | rfl | rfl | rfl | rfl | rfl | rfl | rfl | rfl | rfl | rfl | rfl | rfl | rfl | rfl | rfl | rfl | rfl | rfl | rfl | rfl | rfl
    · show V.ok G1 (tget 2 (V.t []) (tset 2 t 3 v) 0) (tm.getD 17 undef)
      rw [tget_set (by decide) (by decide), if_neg (by decide)]
      exact V.ok_le st.ext.1 (reg 0 (by decide))
    · show V.ok G1 (tget 2 (V.t []) (tset 2 t 3 v) 1) (tm.getD 18 undef)
      rw [tget_set (by decide) (by decide), if_neg (by decide)]
      exact V.ok_le st.ext.1 (reg 1 (by decide))
    · show V.ok G1 (tget 2 (V.t []) (tset 2 t 3 v) 2) (tm.getD 16 undef)
      rw [tget_set (by decide) (by decide), if_neg (by decide)]
      exact V.ok_le st.ext.1 (reg 2 (by decide))
    · show V.ok G1 (tget 2 (V.t []) (tset 2 t 3 v) 3) cv
      rw [tget_set (by decide) (by decide), if_pos rfl]
      exact hv
    · show V.ok G1 (tget 2 (V.t []) (tset 2 t 3 v) 4) (tm.getD 110 undef)
      rw [tget_set (by decide) (by decide), if_neg (by decide)]
      exact V.ok_le st.ext.1 (reg 4 (by decide))
    · show V.ok G1 (tget 2 (V.t []) (tset 2 t 3 v) 5) (Value.int .i64 at_)
      rw [tget_set (by decide) (by decide), if_neg (by decide)]
      exact V.ok_le st.ext.1 (e1 ▸ reg 5 (by decide))
    · show V.ok G1 (tget 2 (V.t []) (tset 2 t 3 v) 6) (tm.getD 74 undef)
      rw [tget_set (by decide) (by decide), if_neg (by decide)]
      exact V.ok_le st.ext.1 (reg 6 (by decide))
    · show V.ok G1 (tget 2 (V.t []) (tset 2 t 3 v) 7) (Value.string s)
      rw [tget_set (by decide) (by decide), if_neg (by decide)]
      exact V.ok_le st.ext.1 (e12 ▸ reg 7 (by decide))
    · show V.ok G1 (tget 2 (V.t []) (tset 2 t 3 v) 8) (tm.getD 13 undef)
      rw [tget_set (by decide) (by decide), if_neg (by decide)]
      exact V.ok_le st.ext.1 (reg 8 (by decide))
    · show V.ok G1 (tget 2 (V.t []) (tset 2 t 3 v) 9) (Value.int .i64 (j : Int))
      rw [tget_set (by decide) (by decide), if_neg (by decide)]
      exact V.ok_le st.ext.1 (e11 ▸ reg 9 (by decide))
    · show V.ok G1 (tget 2 (V.t []) (tset 2 t 3 v) 10) (tm.getD 0 undef)
      rw [tget_set (by decide) (by decide), if_neg (by decide)]
      exact V.ok_le st.ext.1 (reg 10 (by decide))
    · show V.ok G1 (tget 2 (V.t []) (tset 2 t 3 v) 11) (tm.getD 55 undef)
      rw [tget_set (by decide) (by decide), if_neg (by decide)]
      exact V.ok_le st.ext.1 (reg 11 (by decide))
    · show V.ok G1 (tget 2 (V.t []) (tset 2 t 3 v) 12) (tm.getD 40 undef)
      rw [tget_set (by decide) (by decide), if_neg (by decide)]
      exact V.ok_le st.ext.1 (reg 12 (by decide))
    · show V.ok G1 (tget 2 (V.t []) (tset 2 t 3 v) 13) (tm.getD 10 undef)
      rw [tget_set (by decide) (by decide), if_neg (by decide)]
      exact V.ok_le st.ext.1 (reg 13 (by decide))
    · show V.ok G1 (tget 2 (V.t []) (tset 2 t 3 v) 14) (tm.getD 38 undef)
      rw [tget_set (by decide) (by decide), if_neg (by decide)]
      exact V.ok_le st.ext.1 (reg 14 (by decide))
    · show V.ok G1 (tget 2 (V.t []) (tset 2 t 3 v) 15) (Value.pointer (some ⟨yb, 0, none⟩))
      rw [tget_set (by decide) (by decide), if_neg (by decide)]
      exact V.ok_le st.ext.1 (e7 ▸ reg 15 (by decide))
    · show V.ok G1 (tget 2 (V.t []) (tset 2 t 3 v) 16) (tm.getD 31 undef)
      rw [tget_set (by decide) (by decide), if_neg (by decide)]
      exact V.ok_le st.ext.1 (reg 16 (by decide))
    · show V.ok G1 (tget 2 (V.t []) (tset 2 t 3 v) 17) (tm.getD 2 undef)
      rw [tget_set (by decide) (by decide), if_neg (by decide)]
      exact V.ok_le st.ext.1 (reg 17 (by decide))
    · show V.ok G1 (tget 2 (V.t []) (tset 2 t 3 v) 18) (tm.getD 9 undef)
      rw [tget_set (by decide) (by decide), if_neg (by decide)]
      exact V.ok_le st.ext.1 (reg 18 (by decide))
    · show V.ok G1 (tget 2 (V.t []) (tset 2 t 3 v) 19) (tm.getD 26 undef)
      rw [tget_set (by decide) (by decide), if_neg (by decide)]
      exact V.ok_le st.ext.1 (reg 19 (by decide))
    · show V.ok G1 (tget 2 (V.t []) (tset 2 t 3 v) 20) (tm.getD 8 undef)
      rw [tget_set (by decide) (by decide), if_neg (by decide)]
      exact V.ok_le st.ext.1 (reg 20 (by decide))
    · show V.ok G1 (tget 2 (V.t []) (tset 2 t 3 v) 21) (tm.getD 20 undef)
      rw [tget_set (by decide) (by decide), if_neg (by decide)]
      exact V.ok_le st.ext.1 (reg 21 (by decide))
    · show V.ok G1 (tget 2 (V.t []) (tset 2 t 3 v) 22) (tm.getD 6 undef)
      rw [tget_set (by decide) (by decide), if_neg (by decide)]
      exact V.ok_le st.ext.1 (reg 22 (by decide))
end
end Ev
end Go.Proofs.YtcchekmejnhlmaaGreat
