/- Joined texts. -/
import Derived.Test.YtcchekmejnhlmaaGreatK7
import Derived.Test.YtcchekmejnhlmaaGreatKEvRu
namespace Go.Proofs.YtcchekmejnhlmaaGreat
open Go.RowKit
set_option linter.unusedVariables false
namespace Ev
noncomputable section
/-- a text of which one byte below n is turned has another hash -/
theorem hash_off {l : List UInt8} {i n m : Nat} {y : UInt8} (h1 : l.length = 64) (h2 : pk l = m) (hn : n ≤ 64) (hi : i < n) (hy : l[i]? ≠ some y) : Sm.hashL ((l.set i y).take n) ≠ hN (pkCut 64 m 0 n) n 14695981039346656037 := by
  have hO : hN (pkCut 64 m 0 n) n 14695981039346656037 = Sm.hashL (l.take n) := by
    have e := pk_cut l 0 n (Nat.zero_le _) (by omega)
    rw [h1, h2, List.drop_zero] at e
    have := hN_pk (l.take n) [] 14695981039346656037
    rw [List.nil_append, e, List.length_take, Nat.min_eq_left (by omega)] at this
    rw [this]
    unfold Sm.hashL
    rw [Sm.hbegin_eq]
  rw [hO, List.take_set]
  have hl : i < (l.take n).length := by rw [List.length_take]; omega
  have hg : (l.take n)[i] ≠ y := fun q => hy (by rw [← q, List.getElem_take, List.getElem?_eq_getElem (by omega)])
  have e2 : l.take n = (l.take n).take i ++ (l.take n)[i] :: (l.take n).drop (i + 1) := by
    rw [← List.drop_eq_getElem_cons hl, List.take_append_drop]
  rw [List.set_eq_take_append_cons_drop, if_pos hl]
  intro q
  refine Sm.hash_turned ((l.take n).take i) ((l.take n).drop (i + 1)) y ((l.take n)[i]) (fun e => hg e.symm) ?_
  rw [← e2]
  exact q
def gxE (sz : Nat) (q : Int) (m c : Nat) (H : HT) (n : Nat) : Rs := cnd (and (and (Nat.ble 1 sz) (Nat.ble sz 64)) (and (Nat.ble c sz) (eqF q (.ofNat (hN (pkCut 64 m 0 sz) sz 14695981039346656037))))) (.ok (.t [.c (.s 0 0), .c (.i .i64 (.ofNat 903))]) H n) .no
def gxL (sz : Nat) (q : Int) (b lid loff : Nat) (H : HT) (n : Nat) : Rs := match hget H lid with
  | .row N x dep d t => cnd (Nat.blt (Nat.add loff b) N) (match tget dep d t (Nat.add loff b) with
      | .xx 1 l m c => cnd (Nat.beq l 64) (gxE sz q m c H n) .no
      | _ => .no) .no
  | _ => .no
def gxF (sz : Nat) (q : Int) (b fid lid loff len cap : Nat) (H : HT) (n : Nat) : Rs := match hget H fid with
  | .mp [] => cnd (and (Nat.blt lid HB) (and (Nat.blt b len) (Nat.ble len 1000000))) (gxL sz q b lid loff H n) .no
  | _ => .no
def gxK (sz : Nat) (q : Int) (b : Nat) (a c : Sc) (H : HT) (n : Nat) : Rs := match a, c with
  | .sk lid loff len cap es, .m fid => cnd (Nat.blt fid HB) (gxF sz q b fid lid loff len cap H n) .no
  | _, _ => .no
def gxD (sz : Nat) (q : Int) (b : Nat) (p : Sc) (H : HT) (n : Nat) : Rs := match p with
  | .p did off => cnd (and (Nat.beq off 0) (Nat.blt did HB)) (match hget H did with
      | .row k x dep d t => cnd (Nat.ble 4 k) (gxK sz q b (tget dep d t 0) (tget dep d t 1) H n) .no
      | _ => .no) .no
  | _ => .no
def gxV (sz : Nat) (q : Int) (b vid : Nat) (H : HT) (n : Nat) : Rs := match hget H vid with
  | .row k x dep d t => cnd (Nat.ble 1 k) (gxD sz q b (tget dep d t 0) H n) .no
  | _ => .no
def gxB (sz : Nat) (q : Int) (vid : Nat) (xs : Option (List Sc)) (H : HT) (n : Nat) : Rs := match xs with
  | some [.i .i64 (.ofNat b)] => gxV sz q b vid H n
  | _ => .no
def gxA (vid : Nat) (r : Rs) : Rs := match r with
  | .ok (.t [.a [.i .i64 (.ofNat sz), .i .u64 q, blk], .c (.i .i64 (.ofNat 0))]) H n => gxB sz q vid (slRd 1 blk H) H n
  | _ => .no
def sGetX (args : List V) (H : HT) (n : Nat) : Rs := match args with
  | [.c (.p vid off), .c (.i .i64 (.ofNat r))] => cnd (and (Nat.beq off 0) (Nat.blt vid HB)) (gxA vid (callB4 129 [.c (.p vid off), .c (.i .i64 (.ofNat r))] H n)) .no
  | _ => .no
theorem gxA_ok {vid : Nat} {r : Rs} {v : V} {H' : HT} {n' : Nat} (h : gxA vid r = .ok v H' n') : ∃ sz q blk b k x dep d t did k2 x2 dep2 d2 t2 lid loff len cap es fid N x3 dep3 d3 t3 m c,
    r = .ok (.t [.a [.i .i64 (.ofNat sz), .i .u64 q, blk], .c (.i .i64 (.ofNat 0))]) H' n' ∧ slRd 1 blk H' = some [.i .i64 (.ofNat b)] ∧
    hget H' vid = .row k x dep d t ∧ 1 ≤ k ∧ tget dep d t 0 = .p did 0 ∧ did < HB ∧ hget H' did = .row k2 x2 dep2 d2 t2 ∧ 4 ≤ k2 ∧ tget dep2 d2 t2 0 = .sk lid loff len cap es ∧ tget dep2 d2 t2 1 = .m fid ∧ fid < HB ∧ hget H' fid = .mp [] ∧
    lid < HB ∧ b < len ∧ len ≤ 1000000 ∧ hget H' lid = .row N x3 dep3 d3 t3 ∧ loff + b < N ∧ tget dep3 d3 t3 (loff + b) = .xx 1 64 m c ∧
    1 ≤ sz ∧ sz ≤ 64 ∧ c ≤ sz ∧ q = .ofNat (hN (pkCut 64 m 0 sz) sz 14695981039346656037) ∧ v = .t [.c (.s 0 0), .c (.i .i64 (.ofNat 903))] := by
  unfold gxA at h
  split at h
  · rename_i sz q blk H n
    unfold gxB at h
    split at h
    · rename_i b hxs
      unfold gxV at h
      split at h
      · rename_i k x dep d t ov
        have qq := cnd_ok h
        clear h
        obtain ⟨hk, h⟩ := qq
        have hk := ble_true hk
        unfold gxD at h
        split at h
        · rename_i did off e0
          have qq := cnd_ok h
          clear h
          obtain ⟨hb2, h⟩ := qq
          rw [Bool.and_eq_true] at hb2
          have ho := nbeq_eq hb2.1
          have hdid := blt_true hb2.2
          subst ho
          split at h
          · rename_i k2 x2 dep2 d2 t2 od
            have qq := cnd_ok h
            clear h
            obtain ⟨hk2, h⟩ := qq
            have hk2 := ble_true hk2
            unfold gxK at h
            split at h
            · rename_i lid loff len cap es fid f0 f1
              have qq := cnd_ok h
              clear h
              obtain ⟨hfid, h⟩ := qq
              have hfid := blt_true hfid
              unfold gxF at h
              split at h
              · rename_i hm
                have qq := cnd_ok h
                clear h
                obtain ⟨hb3, h⟩ := qq
                rw [Bool.and_eq_true, Bool.and_eq_true] at hb3
                have u1 := blt_true hb3.1
                have u3 := blt_true hb3.2.1
                have u4 := ble_true hb3.2.2
                unfold gxL at h
                split at h
                · rename_i N x3 dep3 d3 t3 ol
                  have qq := cnd_ok h
                  clear h
                  obtain ⟨hN, h⟩ := qq
                  have hN := blt_true hN
                  split at h
                  · rename_i l m c hs
                    have qq := cnd_ok h
                    clear h
                    obtain ⟨hl, h⟩ := qq
                    have hl := nbeq_eq hl
                    subst hl
                    unfold gxE at h
                    have qq := cnd_ok h
                    clear h
                    obtain ⟨hb4, h⟩ := qq
                    rw [Bool.and_eq_true, Bool.and_eq_true, Bool.and_eq_true] at hb4
                    have r1 := ble_true hb4.1.1
                    have r2 := ble_true hb4.1.2
                    have r3 := ble_true hb4.2.1
                    have r4 := hb4.2.2
                    rw [eqF_eq, beq_iff_eq] at r4
                    cases h
                    exact ⟨sz, q, blk, b, k, x, dep, d, t, did, k2, x2, dep2, d2, t2, lid, loff, len, cap, es, fid, N, x3, dep3, d3, t3, m, c, rfl, hxs, ov, hk, e0, hdid, od, hk2, f0, f1, hfid, hm, u1, u3, u4, ol, hN, hs, r1, r2, r3, r4, rfl⟩
                  · cases h
                · cases h
              · cases h
            · cases h
          · cases h
        · cases h
      · cases h
    · cases h
  · cases h
set_option maxRecDepth 1000000 in
theorem sGetX_ok : SumOk1 Tryz.prog 69 sGetX := by
  intro args H n v H' n' h
  unfold sGetX at h
  split at h
  · rename_i vid off r
    have qq := cnd_ok h
    clear h
    obtain ⟨hb, h⟩ := qq
    rw [Bool.and_eq_true] at hb
    have ho := nbeq_eq hb.1
    have hvid := blt_true hb.2
    subst ho
    obtain ⟨sz, q, blk, b, k, x, dep, d, t, did, k2, x2, dep2, d2, t2, lid, loff, len, cap, es, fid, N, x3, dep3, d3, t3, m, c, hr, hxs, ov, hk, e0, hdid, od, hk2, f0, f1, hfid, om, u1, u3, u4, ol, hN, hs, r1, r2, r3, r4, rfl⟩ := gxA_ok h
    obtain ⟨_, hnn, kc⟩ := callB4_ok _ _ _ _ _ _ _ hr
    refine ⟨hnn, fun G w cargs hR ha hf => ?_⟩
    obtain ⟨arr⟩ := cargs
    cases ha with
    | cons a1 ha =>
    cases ha with
    | cons a2 ha =>
    cases ha
    rename_i c1 c2
    obtain ⟨bv, szv, gv, rfl⟩ := a1
    have a2 : c2 = Value.int .i64 (r : Int) := a2
    subst a2
    refine (u_getrot (fun w1 => ∃ G1, Stp G (hp H) n w G1 (hp H') n' w1) bv r w ?_).mono ?_
    · refine (kc G w #[.pointer (some ⟨bv, 0, none⟩), .int .i64 (r : Int)] hR (.cons ⟨bv, szv, gv, rfl⟩ (.cons rfl .nil)) hf).mono ?_
      rintro e w1 ⟨cv, G1, rfl, st, hv⟩
      obtain ⟨arr, rfl, hv⟩ := hv
      obtain ⟨arr⟩ := arr
      cases hv with
      | cons b1 hv =>
      cases hv with
      | cons b2 hv =>
      cases hv
      rename_i e1 e2
      have b2 : e2 = Value.int .i64 0 := b2
      subst b2
      obtain ⟨arr, rfl, hv⟩ := b1
      obtain ⟨arr⟩ := arr
      cases hv with
      | cons p1 hv =>
      cases hv with
      | cons p2 hv =>
      cases hv with
      | cons p3 hv =>
      cases hv
      rename_i q1 q2 q3
      have p1 : q1 = Value.int .i64 (sz : Int) := p1
      subst p1
      have p2 : q2 = Value.int .u64 q := p2
      subst p2
      obtain ⟨A, kk, cb, vs, rfl, hall, hrd⟩ := slRd_ok st.r hxs p3
      have hkk : kk = 1 := by
        have := hrd.1
        rw [← hall.length] at this
        simp at this; omega
      subst hkk
      obtain ⟨gb, ob, rfl, hgb, hcell⟩ := hrd.2 (by omega)
      have hvq : vs[0]? = some (.int .i64 (b : Int)) := by
        have hlq : 0 < vs.length := by rw [← hall.length]; simp
        have := hall.get 0 (by simp) hlq
        have this : vs[0] = Value.int .i64 (b : Int) := this
        rw [List.getElem?_eq_getElem hlq, this]
      have hbk := hcell 0 _ hvq
      obtain ⟨bv', szv', va, vael, vafz, gv', Lv⟩ := st.r.lies (id := vid) ((hp_get hvid).trans ov)
      have gv2 := st.ext.1 _ _ gv
      rw [gv2] at gv'
      cases gv'
      have v0 := Lv.cell 0 (by omega)
      rw [e0] at v0
      obtain ⟨bd, szd, gd, v0⟩ := v0
      have cv0 := cell_at (off := 0) Lv.hb (by have := Lv.size; have := Lv.le; omega)
      rw [v0] at cv0
      obtain ⟨bd', szd', da, dael, dafz, gd', Ld⟩ := st.r.lies (id := did) ((hp_get hdid).trans od)
      rw [gd] at gd'
      cases gd'
      have d0 := Ld.cell 0 (by omega)
      rw [f0] at d0
      obtain ⟨bl, szl, gl, d0, hlc, _⟩ := d0
      have d1 := Ld.cell 1 (by omega)
      rw [f1] at d1
      obtain ⟨bf, szf, gf, d1⟩ := d1
      obtain ⟨bl', szl', la, lael, lafz, gl', Ll⟩ := st.r.lies (id := lid) ((hp_get u1).trans ol)
      rw [gl] at gl'
      cases gl'
      have l0 := Ll.cell (loff + b) hN
      rw [hs] at l0
      have l1 := (show XOk 1 64 m c _ from l0).2.2 rfl
      clear l0
      obtain ⟨s, l0, l, i, y, s1, s2, s3, s4, s5, s6⟩ := l1
      obtain ⟨bf', szf', of, gf', kf, qf⟩ := st.r.1 fid (by rw [hp_get hfid, om]; exact fun q => by cases q)
      rw [gf] at gf'
      cases gf'
      rw [hp_get hfid, om] at qf
      obtain ⟨ents, clock, rfl, _, hall0⟩ := qf
      have hents : ents = #[] := by
        have := hall0.length
        exact Array.toList_eq_nil_iff.1 (List.eq_nil_of_length_eq_zero this.symm)
      subst hents
      have hsl := Ll.size
      have hll := Ll.le
      have hss : s.size = 64 := by
        have : s.size = s.data.toList.length := by rw [Array.length_toList]; rfl
        rw [this, s6, List.length_set, s1]
      have cl := cell_at (off := loff + b) Ll.hb (by omega)
      rw [l0] at cl
      refine ⟨sz, cb, gb, ob, bd, bl, loff, len, [b], [s], q, rfl, ⟨⟨cv0, (Array.getElem?_eq_some_iff.1 Lv.hb).1⟩, ⟨bf, clock, cap, da, dael, dafz, Ld.hb, by have := Ld.size; have := Ld.le; omega, d0, d1, kf⟩, ⟨(Array.getElem?_eq_some_iff.1 Ll.hb).1, u4⟩, rfl, fun z hz => ?_, hgb, fun j h1 h2 => ?_, ⟨r1, by simpa using r2, by simp; omega, by simp⟩⟩, ?_, G1, st⟩
      · rw [List.mem_singleton] at hz; rw [hz]; exact hss
      · have : j = 0 := by simp at h1; exact h1
        subst this
        exact ⟨hbk, u3, cl⟩
      · have e : (accB [s] sz [s].length).data.toList = (l.set i y).take sz := by
          show (([s].take 1).flatMap fun s => s.data.toList).take sz = _
          simp [s6]
        rw [e, r4]
        intro hq
        have hq : ((Sm.hashL ((l.set i y).take sz) : Nat) : Int) = ((Ev.hN (pkCut 64 m 0 sz) sz 14695981039346656037 : Nat) : Int) := hq
        exact hash_off s1 s2 r2 (by omega) s5 (by exact_mod_cast hq)
    · rintro e w' ⟨w1, ⟨G1, st⟩, hbW, rfl⟩
      refine ⟨_, G1, rfl, st.trans (stp_below (n := n') st.r hbW) hnn (Nat.le_refl _), ⟨_, rfl, .cons ⟨_, rfl, rfl, rfl⟩ (.cons rfl .nil)⟩⟩
  · cases h
set_option maxRecDepth 100000
def S5 : SumT := addS 69 sGetX <| addS 123 sRot S4
theorem S5_ok : SumOk Tryz.prog S5 := addS_ok ⟨_, Tryz.func69, by kernel_rfl, by kernel_rfl⟩ sGetX_ok <| addS_ok ⟨_, Tryz.func123, by kernel_rfl, by kernel_rfl⟩ sRot_ok S4_ok
def callB5 : CallT := callK kt S5 100
theorem callB5_ok : CallOk Tryz.prog callB5 := calls_made S5_ok 100
end
end Ev
end Go.Proofs.YtcchekmejnhlmaaGreat
