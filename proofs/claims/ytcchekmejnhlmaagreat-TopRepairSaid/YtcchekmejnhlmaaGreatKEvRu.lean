/- Joined texts. -/
import Derived.Test.YtcchekmejnhlmaaGreatK7
import Derived.Test.YtcchekmejnhlmaaGreatKEvLt
namespace Go.Proofs.YtcchekmejnhlmaaGreat
open Go.RowKit
set_option linter.unusedVariables false
namespace Ev
noncomputable section
theorem heap_setCell {w : World} {b i : Nat} {arr : Array Value} {el : TypeId} {fz : Nat × Nat} (h : w.heap[b]? = some (.cells arr el fz)) (v : Value) : (w.setCell ⟨b, i, none⟩ v).heap[b]? = some (.cells (arr.setIfInBounds i v) el fz) := by
  unfold World.setCell
  simp only [Array.getElem?_modify, if_true, h, Option.map_some, Option.isSome_none, Bool.false_eq_true, if_false]
def rotR (lo hi qd b lid loff m : Nat) (N : Nat) (x : Bool) (dep : Nat) (d : Sc) (t : T8 Sc) (H : HT) (n : Nat) : Rs :=
  .ok (.c (.i .i64 (.ofNat 0))) (hset H lid (.row N x dep d (tset dep t (Nat.add loff b) (.xx 1 64 m (Nat.sub hi (Nat.mul 64 qd)))))) n
def rotL (lo hi qd b lid loff : Nat) (H : HT) (n : Nat) : Rs := match hget H lid with
  | .row N x dep d t => cnd (Nat.blt (Nat.add loff b) N) (match tget dep d t (Nat.add loff b) with
      | .s l m => cnd (Nat.beq l 64) (rotR lo hi qd b lid loff m N x dep d t H n) .no
      | _ => .no) .no
  | _ => .no
def rotF (lo hi qd b fid lid loff len cap : Nat) (did : Nat) (H : HT) (n : Nat) : Rs := match hget H fid with
  | .mp [] => cnd (and (and (Nat.blt lid HB) (not (Nat.beq lid did))) (and (Nat.blt b len) (Nat.ble cap 1000000))) (rotL lo hi qd b lid loff H n) .no
  | _ => .no
def rotK (lo hi qd b did : Nat) (a c : Sc) (H : HT) (n : Nat) : Rs := match a, c with
  | .sk lid loff len cap es, .m fid => cnd (Nat.blt fid HB) (rotF lo hi qd b fid lid loff len cap did H n) .no
  | _, _ => .no
def rotD (lo hi qd b : Nat) (p : Sc) (H : HT) (n : Nat) : Rs := match p with
  | .p did off => cnd (and (Nat.beq off 0) (Nat.blt did HB)) (match hget H did with
      | .row k x dep d t => cnd (Nat.ble 4 k) (rotK lo hi qd b did (tget dep d t 0) (tget dep d t 1) H n) .no
      | _ => .no) .no
  | _ => .no
def rotV (lo hi qd b vid : Nat) (H : HT) (n : Nat) : Rs := match hget H vid with
  | .row k x dep d t => cnd (Nat.ble 1 k) (rotD lo hi qd b (tget dep d t 0) H n) .no
  | _ => .no
def nthS (xs : List Sc) (i : Nat) : Sc := (List.rec (motive := fun _ => Nat → Sc) (fun _ => .u) (fun x _ ih i => Nat.rec x (fun j _ => ih j) i) xs) i
def rotB (lo hi vid sz : Nat) (blk : Sc) (H : HT) (n : Nat) : Rs := match slRd 1 blk H with
  | some xs => cnd (and (and (Nat.blt lo hi) (Nat.ble hi sz)) (and (and (Nat.ble sz 1000000) (Nat.beq (Nat.div lo 64) (Nat.div (Nat.sub hi 1) 64))) (Nat.blt (Nat.div lo 64) xs.length))) (match nthS xs (Nat.div lo 64) with
      | .i .i64 (.ofNat b) => rotV lo hi (Nat.div lo 64) b vid H n
      | _ => .no) .no
  | none => .no
def rotA (lo hi vid : Nat) (r : Rs) : Rs := match r with
  | .ok (.t [.a [.i .i64 (.ofNat sz), .i .u64 _, blk], .c (.i .i64 (.ofNat 0))]) H n => rotB lo hi vid sz blk H n
  | _ => .no
def sRot (args : List V) (H : HT) (n : Nat) : Rs := match args with
  | [.c (.p vid off), .c (.i .i64 (.ofNat r)), .c (.xx 0 lo hi _)] => cnd (and (Nat.beq off 0) (Nat.blt vid HB)) (rotA lo hi vid (callB4 129 [.c (.p vid off), .c (.i .i64 (.ofNat r))] H n)) .no
  | _ => .no
theorem nthS_eq : ∀ (xs : List Sc) (i : Nat), nthS xs i = xs.getD i .u
  | [], i => rfl
  | x :: xs, 0 => rfl
  | x :: xs, i + 1 => nthS_eq xs i
/-- what the summary has looked at -/
theorem rotA_ok {lo hi vid : Nat} {r : Rs} {v : V} {H' : HT} {n' : Nat} (h : rotA lo hi vid r = .ok v H' n') : ∃ sz q blk H xs b k x dep d t did k2 x2 dep2 d2 t2 lid loff len cap es fid N x3 dep3 d3 t3 m,
    r = .ok (.t [.a [.i .i64 (.ofNat sz), .i .u64 q, blk], .c (.i .i64 (.ofNat 0))]) H n' ∧ slRd 1 blk H = some xs ∧ lo < hi ∧ hi ≤ sz ∧ sz ≤ 1000000 ∧ lo / 64 = (hi - 1) / 64 ∧ lo / 64 < xs.length ∧ xs.getD (lo / 64) .u = .i .i64 (.ofNat b) ∧
    hget H vid = .row k x dep d t ∧ 1 ≤ k ∧ tget dep d t 0 = .p did 0 ∧ did < HB ∧ hget H did = .row k2 x2 dep2 d2 t2 ∧ 4 ≤ k2 ∧ tget dep2 d2 t2 0 = .sk lid loff len cap es ∧ tget dep2 d2 t2 1 = .m fid ∧ fid < HB ∧ hget H fid = .mp [] ∧
    lid < HB ∧ lid ≠ did ∧ b < len ∧ cap ≤ 1000000 ∧ hget H lid = .row N x3 dep3 d3 t3 ∧ loff + b < N ∧ tget dep3 d3 t3 (loff + b) = .s 64 m ∧
    v = .c (.i .i64 (.ofNat 0)) ∧ H' = hset H lid (.row N x3 dep3 d3 (tset dep3 t3 (loff + b) (.xx 1 64 m (hi - 64 * (lo / 64))))) := by
  unfold rotA at h
  split at h
  · rename_i sz q blk H n
    unfold rotB at h
    split at h
    · rename_i xs hxs
      have qq := cnd_ok h
      clear h
      obtain ⟨hb, h⟩ := qq
      rw [Bool.and_eq_true, Bool.and_eq_true, Bool.and_eq_true, Bool.and_eq_true] at hb
      have g1 := blt_true hb.1.1
      have g2 := ble_true hb.1.2
      have g3 := ble_true hb.2.1.1
      have g4 := nbeq_eq hb.2.1.2
      have g5 := blt_true hb.2.2
      split at h
      · rename_i b hbq
        rw [nthS_eq] at hbq
        unfold rotV at h
        split at h
        · rename_i k x dep d t ov
          have qq := cnd_ok h
          clear h
          obtain ⟨hk, h⟩ := qq
          have hk := ble_true hk
          unfold rotD at h
          split at h
          · rename_i did off e0
            have qq := cnd_ok h
            clear h
            obtain ⟨hb2, h⟩ := qq
            rw [Bool.and_eq_true] at hb2
            have ho := nbeq_eq hb2.1
            have hdid := blt_true hb2.2
            subst ho
            split at h
            · rename_i k2 x2 dep2 d2 t2 od
              have qq := cnd_ok h
              clear h
              obtain ⟨hk2, h⟩ := qq
              have hk2 := ble_true hk2
              unfold rotK at h
              split at h
              · rename_i lid loff len cap es fid f0 f1
                have qq := cnd_ok h
                clear h
                obtain ⟨hfid, h⟩ := qq
                have hfid := blt_true hfid
                unfold rotF at h
                split at h
                · rename_i hm
                  have qq := cnd_ok h
                  clear h
                  obtain ⟨hb3, h⟩ := qq
                  rw [Bool.and_eq_true, Bool.and_eq_true, Bool.and_eq_true, Bool.not_eq_true'] at hb3
                  have u1 := blt_true hb3.1.1
                  have u2 := Nat.ne_of_beq_eq_false hb3.1.2
                  have u3 := blt_true hb3.2.1
                  have u4 := ble_true hb3.2.2
                  unfold rotL at h
                  split at h
                  · rename_i N x3 dep3 d3 t3 ol
                    have qq := cnd_ok h
                    clear h
                    obtain ⟨hN, h⟩ := qq
                    have hN := blt_true hN
                    split at h
                    · rename_i l m hs
                      have qq := cnd_ok h
                      clear h
                      obtain ⟨hl, h⟩ := qq
                      have hl := nbeq_eq hl
                      subst hl
                      unfold rotR at h
                      cases h
                      exact ⟨sz, q, blk, H, xs, b, k, x, dep, d, t, did, k2, x2, dep2, d2, t2, lid, loff, len, cap, es, fid, N, x3, dep3, d3, t3, m, rfl, hxs, g1, g2, g3, g4, g5, hbq, ov, hk, e0, hdid, od, hk2, f0, f1, hfid, hm, u1, u2, u3, u4, ol, hN, hs, rfl, rfl⟩
                    · cases h
                  · cases h
                · cases h
              · cases h
            · cases h
          · cases h
        · cases h
      · cases h
    · cases h
  · cases h
set_option maxRecDepth 1000000 in
theorem sRot_ok : SumOk1 Tryz.prog 123 sRot := by
  intro args H n v H' n' h
  unfold sRot at h
  split at h
  · rename_i vid off r lo hi c
    have qq := cnd_ok h
    clear h
    obtain ⟨hb, h⟩ := qq
    rw [Bool.and_eq_true] at hb
    have ho := nbeq_eq hb.1
    have hvid := blt_true hb.2
    subst ho
    obtain ⟨sz, q, blk, H1, xs, b, k, x, dep, d, t, did, k2, x2, dep2, d2, t2, lid, loff, len, cap, es, fid, N, x3, dep3, d3, t3, m, hr, hxs, g1, g2, g3, g4, g5, hbq, ov, hk, e0, hdid, od, hk2, f0, f1, hfid, om, u1, u2, u3, u4, ol, hN, hs, rfl, rfl⟩ := rotA_ok h
    obtain ⟨_, hnn, kc⟩ := callB4_ok _ _ _ _ _ _ _ hr
    refine ⟨hnn, fun G w cargs hR ha hf => ?_⟩
    obtain ⟨arr⟩ := cargs
    cases ha with
    | cons a1 ha =>
    cases ha with
    | cons a2 ha =>
    cases ha with
    | cons a3 ha =>
    cases ha
    rename_i c1 c2 c3
    obtain ⟨bv, szv, gv, rfl⟩ := a1
    have a2 : c2 = Value.int .i64 (r : Int) := a2
    subst a2
    have h3 : XOk 0 lo hi c c3 := a3
    have h4 := h3.2.1 rfl
    clear h3 a3
    obtain ⟨k0, hlo, hhi, rfl⟩ := h4
    have hqd : k0 / 64 = lo / 64 := by omega
    have hmd : k0 % 64 < hi - 64 * (lo / 64) := by omega
    obtain ⟨qd, hqdd⟩ : ∃ qd, qd = lo / 64 := ⟨_, rfl⟩
    rw [← hqdd] at hqd hmd g5 hbq ⊢
    refine (u_rot (fun w1 bl lo' b' s => ∃ G1 szl, Stp G (hp H) n w G1 (hp H1) n' w1 ∧ G1 lid = some (bl, szl) ∧ lo' = loff ∧ b' = b ∧ s.data.toList.length = 64 ∧ pk s.data.toList = m) bv r k0 qd (k0 % 64) w (by rw [← hqd]; rfl) rfl (by omega) ?_).mono ?_
    · refine (kc G w #[.pointer (some ⟨bv, 0, none⟩), .int .i64 (r : Int)] hR (.cons ⟨bv, szv, gv, rfl⟩ (.cons rfl .nil)) hf).mono ?_
      rintro e w1 ⟨cv, G1, rfl, st, hv⟩
      obtain ⟨arr, rfl, hv⟩ := hv
      obtain ⟨arr⟩ := arr
      cases hv with
      | cons b1 hv =>
      cases hv with
      | cons b2 hv =>
      cases hv
      rename_i e1 e2
      have b2 : e2 = Value.int .i64 0 := b2
      subst b2
      obtain ⟨arr, rfl, hv⟩ := b1
      obtain ⟨arr⟩ := arr
      cases hv with
      | cons p1 hv =>
      cases hv with
      | cons p2 hv =>
      cases hv with
      | cons p3 hv =>
      cases hv
      rename_i q1 q2 q3
      have p1 : q1 = Value.int .i64 (sz : Int) := p1
      subst p1
      have p2 : q2 = Value.int .u64 q := p2
      subst p2
      obtain ⟨A, kk, cb, vs, rfl, hall, hrd⟩ := slRd_ok st.r hxs p3
      have hkk : kk = xs.length := by
        have := hrd.1
        rw [← hall.length] at this; omega
      subst hkk
      obtain ⟨gb, ob, rfl, hgb, hcell⟩ := hrd.2 (by omega)
      have hvq : vs[qd]? = some (.int .i64 (b : Int)) := by
        have hlq : qd < vs.length := by rw [← hall.length]; exact g5
        have := hall.get qd g5 hlq
        rw [List.getD_eq_getElem?_getD, List.getElem?_eq_getElem g5, Option.getD_some] at hbq
        rw [hbq] at this
        have this : vs[qd] = Value.int .i64 (b : Int) := this
        rw [List.getElem?_eq_getElem hlq, this]
      have hbk := hcell qd _ hvq
      obtain ⟨bv', szv', va, vael, vafz, gv', Lv⟩ := st.r.lies (id := vid) ((hp_get hvid).trans ov)
      have gv2 := st.ext.1 _ _ gv
      rw [gv2] at gv'
      cases gv'
      have v0 := Lv.cell 0 (by omega)
      rw [e0] at v0
      obtain ⟨bd, szd, gd, v0⟩ := v0
      have cv0 := cell_at (off := 0) Lv.hb (by have := Lv.size; have := Lv.le; omega)
      rw [v0] at cv0
      obtain ⟨bd', szd', da, dael, dafz, gd', Ld⟩ := st.r.lies (id := did) ((hp_get hdid).trans od)
      rw [gd] at gd'
      cases gd'
      have d0 := Ld.cell 0 (by omega)
      rw [f0] at d0
      obtain ⟨bl, szl, gl, d0, hlc, _⟩ := d0
      have d1 := Ld.cell 1 (by omega)
      rw [f1] at d1
      obtain ⟨bf, szf, gf, d1⟩ := d1
      obtain ⟨bl', szl', la, lael, lafz, gl', Ll⟩ := st.r.lies (id := lid) ((hp_get u1).trans ol)
      rw [gl] at gl'
      cases gl'
      have l0 := Ll.cell (loff + b) hN
      rw [hs] at l0
      obtain ⟨s, l0, s1, s2⟩ := l0
      obtain ⟨bf', szf', of, gf', kf, qf⟩ := st.r.1 fid (by rw [hp_get hfid, om]; exact fun q => by cases q)
      rw [gf] at gf'
      cases gf'
      rw [hp_get hfid, om] at qf
      obtain ⟨ents, clock, rfl, _, hall0⟩ := qf
      have hents : ents = #[] := by
        have := hall0.length
        exact Array.toList_eq_nil_iff.1 (List.eq_nil_of_length_eq_zero this.symm)
      subst hents
      have hsl := Ll.size
      have hll := Ll.le
      refine ⟨sz, xs.length, cb, gb, ob, bd, bl, loff, b, q, s, rfl, by omega, g3, g5, ⟨⟨cv0, (Array.getElem?_eq_some_iff.1 Lv.hb).1⟩, ?_, ⟨bf, clock, len, cap, da, dael, dafz, Ld.hb, by have := Ld.size; have := Ld.le; omega, d0, d1, kf, u3, hlc, u4⟩, ⟨la, lael, lafz, Ll.hb, by omega, l0, Ll.fz _ (by omega)⟩, ?_, ⟨hbk, hgb⟩⟩, G1, _, st, gl, rfl, rfl, s1, s2⟩
      · intro q
        subst q
        exact u2 (st.r.2 lid did _ _ _ (by rw [hp_get u1, ol]; exact fun q => by cases q) (by rw [hp_get hdid, od]; exact fun q => by cases q) gl gd)
      · have : s.size = s.data.toList.length := by rw [Array.length_toList]; rfl
        rw [this, s1]
    · rintro e w' ⟨w1, W, bl, lo', b', s, y, ⟨G1, szl, st, gl, rfl, rfl, s1, s2⟩, hbW, ⟨hms, hy⟩, rfl, rfl⟩
      have stW := st.trans (stp_below (n := n') st.r hbW) hnn (Nat.le_refl _)
      obtain ⟨bl', szl', la, lael, lafz, gl', Ll⟩ := stW.r.lies (id := lid) ((hp_get u1).trans ol)
      rw [gl] at gl'
      cases gl'
      have hsl := Ll.size
      have hll := Ll.le
      have hrow := heap_setCell (i := lo' + b') Ll.hb (.string (turned s (k0 % 64) y))
      refine ⟨_, G1, rfl, ?_, rfl⟩
      rw [hp_set _ u1]
      refine stW.trans (stp_put (n := n') stW.r (by rw [hp_get u1, ol]; exact fun q => by cases q) gl _ _ ⟨_, lael, lafz, rfl, by rw [Array.size_setIfInBounds]; exact hsl, Ll.le, Ll.all, Ll.deep, Ll.fz, fun i hiN => ?_⟩ rfl rfl rfl (by simp [World.setCell]) hrow (fun k hk => Below.heap_setCell _ _ _ _ hk)) hnn (Nat.le_refl _)
      have hdp := Ll.deep
      rw [tget_set (by omega) (by omega)]
      by_cases e : i = lo' + b'
      · rw [if_pos e]
        subst e
        have hgd : (la.setIfInBounds (lo' + b') (.string (turned s (k0 % 64) y))).getD (lo' + b') undef = .string (turned s (k0 % 64) y) := by
          rw [Array.getD_eq_getD_getElem?, Array.getElem?_setIfInBounds, if_pos rfl, if_pos (by omega)]
          rfl
        show XOk 1 64 m (hi - 64 * qd) ((la.setIfInBounds (lo' + b') (.string (turned s (k0 % 64) y))).getD (lo' + b') undef)
        rw [hgd]
        refine ⟨rfl, fun q => absurd q (by decide), fun _ => ⟨_, rfl, s.data.toList, k0 % 64, y, s1, s2, hmd, by omega, ?_, rfl⟩⟩
        intro q
        have hlt : k0 % 64 < s.data.toList.length := by rw [s1]; omega
        rw [List.getElem?_eq_getElem hlt] at q
        have q := Option.some.inj q
        exact hy (by rw [← q]; simp; rfl)
      · rw [if_neg e]
        have hgd : (la.setIfInBounds (lo' + b') (.string (turned s (k0 % 64) y))).getD i undef = la.getD i undef := by
          rw [Array.getD_eq_getD_getElem?, Array.getElem?_setIfInBounds, if_neg (fun q => e q.symm), Array.getD_eq_getD_getElem?]
        show Sc.ok G1 _ ((la.setIfInBounds (lo' + b') (.string (turned s (k0 % 64) y))).getD i undef)
        rw [hgd]
        exact Ll.cell i hiN
  · cases h
end
end Ev
end Go.Proofs.YtcchekmejnhlmaaGreat
