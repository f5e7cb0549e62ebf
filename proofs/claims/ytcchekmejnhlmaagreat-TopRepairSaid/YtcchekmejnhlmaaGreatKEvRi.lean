/- Joined texts. -/
import Derived.Test.YtcchekmejnhlmaaGreatKEvRh
namespace Go.Proofs.YtcchekmejnhlmaaGreat
open Go.RowKit
set_option linter.unusedVariables false
namespace Ev
noncomputable section
set_option maxRecDepth 1000000
/-- a function whose body runs so, entered from nothing -/
theorem calls_rq2 {P : Program} {wt : WT} {fid : Nat} {f : KF} (hf : compF P wt fid = some f) {args : List V} {t0 t' : T8 V} {H' : HT} {ex : Ex} {n' : Nat} {v : V} (ha : Nat.ble args.length f.nt = true) (ht : args0 f.ar args .z = some t0)
    (hq : ∀ fn c, P.funcs[fid]? = some fn → fn.body = some c → comp P f.nt (tget 3 [] wt fid) c = f.body → (tget 3 [] wt fid).length ≤ 64 → (tget 3 [] wt fid).Nodup → Rq P f.nt (tget 3 [] wt fid) c t0 .z 0 ex t' H' n') (hv : retE f.rs ex t' H' n' = .ok v H' n') (w : World) (cargs : Array Value) (hc : All2 (V.ok fun _ => none) args cargs.toList) :
    Calls P fid cargs w fun e w' => ∃ cv G', e = .returned cv ∧ Below w.heap.size w w' ∧ V.ok G' v cv := by
  unfold compF at hf
  split at hf
  · rename_i g hg
    cases hf
    unfold cF at hg
    split at hg
    · rename_i fn hfn
      split at hg
      · rename_i c hc'
        generalize hW : tget 3 [] wt fid = W at hg hq
        unfold cFb at hg
        split at hg
        · rename_i rs hrs
          cases hw : and (Nat.ble W.length 64) (noDup W) with
          | false => rw [hw] at hg; cases hg
          | true =>
            rw [hw] at hg
            have hg : some _ = some g := hg
            cases hg
            rw [Bool.and_eq_true] at hw
            have hlen : W.length ≤ 64 := Nat.le_of_ble_eq_true hw.1
            have hnd := noDup_ok hw.2
            have ha : args.length ≤ fn.ntmps := Nat.le_of_ble_eq_true ha
            have ht0 : args0 ((List.range (fn.params.size + fn.nfree)).map fun i => ixW i W 0) args .z = some t0 := ht
            rw [List.range_eq_range'] at ht0
            obtain ⟨hal, hrg⟩ := args0_ok hlen hnd _ _ _ _ _ ht0
            have hrun := hq fn c hfn hc' rfl hlen hnd
            have hre : (∀ id, ex ≠ .ex id) ∧ retV rs ⟨t', []⟩ H' n' = .ok v H' n' := by
              have h : retE rs ex t' H' n' = .ok v H' n' := hv
              cases ex with
              | ex id => cases h
              | nx => exact ⟨fun _ q => (by cases q), h⟩
              | rt => exact ⟨fun _ q => (by cases q), h⟩
            refine calls_of_wp hfn hc' ?_
            have hcs : cargs.size = args.length := by rw [← Array.length_toList]; exact hc.length.symm
            have hsz : (cargs ++ Array.replicate (fn.ntmps - cargs.size) undef).size = fn.ntmps := by simp; omega
            refine hrun (fun _ => none) _ w (R_z _ _) ⟨fun j h1 h2 => ?_, fun t o q => by cases q⟩ hsz (fun _ _ => rfl) _ fun G' a' w' r f ft rg m d _ => ?_
            · have h1 : j < W.length := h1
              show V.ok _ (rget ⟨t0, []⟩ j) ((cargs ++ Array.replicate (fn.ntmps - cargs.size) undef).getD W[j] undef)
              rw [getD_app, hrg j h1, ← Array.toArray_toList (xs := cargs), Array.getD_eq_getD_getElem?, List.getElem?_toArray, ← List.getD_eq_getElem?_getD]
              by_cases q : W[j] < args.length
              · rw [if_pos (by omega)]
                exact args_getD hc W[j]
              · rw [if_neg (by omega), List.getD_eq_getElem?_getD, List.getElem?_eq_none, Option.getD_none]
                · rw [show rget ⟨T8.z, []⟩ j = (V.t []) from tget_z _ _ _]; exact V.undef_ok _
                · rw [Array.length_toList]; omega
            · obtain ⟨_, _, cv, q1, q2⟩ := retV_ok (n := n') hrs hre.2 r rg m
              have hb : a'.defers = [] ∧ ∃ v, (results fn a'.tmps).run P w' = .ok v w' ∧ ∃ cv G', Ending.returned v = .returned cv ∧ Below w.heap.size w w' ∧ V.ok G' _ cv := ⟨d, cv, q1, cv, G', rfl, f.below fun _ _ => foot_z, q2⟩
              cases ex with
              | nx => exact hb
              | rt => exact hb
              | ex id => exact absurd rfl (hre.1 id)
        · cases hg
      · cases hg
    · cases hg
  · cases hf
section
variable {call : CallT} {t t' : T8 V} {H H' : HT} {n n' : Nat}
theorem evS_p {o : PO} {w : Option Nat} {l : List Ins} {s : List V} {v : V} (h : evP o ⟨t, s⟩ = some v) : evS call (.u (.p o) w true :: l) ⟨t, s⟩ H n = evS call l ⟨setW w v t, v :: s⟩ H n := by
  show (Option.rec (motive := fun _ => Rr) Rr.no (kOne H n (kPut w true ⟨t, s⟩ (evS call l))) (evP o ⟨t, s⟩) : Rr) = _
  rw [h]
  rfl
theorem evS_p0 {o : PO} {l : List Ins} {s : List V} {v : V} (h : evP o ⟨t, s⟩ = some v) : evS call (.u (.p o) none true :: l) ⟨t, s⟩ H n = evS call l ⟨t, v :: s⟩ H n := evS_p h
/-- the test of a loop: i < 10 + x & 15 -/
theorem test_run {x : Int} {i j : Nat} (h17 : tget 2 (V.t []) t 17 = .c (.i .i64 x)) (h18 : tget 2 (V.t []) t 18 = .c (.i .i64 (.ofNat i))) (hj : j ≤ 15) (hb : bAnd .i64 x (.ofNat 15) = some (.i .i64 (.ofNat j))) :
    runK call (.s [.u (.p (.bi .and (.r 17) (.k (.c (.i .i64 (.ofNat 15)))))) none true, .u (.p (.bi .add (.k (.c (.i .i64 (.ofNat 10)))) (.s 0))) none true, .u (.p (.bi .lss (.r 18) (.s 0))) (some 16) true]) t H n = .ok .nx (tset 2 t 16 (.c (.b (Nat.blt i (10 + j))))) H n := by
  have e1 : evP (.bi .and (.r 17) (.k (.c (.i .i64 (.ofNat 15))))) ⟨t, []⟩ = some (.c (.i .i64 (.ofNat j))) := by
    show vI (tget 2 (V.t []) t 17) _ = _
    rw [h17]
    show oC (bAnd .i64 x (.ofNat 15)) = _
    rw [hb]; rfl
  have e2 : evP (.bi .add (.k (.c (.i .i64 (.ofNat 10)))) (.s 0)) ⟨t, [.c (.i .i64 (.ofNat j))]⟩ = some (.c (.i .i64 (.ofNat (10 + j)))) := by
    show oC (some (Sc.i .i64 (wrapF .i64 (addF (.ofNat 10) (.ofNat j))))) = _
    rw [wrapF_eq, addF_eq]
    have : IntKind.wrap .i64 ((.ofNat 10 : Int) + .ofNat j) = .ofNat (10 + j) := by
      simp [IntKind.wrap, IntKind.bits, IntKind.signed]; omega
    rw [this]; rfl
  have e3 : evP (.bi .lss (.r 18) (.s 0)) ⟨t, [.c (.i .i64 (.ofNat (10 + j))), .c (.i .i64 (.ofNat j))]⟩ = some (.c (.b (Nat.blt i (10 + j)))) := by
    show vI (tget 2 (V.t []) t 18) _ = _
    rw [h18]
    rfl
  show otNx (evS call _ ⟨t, []⟩ H n) = _
  rw [evS_p0 e1, evS_p0 e2, evS_p e3]
  rfl
/-- int(uint(x) % 3) -/
theorem rest3_run {x : Int} (h10 : tget 2 (V.t []) t 10 = .c (.i .i64 x)) : ∃ j, j < 3 ∧ (wrapF .i64 ((wrapF .u64 x).tmod 3) = .ofNat j) ∧
    ∀ (H : HT) (n : Nat), runK call (.s [.u (.p (.cvi .u64 (.r 10))) none true, .u (.p (.bi .rem (.s 0) (.k (.c (.i .u64 (.ofNat 3)))))) none true, .u (.p (.cvi .i64 (.s 0))) none true, .u (.p (.mv (.s 0))) (some 9) true]) t H n = .ok .nx (tset 2 t 9 (.c (.i .i64 (.ofNat j)))) H n := by
  obtain ⟨j, hj, hk⟩ := pick_of x 3 (by decide) (by decide)
  have hE : wrapF .i64 ((wrapF .u64 x).tmod 3) = .ofNat j := by
    rw [wrapF_eq, wrapF_eq, IntKind.wrap_i64]
    unfold wrap64 at hk
    exact hk
  refine ⟨j, hj, hE, fun H n => ?_⟩
  have e1 : evP (.cvi .u64 (.r 10)) ⟨t, []⟩ = some (.c (.i .u64 (wrapF .u64 x))) := by
    show vI (tget 2 (V.t []) t 10) _ = _
    rw [h10]
    rfl
  have e2 : evP (.bi .rem (.s 0) (.k (.c (.i .u64 (.ofNat 3))))) ⟨t, [.c (.i .u64 (wrapF .u64 x))]⟩ = some (.c (.i .u64 ((wrapF .u64 x).tmod 3))) := rfl
  have e3 : evP (.cvi .i64 (.s 0)) ⟨t, [.c (.i .u64 ((wrapF .u64 x).tmod 3)), .c (.i .u64 (wrapF .u64 x))]⟩ = some (.c (.i .i64 (.ofNat j))) := by
    rw [← hE]; rfl
  show otNx (evS call _ ⟨t, []⟩ H n) = _
  rw [evS_p0 e1, evS_p0 e2, evS_p0 e3]
  rfl
end
def cAt' (j : Nat) (c : Code) : Code := cL' (Nat.rec c (fun _ ih => cR' ih) j)
def cFrom' (j : Nat) (c : Code) : Code := Nat.rec c (fun _ ih => cR' ih) j
def rp : K := KF.body z6
def rpRs : List RV := KF.rs z6
theorem repBody_eq : repBody = .seq (cAt' 0 repBody) (.seq (cAt' 1 repBody) (.seq (cAt' 2 repBody) (.seq (cAt' 3 repBody) (.seq (cAt' 4 repBody) (.seq (cAt' 5 repBody) (.seq (cAt' 6 repBody) (.seq (cAt' 7 repBody) (.seq (cAt' 8 repBody) (.seq repReg (cFrom' 10 repBody)))))))))) := by kernel_rfl
def rpL : K := kLo (kBl (kr (kAt 4 rp)))
def rpC : K := kr (kl rpL)
def rpZ : K := kr rpL
def rpRest (t : T8 V) (H : HT) (n : Nat) : Ot := seqO (runK callB5 rpZ) (runK callB5 rpC t H n)
theorem rpL_eq : rpL = .seq (.seq (.s [.u (.p (.bi .and (.r 17) (.k (.c (.i .i64 (.ofNat 15)))))) none true, .u (.p (.bi .add (.k (.c (.i .i64 (.ofNat 10)))) (.s 0))) none true, .u (.p (.bi .lss (.r 18) (.s 0))) (some 16) true]) rpC) rpZ := by kernel_rfl
theorem rp4_eq : kAt 4 rp = .seq (kl (kAt 4 rp)) (.blk 0 (.loop rpL)) := by kernel_rfl
theorem rp6_eq : kAt 6 rp = .s [.u (.p (.cvi .u64 (.r 10))) none true, .u (.p (.bi .rem (.s 0) (.k (.c (.i .u64 (.ofNat 3)))))) none true, .u (.p (.cvi .i64 (.s 0))) none true, .u (.p (.mv (.s 0))) (some 9) true] := by kernel_rfl
theorem rp_W : tget 3 [] wt 6 = W6 := by kernel_rfl
theorem rp_made : compF Tryz.prog wt 6 = some z6 := by kernel_rfl
/-- the end of a run: beats, the node, its file, the byte turned, what comes then -/
def rpU3 (t : T8 V) (H : HT) (n : Nat) : Bool := Option.rec false (fun p => okR rpRs (runK callB5 (kFrom 10 rp) p.1 p.2.1 p.2.2)) (repH t H n)
def rpU2 (j : Nat) (t : T8 V) (H : HT) (n : Nat) : Bool := thenO (runL callB5 [kAt 7 rp, kAt 8 rp] (tset 2 t 9 (.c (.i .i64 (.ofNat j)))) H n) rpU3
def rpTail (j : Nat) (t : T8 V) (H : HT) (n : Nat) : Bool := thenO (runK callB5 (kAt 5 rp) t H n) (rpU2 j)
section
variable {t t1 t' t4 t0 tI : T8 V} {H H1 H' H4 HI : HT} {n n' m n4 : Nat} {g : List Nat} {x xw xa : Int} {i j : Nat} {W : List Nat}
theorem rp_round (hb : bAnd .i64 x (.ofNat 15) = some (.i .i64 (.ofNat j))) (hj : j ≤ 15) (hlt : i < 10 + j) (h17 : tget 2 (V.t []) t 17 = .c (.i .i64 x)) (h18 : tget 2 (V.t []) t 18 = .c (.i .i64 (.ofNat i)))
    (h : gcO g (rpRest (tset 2 t 16 (.c (.b true))) H n) = some (t1, H1)) : gcO g (runK callB5 rpL t H n) = some (t1, H1) := by
  rw [rpL_eq]
  show gcO g (seqO (runK callB5 rpZ) (seqO (runK callB5 rpC) (runK callB5 (.s _) t H n))) = _
  rw [test_run h17 h18 hj hb]
  have e : Nat.blt i (10 + j) = true := Nat.ble_eq_true_of_le hlt
  rw [e]
  exact h
theorem rp_stop (hb : bAnd .i64 x (.ofNat 15) = some (.i .i64 (.ofNat j))) (hj : j ≤ 15) (hlt : ¬ i < 10 + j) (h17 : tget 2 (V.t []) t 17 = .c (.i .i64 x)) (h18 : tget 2 (V.t []) t 18 = .c (.i .i64 (.ofNat i)))
    (h : rpRest (tset 2 t 16 (.c (.b false))) H n = .ok (.ex 0) t1 H1 n') : runK callB5 rpL t H n = .ok (.ex 0) t1 H1 n' := by
  rw [rpL_eq]
  show seqO (runK callB5 rpZ) (seqO (runK callB5 rpC) (runK callB5 (.s _) t H n)) = _
  rw [test_run h17 h18 hj hb]
  have e : Nat.blt i (10 + j) = false := by
    cases hq : Nat.blt i (10 + j) with
    | false => rfl
    | true => exact absurd (Nat.le_of_ble_eq_true hq) hlt
  rw [e]
  exact h
theorem rp_off5 : offK 5 (kAt 5 rp) = true ∧ offK 5 (kAt 7 rp) = true ∧ offK 5 (kAt 8 rp) = true ∧ offK 10 (kAt 5 rp) = true := by
  refine ⟨?_, ?_, ?_, ?_⟩ <;> kernel_rfl
theorem rp_join (h03 : gcO g (runL callB5 [kAt 0 rp, kAt 1 rp, kAt 2 rp, kAt 3 rp] t0 .z 0) = some (tI, HI)) (h4 : ∀ W : List Nat, W.length ≤ 64 → W.Nodup → RqK Tryz.prog 135 W (kAt 4 rp) tI HI g.length .nx t4 H4 n4)
    (h10 : tget 2 (V.t []) t4 10 = .c (.i .i64 xw)) (h5 : tget 2 (V.t []) t4 5 = .c (.i .i64 xa)) (hE : ∀ j, j < 3 → rpTail j t4 H4 n4 = true) :
    ∃ e t' H' n', retE rpRs e t' H' n' = .ok (.c (.b true)) H' n' ∧ (comp Tryz.prog 135 W6 repBody = rp → W6.length ≤ 64 → W6.Nodup → Rq Tryz.prog 135 W6 repBody t0 .z 0 e t' H' n') := by
  obtain ⟨t5, H5, n5, r5, _⟩ := thenO_ok (hE 0 (by decide))
  have o10 : tget 2 (V.t []) t5 10 = .c (.i .i64 xw) := (runK_off (by decide) _ _ _ _ _ _ _ _ rp_off5.2.2.2 r5).trans h10
  have o5 : tget 2 (V.t []) t5 5 = .c (.i .i64 xa) := (runK_off (by decide) _ _ _ _ _ _ _ _ rp_off5.1 r5).trans h5
  obtain ⟨j, hj, _, r6⟩ := rest3_run (call := callB5) o10
  have hT := hE j hj
  unfold rpTail at hT
  rw [r5] at hT
  have hT : rpU2 j t5 H5 n5 = true := hT
  obtain ⟨t8, H8, n8, r78, hT3⟩ := thenO_ok hT
  obtain ⟨t7, H7, n7, r7, r8⟩ := runL2 r78
  have p5 : tget 2 (V.t []) t8 5 = .c (.i .i64 xa) := by
    rw [runK_off (by decide) _ _ _ _ _ _ _ _ rp_off5.2.2.1 r8, runK_off (by decide) _ _ _ _ _ _ _ _ rp_off5.2.1 r7, tget_set (by decide) (by decide), if_neg (by decide)]
    exact o5
  unfold rpU3 at hT3
  cases hr : repH t8 H8 n8 with
  | none => rw [hr] at hT3; cases hT3
  | some p =>
    obtain ⟨t9, H9, n9⟩ := p
    rw [hr] at hT3
    have hT3 : okR rpRs (runK callB5 (kFrom 10 rp) t9 H9 n9) = true := hT3
    obtain ⟨e, t', H', n', k1, k2⟩ := okR_ok hT3
    refine ⟨e, t', H', n', k2, fun hcomp hlen hnd => ?_⟩
    obtain ⟨tq, Hq, nq, q1, q2⟩ := gcO_ok h03
    have q1 : seqO (runL callB5 [kAt 1 rp, kAt 2 rp, kAt 3 rp]) (runK callB5 (kAt 0 rp) t0 .z 0) = .ok .nx tq Hq nq := q1
    rcases seqO_ok q1 with ⟨ta, Ha, na, s0, q3⟩ | ⟨q, _⟩
    · obtain ⟨tb, Hb, nb, tc, Hc, nc, s1, s2, s3⟩ := runL3 q3
      rw [repBody_eq] at hcomp ⊢
      have rk : ∀ {c : Code} {k : K} {t t1 : T8 V} {H H1 : HT} {n n1 : Nat} {ex : Ex}, comp Tryz.prog 135 W6 c = k → runK callB5 k t H n = .ok ex t1 H1 n1 → Rq Tryz.prog 135 W6 c t H n ex t1 H1 n1 := fun hc h => rqK_run follows callB5_ok hlen hnd h _ hc
      have c0 := congrArg kl hcomp
      have c1 := congrArg (fun k => kl (kr k)) hcomp
      have c2 := congrArg (fun k => kl (kr (kr k))) hcomp
      have c3 := congrArg (fun k => kl (kr (kr (kr k)))) hcomp
      have c4 := congrArg (fun k => kl (kr (kr (kr (kr k))))) hcomp
      have c5 := congrArg (fun k => kl (kr (kr (kr (kr (kr k)))))) hcomp
      have c6 := congrArg (fun k => kl (kr (kr (kr (kr (kr (kr k))))))) hcomp
      have c7 := congrArg (fun k => kl (kr (kr (kr (kr (kr (kr (kr k)))))))) hcomp
      have c8 := congrArg (fun k => kl (kr (kr (kr (kr (kr (kr (kr (kr k))))))))) hcomp
      have c10 := congrArg (fun k => kr (kr (kr (kr (kr (kr (kr (kr (kr (kr k)))))))))) hcomp
      refine rq_seq (rk c0 s0) (rq_seq (rk c1 s1) (rq_seq (rk c2 s2) (rq_seq (rq_gc (rk c3 s3) q2) (rq_seq (h4 W6 hlen hnd _ c4) (rq_seq (rk c5 r5) (rq_seq (rk (c6.trans rp6_eq) (r6 H5 n5)) (rq_seq (rk c7 r7) (rq_seq (rk c8 r8) (rq_seq (rep_hole hr p5) (rk c10 k1))))))))))
    · exact absurd rfl q
theorem rp_calls {x0 x1 x2 : Int} (ht : args0 (KF.ar z6) [.c (.i .i64 x0), .c (.i .i64 x1), .c (.i .i64 x2)] .z = some t0)
    (key : ∃ e t' H' n', retE rpRs e t' H' n' = .ok (.c (.b true)) H' n' ∧ (comp Tryz.prog 135 W6 repBody = rp → W6.length ≤ 64 → W6.Nodup → Rq Tryz.prog 135 W6 repBody t0 .z 0 e t' H' n')) (w : World) :
    Calls Tryz.prog 6 #[.int .i64 x0, .int .i64 x1, .int .i64 x2] w fun e w' => e = .returned (.bool true) ∧ Below w.heap.size w w' := by
  obtain ⟨e, t', H', n', h1, h2⟩ := key
  refine (calls_rq2 rp_made (args := [.c (.i .i64 x0), .c (.i .i64 x1), .c (.i .i64 x2)]) (by kernel_rfl) ht (fun fn c hfn hc hcomp hlen hnd => ?_) h1 w #[.int .i64 x0, .int .i64 x1, .int .i64 x2] (.cons rfl (.cons rfl (.cons rfl .nil)))).mono ?_
  · rw [rp_W] at hcomp hlen hnd ⊢
    rw [Tryz.func6] at hfn
    have hfn := Option.some.inj hfn
    have hcb : c = repBody := by
      unfold repBody
      rw [hfn, hc]; rfl
    subst hcb
    exact h2 hcomp hlen hnd
  · rintro e w' ⟨cv, G', rfl, hb, hv⟩
    have hv : cv = .bool true := hv
    subst hv
    exact ⟨rfl, hb⟩
end
end
end Ev
end Go.Proofs.YtcchekmejnhlmaaGreat
