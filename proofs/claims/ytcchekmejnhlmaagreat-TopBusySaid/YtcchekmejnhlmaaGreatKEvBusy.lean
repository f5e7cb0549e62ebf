/- TopBusy: for every number the call hands back true, and nothing that lay in memory turns. -/
import Derived.Test.YtcchekmejnhlmaaGreatKEvBz1
import Derived.Test.YtcchekmejnhlmaaGreatKEvBz2
import Derived.Test.YtcchekmejnhlmaaGreatKEvBz3
import Derived.Test.YtcchekmejnhlmaaGreatKEvBz4
namespace Go.Proofs.YtcchekmejnhlmaaGreat
namespace Ev
open Go.RowKit
noncomputable section
set_option linter.unusedVariables false
set_option maxRecDepth 100000

theorem bz_all (x : Int) (j : Nat) (hj : j ≤ 15) : bzC x j = true := by
  have : j = 0 ∨ j = 1 ∨ j = 2 ∨ j = 3 ∨ j = 4 ∨ j = 5 ∨ j = 6 ∨ j = 7 ∨ j = 8 ∨ j = 9 ∨ j = 10 ∨ j = 11 ∨ j = 12 ∨ j = 13 ∨ j = 14 ∨ j = 15 := by omega
  rcases this with rfl | rfl | rfl | rfl | rfl | rfl | rfl | rfl | rfl | rfl | rfl | rfl | rfl | rfl | rfl | rfl
  · exact bz_0 x
  · exact bz_1 x
  · exact bz_2 x
  · exact bz_3 x
  · exact bz_4 x
  · exact bz_5 x
  · exact bz_6 x
  · exact bz_7 x
  · exact bz_8 x
  · exact bz_9 x
  · exact bz_10 x
  · exact bz_11 x
  · exact bz_12 x
  · exact bz_13 x
  · exact bz_14 x
  · exact bz_15 x
theorem add1_15 (j : Nat) (hj : j ≤ 15) : bAdd .i64 (.ofNat 1) (.ofNat j) = some (.i .i64 (.ofNat (Nat.add j 1))) := by
  have : j = 0 ∨ j = 1 ∨ j = 2 ∨ j = 3 ∨ j = 4 ∨ j = 5 ∨ j = 6 ∨ j = 7 ∨ j = 8 ∨ j = 9 ∨ j = 10 ∨ j = 11 ∨ j = 12 ∨ j = 13 ∨ j = 14 ∨ j = 15 := by omega
  rcases this with rfl | rfl | rfl | rfl | rfl | rfl | rfl | rfl | rfl | rfl | rfl | rfl | rfl | rfl | rfl | rfl <;> rfl
theorem bz_shape : bz = .seq (kl bz) (.seq (kl (kr bz)) (.seq (kl (kr (kr bz))) (.seq (kl (kr (kr (kr bz)))) (.seq bzR bzE)))) := by kernel_rfl
theorem bz_off : offK 12 bzA = true := by kernel_rfl
def bzRR : K := .s [.u (.p (.bi .and (.r 12) (.k (.c (.i .i64 (.ofNat 15)))))) none true, .u (.p (.bi .add (.k (.c (.i .i64 (.ofNat 1)))) (.s 0))) none true, .u (.p (.mv (.s 0))) (some 10) true]
theorem bzRR_run (call : CallT) (t : T8 V) (H : HT) (n : Nat) (x : Int) (h12 : tget 2 (V.t []) t 12 = .c (.i .i64 x)) (j : Nat) (hj : j ≤ 15) (hb : bAnd .i64 x (.ofNat 15) = some (.i .i64 (.ofNat j))) :
    runK call bzRR t H n = .ok .nx (tset 2 t 10 (.c (.i .i64 (.ofNat (Nat.add j 1))))) H n := by
  have e1 : evP (.bi .and (.r 12) (.k (.c (.i .i64 (.ofNat 15))))) ⟨t, []⟩ = some (.c (.i .i64 (.ofNat j))) := by
    show vI (tget 2 (V.t []) t 12) _ = _
    rw [h12]
    show oC (bAnd .i64 x (.ofNat 15)) = _
    rw [hb]; rfl
  have e2 : evP (.bi .add (.k (.c (.i .i64 (.ofNat 1)))) (.s 0)) ⟨t, [.c (.i .i64 (.ofNat j))]⟩ = some (.c (.i .i64 (.ofNat (Nat.add j 1)))) := by
    show oC (bAdd .i64 (.ofNat 1) (.ofNat j)) = _
    rw [add1_15 j hj]; rfl
  show otNx (Option.rec (motive := fun _ => Rr) Rr.no (kOne H n (kPut none true ⟨t, []⟩ (evS call [.u (.p (.bi .add (.k (.c (.i .i64 (.ofNat 1)))) (.s 0))) none true, .u (.p (.mv (.s 0))) (some 10) true]))) (evP (.bi .and (.r 12) (.k (.c (.i .i64 (.ofNat 15))))) ⟨t, []⟩)) = _
  rw [e1]
  show otNx (Option.rec (motive := fun _ => Rr) Rr.no (kOne H n (kPut none true ⟨t, [.c (.i .i64 (.ofNat j))]⟩ (evS call [.u (.p (.mv (.s 0))) (some 10) true]))) (evP (.bi .add (.k (.c (.i .i64 (.ofNat 1)))) (.s 0)) ⟨t, [.c (.i .i64 (.ofNat j))]⟩)) = _
  rw [e2]
  rfl
theorem bz_gen (call : CallT) (A E : K) (rs : List RV) (t0 : T8 V) (x : Int) (h12 : tget 2 (V.t []) t0 12 = .c (.i .i64 x)) (hoff : offK 12 A = true)
    (hall : ∀ j, j ≤ 15 → thenO (runK call A t0 .z 0) (fun t H n => retT rs (runK call E (tset 2 t 10 (.c (.i .i64 (.ofNat (Nat.add j 1))))) H n)) = true) : retT rs (runK call (.seq A (.seq bzRR E)) t0 .z 0) = true := by
  obtain ⟨j, hj, hb⟩ := bAnd_mask 15 (by decide) x
  obtain ⟨t, H, n, h1, h2⟩ := thenO_ok (hall j hj)
  have h12' : tget 2 (V.t []) t 12 = .c (.i .i64 x) := by rw [runK_off (by decide) A _ _ _ _ _ _ _ hoff h1]; exact h12
  have e : runK call (.seq A (.seq bzRR E)) t0 .z 0 = runK call E (tset 2 t 10 (.c (.i .i64 (.ofNat (Nat.add j 1))))) H n := by
    rw [runK_seq, h1]
    show runK call (.seq bzRR E) t H n = _
    rw [runK_seq, bzRR_run call t H n x h12' j hj hb]
    rfl
  rw [e]
  exact h2
theorem bzR_is : bzR = bzRR := by kernel_rfl
theorem assoc4 (call : CallT) (a b c d e : K) (t : T8 V) (H : HT) (n : Nat) : runK call (.seq a (.seq b (.seq c (.seq d e)))) t H n = runK call (.seq (.seq (.seq (.seq a b) c) d) e) t H n := by
  rw [runK_assoc, runK_assoc, runK_assoc]
theorem bz_whole (call : CallT) (t : T8 V) : runK call bz t .z 0 = runK call (.seq bzA (.seq bzRR bzE)) t .z 0 := by
  rw [← bzR_is]
  exact (congrArg (fun k => runK call k t .z 0) bz_shape).trans (assoc4 call _ _ _ _ _ t .z 0)
theorem bz_call (t : T8 V) : okB (callRK callB1 z7 .z 0 (some t)) = retT (KF.rs z7) (runK callB1 bz t .z 0) := by kernel_rfl
theorem bz_reg (x : Int) : tget 2 (V.t []) (bz0 x) 12 = .c (.i .i64 x) := by kernel_rfl
theorem bz_hall (x : Int) (j : Nat) (hj : j ≤ 15) : thenO (runK callB1 bzA (bz0 x) .z 0) (fun t H n => retT (KF.rs z7) (runK callB1 bzE (tset 2 t 10 (.c (.i .i64 (.ofNat (Nat.add j 1))))) H n)) = true := bz_all x j hj
theorem bz_gen' (x : Int) : retT (KF.rs z7) (runK callB1 (.seq bzA (.seq bzRR bzE)) (bz0 x) .z 0) = true :=
  bz_gen callB1 bzA bzE (KF.rs z7) (bz0 x) x (bz_reg x) bz_off (bz_hall x)
theorem bz_run (x : Int) : okB (callRK callB1 z7 .z 0 (some (bz0 x))) = true := by
  rw [bz_call, bz_whole]
  exact bz_gen' x
theorem bz_args (x : Int) : callK kt S1 (Nat.succ 100) 7 [.c (.i .i64 x)] .z 0 = callRK callB1 z7 .z 0 (some (bz0 x)) := by kernel_rfl
theorem topBusy_walk (x : Int) (hw : (Lit.int .i64 x).wf = true) (w : World) : Calls Tryz.prog 7 #[.int .i64 x] w fun e w' => e = .returned (.bool true) ∧ Below w.heap.size w w' := by
  obtain ⟨H, n, h⟩ := okB_ok (bz_run x)
  obtain ⟨_, _, k⟩ := calls_made S1_ok (Nat.succ 100) _ _ _ _ _ _ _ ((bz_args x).trans h)
  refine (k (fun _ => none) w #[.int .i64 x] (R_z _ _) (.cons rfl .nil) (fun _ _ _ => rfl)).mono ?_
  rintro e w' ⟨cv, G', rfl, s, hv⟩
  have hv : cv = .bool true := hv
  subst hv
  exact ⟨rfl, ⟨s.fr.os, s.fr.tape, s.fr.output, s.fr.size, fun k hk => s.fr.block k hk foot_z⟩⟩
end
end Ev
open Go.RowKit in
theorem topBusy_walk (x : Int) (hw : (Lit.int .i64 x).wf = true) (w : World) : Calls Tryz.prog 7 #[.int .i64 x] w fun e w' => e = .returned (.bool true) ∧ Below w.heap.size w w' := Ev.topBusy_walk x hw w
end Go.Proofs.YtcchekmejnhlmaaGreat
