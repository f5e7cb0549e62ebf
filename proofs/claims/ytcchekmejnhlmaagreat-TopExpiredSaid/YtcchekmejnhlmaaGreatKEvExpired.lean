/- Joined texts. -/
import Derived.Test.YtcchekmejnhlmaaGreatKEvEx00
import Derived.Test.YtcchekmejnhlmaaGreatKEvEx02
import Derived.Test.YtcchekmejnhlmaaGreatKEvEx03
import Derived.Test.YtcchekmejnhlmaaGreatKEvEx04
import Derived.Test.YtcchekmejnhlmaaGreatKEvEx05
import Derived.Test.YtcchekmejnhlmaaGreatKEvEx10
import Derived.Test.YtcchekmejnhlmaaGreatKEvEx12
import Derived.Test.YtcchekmejnhlmaaGreatKEvEx13
import Derived.Test.YtcchekmejnhlmaaGreatKEvEx14
import Derived.Test.YtcchekmejnhlmaaGreatKEvEx15
import Derived.Test.YtcchekmejnhlmaaGreatKEvEx16
import Derived.KernelRfl
namespace Go.Proofs.YtcchekmejnhlmaaGreat
namespace Ev
open Go.RowKit
noncomputable section
set_option linter.unusedVariables false
set_option maxRecDepth 100000
theorem ex_q0 (x : Int) (hb : bAnd .i64 x (.ofNat 1) = some (.i .i64 (.ofNat 0))) : ∃ e t' H' n', retE (KF.rs z4) e t' H' n' = .ok (.c (.b true)) H' n' ∧ ∀ (nt : Nat) (W : List Nat), W.length ≤ 64 → W.Nodup → RqK Tryz.prog nt W ex (ex0 x) .z 0 e t' H' n' := by
  obtain ⟨e, t', H', n', k1, k2⟩ := okR_ok (ex_f0 x)
  refine ⟨e, t', H', n', k2, fun nt W hlen hnd => ?_⟩
  rw [ex_shape]
  refine ch_and callB4_ok hlen hnd (ex_head x) (ex_reg x) hb (ex_b1_0 x) (by simp) ?_
  refine rqK_seq (rqK_seq (rqK_run follows callB4_ok hlen hnd (ex_b2_0 x)) ?_) (rqK_run follows callB4_ok hlen hnd k1)
  exact rqK_blk (rqK_loop (m := 6) (rd_step callB4_ok hlen hnd (ex_r00 x) <| rd_step callB4_ok hlen hnd (ex_r01 x) <| rd_step callB4_ok hlen hnd (ex_r02 x) <| rd_step callB4_ok hlen hnd (ex_r03 x) <| rd_step callB4_ok hlen hnd (ex_r04 x) <| rd_end callB4_ok hlen hnd (ex_e0 x)))
theorem ex_q1 (x : Int) (hb : bAnd .i64 x (.ofNat 1) = some (.i .i64 (.ofNat 1))) : ∃ e t' H' n', retE (KF.rs z4) e t' H' n' = .ok (.c (.b true)) H' n' ∧ ∀ (nt : Nat) (W : List Nat), W.length ≤ 64 → W.Nodup → RqK Tryz.prog nt W ex (ex0 x) .z 0 e t' H' n' := by
  obtain ⟨e, t', H', n', k1, k2⟩ := okR_ok (ex_f1 x)
  refine ⟨e, t', H', n', k2, fun nt W hlen hnd => ?_⟩
  rw [ex_shape]
  refine ch_and callB4_ok hlen hnd (ex_head x) (ex_reg x) hb (ex_b1_1 x) (by simp) ?_
  refine rqK_seq (rqK_seq (rqK_run follows callB4_ok hlen hnd (ex_b2_1 x)) ?_) (rqK_run follows callB4_ok hlen hnd k1)
  exact rqK_blk (rqK_loop (m := 7) (rd_step callB4_ok hlen hnd (ex_r10 x) <| rd_step callB4_ok hlen hnd (ex_r11 x) <| rd_step callB4_ok hlen hnd (ex_r12 x) <| rd_step callB4_ok hlen hnd (ex_r13 x) <| rd_step callB4_ok hlen hnd (ex_r14 x) <| rd_step callB4_ok hlen hnd (ex_r15 x) <| rd_end callB4_ok hlen hnd (ex_e1 x)))
theorem topExpired_walk (x : Int) (hw : (Lit.int .i64 x).wf = true) (w : World) : Calls Tryz.prog 4 #[.int .i64 x] w fun e w' => e = .returned (.bool true) ∧ Below w.heap.size w w' := by
  obtain ⟨j, hj, hb⟩ := bAnd_mask 1 (by decide) x
  have key : ∃ e t' H' n', retE (KF.rs z4) e t' H' n' = .ok (.c (.b true)) H' n' ∧ ∀ (nt : Nat) (W : List Nat), W.length ≤ 64 → W.Nodup → RqK Tryz.prog nt W ex (ex0 x) .z 0 e t' H' n' := by
    have : j = 0 ∨ j = 1 := by omega
    rcases this with rfl | rfl
    · exact ex_q0 x hb
    · exact ex_q1 x hb
  exact calls_rq' ex_get ex_nt (ex_args x) key w
end
end Ev
open Go.RowKit in
theorem topExpired_walk (x : Int) (hw : (Lit.int .i64 x).wf = true) (w : World) : Calls Tryz.prog 4 #[.int .i64 x] w fun e w' => e = .returned (.bool true) ∧ Below w.heap.size w w' := Ev.topExpired_walk x hw w
end Go.Proofs.YtcchekmejnhlmaaGreat
