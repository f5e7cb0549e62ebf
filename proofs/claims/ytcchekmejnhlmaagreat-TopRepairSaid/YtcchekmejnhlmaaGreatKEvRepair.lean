/- Joined texts. -/
import Derived.Test.YtcchekmejnhlmaaGreatKEvRr1
import Derived.Test.YtcchekmejnhlmaaGreatKEvRr2
import Derived.Test.YtcchekmejnhlmaaGreatKEvRr3
import Derived.Test.YtcchekmejnhlmaaGreatKEvRr4
import Derived.Test.YtcchekmejnhlmaaGreatKEvRr5
import Derived.Test.YtcchekmejnhlmaaGreatKEvRr6
import Derived.Test.YtcchekmejnhlmaaGreatKEvRr7
import Derived.Test.YtcchekmejnhlmaaGreatKEvRr8
import Derived.Test.YtcchekmejnhlmaaGreatKEvRe1
import Derived.Test.YtcchekmejnhlmaaGreatKEvRe2
import Derived.Test.YtcchekmejnhlmaaGreatKEvRe3
import Derived.Test.YtcchekmejnhlmaaGreatKEvRe4
import Derived.Test.YtcchekmejnhlmaaGreatKEvRe5
import Derived.Test.YtcchekmejnhlmaaGreatKEvRe6
import Derived.Test.YtcchekmejnhlmaaGreatKEvRe7
import Derived.Test.YtcchekmejnhlmaaGreatKEvRe8
import Derived.KernelRfl
namespace Go.Proofs.YtcchekmejnhlmaaGreat
namespace Ev
open Go.RowKit
noncomputable section
set_option linter.unusedVariables false
set_option maxRecDepth 100000
section
variable {xw xa xm : Int} {j m n' : Nat} {W : List Nat} {t' : T8 V} {H' : HT} {ex : Ex}
theorem rs0 (hw : W.length ≤ 64 ∧ W.Nodup) (hb : bAnd .i64 xm (.ofNat 15) = some (.i .i64 (.ofNat j))) (h : Rounds Tryz.prog 135 W rpL ex t' H' n' m (rpT1 xw xa xm) rpH1 (List.length rpG1)) (hj : j ≤ 15 := by decide) (hlt : 0 < 10 + j := by decide) : Rounds Tryz.prog 135 W rpL ex t' H' n' (m + 1) (rpT0 xw xa xm) rpH0 (List.length rpG0) :=
  rd_step callB5_ok hw.1 hw.2 (rp_round hb hj hlt (rp_a0 xw xa xm).1 (rp_a0 xw xa xm).2 (rp_r0 xw xa xm)) h
theorem rs1 (hw : W.length ≤ 64 ∧ W.Nodup) (hb : bAnd .i64 xm (.ofNat 15) = some (.i .i64 (.ofNat j))) (h : Rounds Tryz.prog 135 W rpL ex t' H' n' m (rpT2 xw xa xm) rpH2 (List.length rpG2)) (hj : j ≤ 15 := by decide) (hlt : 1 < 10 + j := by decide) : Rounds Tryz.prog 135 W rpL ex t' H' n' (m + 1) (rpT1 xw xa xm) rpH1 (List.length rpG1) :=
  rd_step callB5_ok hw.1 hw.2 (rp_round hb hj hlt (rp_a1 xw xa xm).1 (rp_a1 xw xa xm).2 (rp_r1 xw xa xm)) h
theorem rs2 (hw : W.length ≤ 64 ∧ W.Nodup) (hb : bAnd .i64 xm (.ofNat 15) = some (.i .i64 (.ofNat j))) (h : Rounds Tryz.prog 135 W rpL ex t' H' n' m (rpT3 xw xa xm) rpH3 (List.length rpG3)) (hj : j ≤ 15 := by decide) (hlt : 2 < 10 + j := by decide) : Rounds Tryz.prog 135 W rpL ex t' H' n' (m + 1) (rpT2 xw xa xm) rpH2 (List.length rpG2) :=
  rd_step callB5_ok hw.1 hw.2 (rp_round hb hj hlt (rp_a2 xw xa xm).1 (rp_a2 xw xa xm).2 (rp_r2 xw xa xm)) h
theorem rs3 (hw : W.length ≤ 64 ∧ W.Nodup) (hb : bAnd .i64 xm (.ofNat 15) = some (.i .i64 (.ofNat j))) (h : Rounds Tryz.prog 135 W rpL ex t' H' n' m (rpT4 xw xa xm) rpH4 (List.length rpG4)) (hj : j ≤ 15 := by decide) (hlt : 3 < 10 + j := by decide) : Rounds Tryz.prog 135 W rpL ex t' H' n' (m + 1) (rpT3 xw xa xm) rpH3 (List.length rpG3) :=
  rd_step callB5_ok hw.1 hw.2 (rp_round hb hj hlt (rp_a3 xw xa xm).1 (rp_a3 xw xa xm).2 (rp_r3 xw xa xm)) h
theorem rs4 (hw : W.length ≤ 64 ∧ W.Nodup) (hb : bAnd .i64 xm (.ofNat 15) = some (.i .i64 (.ofNat j))) (h : Rounds Tryz.prog 135 W rpL ex t' H' n' m (rpT5 xw xa xm) rpH5 (List.length rpG5)) (hj : j ≤ 15 := by decide) (hlt : 4 < 10 + j := by decide) : Rounds Tryz.prog 135 W rpL ex t' H' n' (m + 1) (rpT4 xw xa xm) rpH4 (List.length rpG4) :=
  rd_step callB5_ok hw.1 hw.2 (rp_round hb hj hlt (rp_a4 xw xa xm).1 (rp_a4 xw xa xm).2 (rp_r4 xw xa xm)) h
theorem rs5 (hw : W.length ≤ 64 ∧ W.Nodup) (hb : bAnd .i64 xm (.ofNat 15) = some (.i .i64 (.ofNat j))) (h : Rounds Tryz.prog 135 W rpL ex t' H' n' m (rpT6 xw xa xm) rpH6 (List.length rpG6)) (hj : j ≤ 15 := by decide) (hlt : 5 < 10 + j := by decide) : Rounds Tryz.prog 135 W rpL ex t' H' n' (m + 1) (rpT5 xw xa xm) rpH5 (List.length rpG5) :=
  rd_step callB5_ok hw.1 hw.2 (rp_round hb hj hlt (rp_a5 xw xa xm).1 (rp_a5 xw xa xm).2 (rp_r5 xw xa xm)) h
theorem rs6 (hw : W.length ≤ 64 ∧ W.Nodup) (hb : bAnd .i64 xm (.ofNat 15) = some (.i .i64 (.ofNat j))) (h : Rounds Tryz.prog 135 W rpL ex t' H' n' m (rpT7 xw xa xm) rpH7 (List.length rpG7)) (hj : j ≤ 15 := by decide) (hlt : 6 < 10 + j := by decide) : Rounds Tryz.prog 135 W rpL ex t' H' n' (m + 1) (rpT6 xw xa xm) rpH6 (List.length rpG6) :=
  rd_step callB5_ok hw.1 hw.2 (rp_round hb hj hlt (rp_a6 xw xa xm).1 (rp_a6 xw xa xm).2 (rp_r6 xw xa xm)) h
theorem rs7 (hw : W.length ≤ 64 ∧ W.Nodup) (hb : bAnd .i64 xm (.ofNat 15) = some (.i .i64 (.ofNat j))) (h : Rounds Tryz.prog 135 W rpL ex t' H' n' m (rpT8 xw xa xm) rpH8 (List.length rpG8)) (hj : j ≤ 15 := by decide) (hlt : 7 < 10 + j := by decide) : Rounds Tryz.prog 135 W rpL ex t' H' n' (m + 1) (rpT7 xw xa xm) rpH7 (List.length rpG7) :=
  rd_step callB5_ok hw.1 hw.2 (rp_round hb hj hlt (rp_a7 xw xa xm).1 (rp_a7 xw xa xm).2 (rp_r7 xw xa xm)) h
theorem rs8 (hw : W.length ≤ 64 ∧ W.Nodup) (hb : bAnd .i64 xm (.ofNat 15) = some (.i .i64 (.ofNat j))) (h : Rounds Tryz.prog 135 W rpL ex t' H' n' m (rpT9 xw xa xm) rpH9 (List.length rpG9)) (hj : j ≤ 15 := by decide) (hlt : 8 < 10 + j := by decide) : Rounds Tryz.prog 135 W rpL ex t' H' n' (m + 1) (rpT8 xw xa xm) rpH8 (List.length rpG8) :=
  rd_step callB5_ok hw.1 hw.2 (rp_round hb hj hlt (rp_a8 xw xa xm).1 (rp_a8 xw xa xm).2 (rp_r8 xw xa xm)) h
theorem rs9 (hw : W.length ≤ 64 ∧ W.Nodup) (hb : bAnd .i64 xm (.ofNat 15) = some (.i .i64 (.ofNat j))) (h : Rounds Tryz.prog 135 W rpL ex t' H' n' m (rpT10 xw xa xm) rpH10 (List.length rpG10)) (hj : j ≤ 15 := by decide) (hlt : 9 < 10 + j := by decide) : Rounds Tryz.prog 135 W rpL ex t' H' n' (m + 1) (rpT9 xw xa xm) rpH9 (List.length rpG9) :=
  rd_step callB5_ok hw.1 hw.2 (rp_round hb hj hlt (rp_a9 xw xa xm).1 (rp_a9 xw xa xm).2 (rp_r9 xw xa xm)) h
theorem rs10 (hw : W.length ≤ 64 ∧ W.Nodup) (hb : bAnd .i64 xm (.ofNat 15) = some (.i .i64 (.ofNat j))) (h : Rounds Tryz.prog 135 W rpL ex t' H' n' m (rpT11 xw xa xm) rpH11 (List.length rpG11)) (hj : j ≤ 15 := by decide) (hlt : 10 < 10 + j := by decide) : Rounds Tryz.prog 135 W rpL ex t' H' n' (m + 1) (rpT10 xw xa xm) rpH10 (List.length rpG10) :=
  rd_step callB5_ok hw.1 hw.2 (rp_round hb hj hlt (rp_a10 xw xa xm).1 (rp_a10 xw xa xm).2 (rp_r10 xw xa xm)) h
theorem rs11 (hw : W.length ≤ 64 ∧ W.Nodup) (hb : bAnd .i64 xm (.ofNat 15) = some (.i .i64 (.ofNat j))) (h : Rounds Tryz.prog 135 W rpL ex t' H' n' m (rpT12 xw xa xm) rpH12 (List.length rpG12)) (hj : j ≤ 15 := by decide) (hlt : 11 < 10 + j := by decide) : Rounds Tryz.prog 135 W rpL ex t' H' n' (m + 1) (rpT11 xw xa xm) rpH11 (List.length rpG11) :=
  rd_step callB5_ok hw.1 hw.2 (rp_round hb hj hlt (rp_a11 xw xa xm).1 (rp_a11 xw xa xm).2 (rp_r11 xw xa xm)) h
theorem rs12 (hw : W.length ≤ 64 ∧ W.Nodup) (hb : bAnd .i64 xm (.ofNat 15) = some (.i .i64 (.ofNat j))) (h : Rounds Tryz.prog 135 W rpL ex t' H' n' m (rpT13 xw xa xm) rpH13 (List.length rpG13)) (hj : j ≤ 15 := by decide) (hlt : 12 < 10 + j := by decide) : Rounds Tryz.prog 135 W rpL ex t' H' n' (m + 1) (rpT12 xw xa xm) rpH12 (List.length rpG12) :=
  rd_step callB5_ok hw.1 hw.2 (rp_round hb hj hlt (rp_a12 xw xa xm).1 (rp_a12 xw xa xm).2 (rp_r12 xw xa xm)) h
theorem rs13 (hw : W.length ≤ 64 ∧ W.Nodup) (hb : bAnd .i64 xm (.ofNat 15) = some (.i .i64 (.ofNat j))) (h : Rounds Tryz.prog 135 W rpL ex t' H' n' m (rpT14 xw xa xm) rpH14 (List.length rpG14)) (hj : j ≤ 15 := by decide) (hlt : 13 < 10 + j := by decide) : Rounds Tryz.prog 135 W rpL ex t' H' n' (m + 1) (rpT13 xw xa xm) rpH13 (List.length rpG13) :=
  rd_step callB5_ok hw.1 hw.2 (rp_round hb hj hlt (rp_a13 xw xa xm).1 (rp_a13 xw xa xm).2 (rp_r13 xw xa xm)) h
theorem rs14 (hw : W.length ≤ 64 ∧ W.Nodup) (hb : bAnd .i64 xm (.ofNat 15) = some (.i .i64 (.ofNat j))) (h : Rounds Tryz.prog 135 W rpL ex t' H' n' m (rpT15 xw xa xm) rpH15 (List.length rpG15)) (hj : j ≤ 15 := by decide) (hlt : 14 < 10 + j := by decide) : Rounds Tryz.prog 135 W rpL ex t' H' n' (m + 1) (rpT14 xw xa xm) rpH14 (List.length rpG14) :=
  rd_step callB5_ok hw.1 hw.2 (rp_round hb hj hlt (rp_a14 xw xa xm).1 (rp_a14 xw xa xm).2 (rp_r14 xw xa xm)) h
theorem rs15 (hw : W.length ≤ 64 ∧ W.Nodup) (hb : bAnd .i64 xm (.ofNat 15) = some (.i .i64 (.ofNat j))) (h : Rounds Tryz.prog 135 W rpL ex t' H' n' m (rpT16 xw xa xm) rpH16 (List.length rpG16)) (hj : j ≤ 15 := by decide) (hlt : 15 < 10 + j := by decide) : Rounds Tryz.prog 135 W rpL ex t' H' n' (m + 1) (rpT15 xw xa xm) rpH15 (List.length rpG15) :=
  rd_step callB5_ok hw.1 hw.2 (rp_round hb hj hlt (rp_a15 xw xa xm).1 (rp_a15 xw xa xm).2 (rp_r15 xw xa xm)) h
theorem rs16 (hw : W.length ≤ 64 ∧ W.Nodup) (hb : bAnd .i64 xm (.ofNat 15) = some (.i .i64 (.ofNat j))) (h : Rounds Tryz.prog 135 W rpL ex t' H' n' m (rpT17 xw xa xm) rpH17 (List.length rpG17)) (hj : j ≤ 15 := by decide) (hlt : 16 < 10 + j := by decide) : Rounds Tryz.prog 135 W rpL ex t' H' n' (m + 1) (rpT16 xw xa xm) rpH16 (List.length rpG16) :=
  rd_step callB5_ok hw.1 hw.2 (rp_round hb hj hlt (rp_a16 xw xa xm).1 (rp_a16 xw xa xm).2 (rp_r16 xw xa xm)) h
theorem rs17 (hw : W.length ≤ 64 ∧ W.Nodup) (hb : bAnd .i64 xm (.ofNat 15) = some (.i .i64 (.ofNat j))) (h : Rounds Tryz.prog 135 W rpL ex t' H' n' m (rpT18 xw xa xm) rpH18 (List.length rpG18)) (hj : j ≤ 15 := by decide) (hlt : 17 < 10 + j := by decide) : Rounds Tryz.prog 135 W rpL ex t' H' n' (m + 1) (rpT17 xw xa xm) rpH17 (List.length rpG17) :=
  rd_step callB5_ok hw.1 hw.2 (rp_round hb hj hlt (rp_a17 xw xa xm).1 (rp_a17 xw xa xm).2 (rp_r17 xw xa xm)) h
theorem rs18 (hw : W.length ≤ 64 ∧ W.Nodup) (hb : bAnd .i64 xm (.ofNat 15) = some (.i .i64 (.ofNat j))) (h : Rounds Tryz.prog 135 W rpL ex t' H' n' m (rpT19 xw xa xm) rpH19 (List.length rpG19)) (hj : j ≤ 15 := by decide) (hlt : 18 < 10 + j := by decide) : Rounds Tryz.prog 135 W rpL ex t' H' n' (m + 1) (rpT18 xw xa xm) rpH18 (List.length rpG18) :=
  rd_step callB5_ok hw.1 hw.2 (rp_round hb hj hlt (rp_a18 xw xa xm).1 (rp_a18 xw xa xm).2 (rp_r18 xw xa xm)) h
theorem rs19 (hw : W.length ≤ 64 ∧ W.Nodup) (hb : bAnd .i64 xm (.ofNat 15) = some (.i .i64 (.ofNat j))) (h : Rounds Tryz.prog 135 W rpL ex t' H' n' m (rpT20 xw xa xm) rpH20 (List.length rpG20)) (hj : j ≤ 15 := by decide) (hlt : 19 < 10 + j := by decide) : Rounds Tryz.prog 135 W rpL ex t' H' n' (m + 1) (rpT19 xw xa xm) rpH19 (List.length rpG19) :=
  rd_step callB5_ok hw.1 hw.2 (rp_round hb hj hlt (rp_a19 xw xa xm).1 (rp_a19 xw xa xm).2 (rp_r19 xw xa xm)) h
theorem rs20 (hw : W.length ≤ 64 ∧ W.Nodup) (hb : bAnd .i64 xm (.ofNat 15) = some (.i .i64 (.ofNat j))) (h : Rounds Tryz.prog 135 W rpL ex t' H' n' m (rpT21 xw xa xm) rpH21 (List.length rpG21)) (hj : j ≤ 15 := by decide) (hlt : 20 < 10 + j := by decide) : Rounds Tryz.prog 135 W rpL ex t' H' n' (m + 1) (rpT20 xw xa xm) rpH20 (List.length rpG20) :=
  rd_step callB5_ok hw.1 hw.2 (rp_round hb hj hlt (rp_a20 xw xa xm).1 (rp_a20 xw xa xm).2 (rp_r20 xw xa xm)) h
theorem rs21 (hw : W.length ≤ 64 ∧ W.Nodup) (hb : bAnd .i64 xm (.ofNat 15) = some (.i .i64 (.ofNat j))) (h : Rounds Tryz.prog 135 W rpL ex t' H' n' m (rpT22 xw xa xm) rpH22 (List.length rpG22)) (hj : j ≤ 15 := by decide) (hlt : 21 < 10 + j := by decide) : Rounds Tryz.prog 135 W rpL ex t' H' n' (m + 1) (rpT21 xw xa xm) rpH21 (List.length rpG21) :=
  rd_step callB5_ok hw.1 hw.2 (rp_round hb hj hlt (rp_a21 xw xa xm).1 (rp_a21 xw xa xm).2 (rp_r21 xw xa xm)) h
theorem rs22 (hw : W.length ≤ 64 ∧ W.Nodup) (hb : bAnd .i64 xm (.ofNat 15) = some (.i .i64 (.ofNat j))) (h : Rounds Tryz.prog 135 W rpL ex t' H' n' m (rpT23 xw xa xm) rpH23 (List.length rpG23)) (hj : j ≤ 15 := by decide) (hlt : 22 < 10 + j := by decide) : Rounds Tryz.prog 135 W rpL ex t' H' n' (m + 1) (rpT22 xw xa xm) rpH22 (List.length rpG22) :=
  rd_step callB5_ok hw.1 hw.2 (rp_round hb hj hlt (rp_a22 xw xa xm).1 (rp_a22 xw xa xm).2 (rp_r22 xw xa xm)) h
theorem rs23 (hw : W.length ≤ 64 ∧ W.Nodup) (hb : bAnd .i64 xm (.ofNat 15) = some (.i .i64 (.ofNat j))) (h : Rounds Tryz.prog 135 W rpL ex t' H' n' m (rpT24 xw xa xm) rpH24 (List.length rpG24)) (hj : j ≤ 15 := by decide) (hlt : 23 < 10 + j := by decide) : Rounds Tryz.prog 135 W rpL ex t' H' n' (m + 1) (rpT23 xw xa xm) rpH23 (List.length rpG23) :=
  rd_step callB5_ok hw.1 hw.2 (rp_round hb hj hlt (rp_a23 xw xa xm).1 (rp_a23 xw xa xm).2 (rp_r23 xw xa xm)) h
theorem rs24 (hw : W.length ≤ 64 ∧ W.Nodup) (hb : bAnd .i64 xm (.ofNat 15) = some (.i .i64 (.ofNat j))) (h : Rounds Tryz.prog 135 W rpL ex t' H' n' m (rpT25 xw xa xm) rpH25 (List.length rpG25)) (hj : j ≤ 15 := by decide) (hlt : 24 < 10 + j := by decide) : Rounds Tryz.prog 135 W rpL ex t' H' n' (m + 1) (rpT24 xw xa xm) rpH24 (List.length rpG24) :=
  rd_step callB5_ok hw.1 hw.2 (rp_round hb hj hlt (rp_a24 xw xa xm).1 (rp_a24 xw xa xm).2 (rp_r24 xw xa xm)) h
end
theorem rp_q0 (xw xa xm : Int) (hb : bAnd .i64 xm (.ofNat 15) = some (.i .i64 (.ofNat 0))) : ∃ e t' H' n', retE rpRs e t' H' n' = .ok (.c (.b true)) H' n' ∧ (comp Tryz.prog 135 W6 repBody = rp → W6.length ≤ 64 → W6.Nodup → Rq Tryz.prog 135 W6 repBody (rp0 xw xa xm) .z 0 e t' H' n') := by
  refine rp_join (H4 := rpH10) (n4 := List.length rpG10) (rp_h03 xw xa xm) (fun W hlen hnd => ?_) (rp_c10 xw xa xm).1 (rp_c10 xw xa xm).2 (fun w hw => ?_)
  · rw [rp4_eq]
    exact rqK_seq (rqK_run follows callB5_ok hlen hnd (rp_b2 xw xa xm)) (rqK_blk (ex := .ex 0) (rqK_loop (m := 11) (rs0 ⟨hlen, hnd⟩ hb <| rs1 ⟨hlen, hnd⟩ hb <| rs2 ⟨hlen, hnd⟩ hb <| rs3 ⟨hlen, hnd⟩ hb <| rs4 ⟨hlen, hnd⟩ hb <| rs5 ⟨hlen, hnd⟩ hb <| rs6 ⟨hlen, hnd⟩ hb <| rs7 ⟨hlen, hnd⟩ hb <| rs8 ⟨hlen, hnd⟩ hb <| rs9 ⟨hlen, hnd⟩ hb <| rd_end callB5_ok hlen hnd (rp_stop hb (by decide) (by decide) (rp_a10 xw xa xm).1 (rp_a10 xw xa xm).2 (rp_s10 xw xa xm)))))
  · have : w = 0 ∨ w = 1 ∨ w = 2 := by omega
    rcases this with rfl | rfl | rfl
    · exact rp_e10_0 xw xa xm
    · exact rp_e10_1 xw xa xm
    · exact rp_e10_2 xw xa xm
theorem rp_q1 (xw xa xm : Int) (hb : bAnd .i64 xm (.ofNat 15) = some (.i .i64 (.ofNat 1))) : ∃ e t' H' n', retE rpRs e t' H' n' = .ok (.c (.b true)) H' n' ∧ (comp Tryz.prog 135 W6 repBody = rp → W6.length ≤ 64 → W6.Nodup → Rq Tryz.prog 135 W6 repBody (rp0 xw xa xm) .z 0 e t' H' n') := by
  refine rp_join (H4 := rpH11) (n4 := List.length rpG11) (rp_h03 xw xa xm) (fun W hlen hnd => ?_) (rp_c11 xw xa xm).1 (rp_c11 xw xa xm).2 (fun w hw => ?_)
  · rw [rp4_eq]
    exact rqK_seq (rqK_run follows callB5_ok hlen hnd (rp_b2 xw xa xm)) (rqK_blk (ex := .ex 0) (rqK_loop (m := 12) (rs0 ⟨hlen, hnd⟩ hb <| rs1 ⟨hlen, hnd⟩ hb <| rs2 ⟨hlen, hnd⟩ hb <| rs3 ⟨hlen, hnd⟩ hb <| rs4 ⟨hlen, hnd⟩ hb <| rs5 ⟨hlen, hnd⟩ hb <| rs6 ⟨hlen, hnd⟩ hb <| rs7 ⟨hlen, hnd⟩ hb <| rs8 ⟨hlen, hnd⟩ hb <| rs9 ⟨hlen, hnd⟩ hb <| rs10 ⟨hlen, hnd⟩ hb <| rd_end callB5_ok hlen hnd (rp_stop hb (by decide) (by decide) (rp_a11 xw xa xm).1 (rp_a11 xw xa xm).2 (rp_s11 xw xa xm)))))
  · have : w = 0 ∨ w = 1 ∨ w = 2 := by omega
    rcases this with rfl | rfl | rfl
    · exact rp_e11_0 xw xa xm
    · exact rp_e11_1 xw xa xm
    · exact rp_e11_2 xw xa xm
theorem rp_q2 (xw xa xm : Int) (hb : bAnd .i64 xm (.ofNat 15) = some (.i .i64 (.ofNat 2))) : ∃ e t' H' n', retE rpRs e t' H' n' = .ok (.c (.b true)) H' n' ∧ (comp Tryz.prog 135 W6 repBody = rp → W6.length ≤ 64 → W6.Nodup → Rq Tryz.prog 135 W6 repBody (rp0 xw xa xm) .z 0 e t' H' n') := by
  refine rp_join (H4 := rpH12) (n4 := List.length rpG12) (rp_h03 xw xa xm) (fun W hlen hnd => ?_) (rp_c12 xw xa xm).1 (rp_c12 xw xa xm).2 (fun w hw => ?_)
  · rw [rp4_eq]
    exact rqK_seq (rqK_run follows callB5_ok hlen hnd (rp_b2 xw xa xm)) (rqK_blk (ex := .ex 0) (rqK_loop (m := 13) (rs0 ⟨hlen, hnd⟩ hb <| rs1 ⟨hlen, hnd⟩ hb <| rs2 ⟨hlen, hnd⟩ hb <| rs3 ⟨hlen, hnd⟩ hb <| rs4 ⟨hlen, hnd⟩ hb <| rs5 ⟨hlen, hnd⟩ hb <| rs6 ⟨hlen, hnd⟩ hb <| rs7 ⟨hlen, hnd⟩ hb <| rs8 ⟨hlen, hnd⟩ hb <| rs9 ⟨hlen, hnd⟩ hb <| rs10 ⟨hlen, hnd⟩ hb <| rs11 ⟨hlen, hnd⟩ hb <| rd_end callB5_ok hlen hnd (rp_stop hb (by decide) (by decide) (rp_a12 xw xa xm).1 (rp_a12 xw xa xm).2 (rp_s12 xw xa xm)))))
  · have : w = 0 ∨ w = 1 ∨ w = 2 := by omega
    rcases this with rfl | rfl | rfl
    · exact rp_e12_0 xw xa xm
    · exact rp_e12_1 xw xa xm
    · exact rp_e12_2 xw xa xm
theorem rp_q3 (xw xa xm : Int) (hb : bAnd .i64 xm (.ofNat 15) = some (.i .i64 (.ofNat 3))) : ∃ e t' H' n', retE rpRs e t' H' n' = .ok (.c (.b true)) H' n' ∧ (comp Tryz.prog 135 W6 repBody = rp → W6.length ≤ 64 → W6.Nodup → Rq Tryz.prog 135 W6 repBody (rp0 xw xa xm) .z 0 e t' H' n') := by
  refine rp_join (H4 := rpH13) (n4 := List.length rpG13) (rp_h03 xw xa xm) (fun W hlen hnd => ?_) (rp_c13 xw xa xm).1 (rp_c13 xw xa xm).2 (fun w hw => ?_)
  · rw [rp4_eq]
    exact rqK_seq (rqK_run follows callB5_ok hlen hnd (rp_b2 xw xa xm)) (rqK_blk (ex := .ex 0) (rqK_loop (m := 14) (rs0 ⟨hlen, hnd⟩ hb <| rs1 ⟨hlen, hnd⟩ hb <| rs2 ⟨hlen, hnd⟩ hb <| rs3 ⟨hlen, hnd⟩ hb <| rs4 ⟨hlen, hnd⟩ hb <| rs5 ⟨hlen, hnd⟩ hb <| rs6 ⟨hlen, hnd⟩ hb <| rs7 ⟨hlen, hnd⟩ hb <| rs8 ⟨hlen, hnd⟩ hb <| rs9 ⟨hlen, hnd⟩ hb <| rs10 ⟨hlen, hnd⟩ hb <| rs11 ⟨hlen, hnd⟩ hb <| rs12 ⟨hlen, hnd⟩ hb <| rd_end callB5_ok hlen hnd (rp_stop hb (by decide) (by decide) (rp_a13 xw xa xm).1 (rp_a13 xw xa xm).2 (rp_s13 xw xa xm)))))
  · have : w = 0 ∨ w = 1 ∨ w = 2 := by omega
    rcases this with rfl | rfl | rfl
    · exact rp_e13_0 xw xa xm
    · exact rp_e13_1 xw xa xm
    · exact rp_e13_2 xw xa xm
theorem rp_q4 (xw xa xm : Int) (hb : bAnd .i64 xm (.ofNat 15) = some (.i .i64 (.ofNat 4))) : ∃ e t' H' n', retE rpRs e t' H' n' = .ok (.c (.b true)) H' n' ∧ (comp Tryz.prog 135 W6 repBody = rp → W6.length ≤ 64 → W6.Nodup → Rq Tryz.prog 135 W6 repBody (rp0 xw xa xm) .z 0 e t' H' n') := by
  refine rp_join (H4 := rpH14) (n4 := List.length rpG14) (rp_h03 xw xa xm) (fun W hlen hnd => ?_) (rp_c14 xw xa xm).1 (rp_c14 xw xa xm).2 (fun w hw => ?_)
  · rw [rp4_eq]
    exact rqK_seq (rqK_run follows callB5_ok hlen hnd (rp_b2 xw xa xm)) (rqK_blk (ex := .ex 0) (rqK_loop (m := 15) (rs0 ⟨hlen, hnd⟩ hb <| rs1 ⟨hlen, hnd⟩ hb <| rs2 ⟨hlen, hnd⟩ hb <| rs3 ⟨hlen, hnd⟩ hb <| rs4 ⟨hlen, hnd⟩ hb <| rs5 ⟨hlen, hnd⟩ hb <| rs6 ⟨hlen, hnd⟩ hb <| rs7 ⟨hlen, hnd⟩ hb <| rs8 ⟨hlen, hnd⟩ hb <| rs9 ⟨hlen, hnd⟩ hb <| rs10 ⟨hlen, hnd⟩ hb <| rs11 ⟨hlen, hnd⟩ hb <| rs12 ⟨hlen, hnd⟩ hb <| rs13 ⟨hlen, hnd⟩ hb <| rd_end callB5_ok hlen hnd (rp_stop hb (by decide) (by decide) (rp_a14 xw xa xm).1 (rp_a14 xw xa xm).2 (rp_s14 xw xa xm)))))
  · have : w = 0 ∨ w = 1 ∨ w = 2 := by omega
    rcases this with rfl | rfl | rfl
    · exact rp_e14_0 xw xa xm
    · exact rp_e14_1 xw xa xm
    · exact rp_e14_2 xw xa xm
theorem rp_q5 (xw xa xm : Int) (hb : bAnd .i64 xm (.ofNat 15) = some (.i .i64 (.ofNat 5))) : ∃ e t' H' n', retE rpRs e t' H' n' = .ok (.c (.b true)) H' n' ∧ (comp Tryz.prog 135 W6 repBody = rp → W6.length ≤ 64 → W6.Nodup → Rq Tryz.prog 135 W6 repBody (rp0 xw xa xm) .z 0 e t' H' n') := by
  refine rp_join (H4 := rpH15) (n4 := List.length rpG15) (rp_h03 xw xa xm) (fun W hlen hnd => ?_) (rp_c15 xw xa xm).1 (rp_c15 xw xa xm).2 (fun w hw => ?_)
  · rw [rp4_eq]
    exact rqK_seq (rqK_run follows callB5_ok hlen hnd (rp_b2 xw xa xm)) (rqK_blk (ex := .ex 0) (rqK_loop (m := 16) (rs0 ⟨hlen, hnd⟩ hb <| rs1 ⟨hlen, hnd⟩ hb <| rs2 ⟨hlen, hnd⟩ hb <| rs3 ⟨hlen, hnd⟩ hb <| rs4 ⟨hlen, hnd⟩ hb <| rs5 ⟨hlen, hnd⟩ hb <| rs6 ⟨hlen, hnd⟩ hb <| rs7 ⟨hlen, hnd⟩ hb <| rs8 ⟨hlen, hnd⟩ hb <| rs9 ⟨hlen, hnd⟩ hb <| rs10 ⟨hlen, hnd⟩ hb <| rs11 ⟨hlen, hnd⟩ hb <| rs12 ⟨hlen, hnd⟩ hb <| rs13 ⟨hlen, hnd⟩ hb <| rs14 ⟨hlen, hnd⟩ hb <| rd_end callB5_ok hlen hnd (rp_stop hb (by decide) (by decide) (rp_a15 xw xa xm).1 (rp_a15 xw xa xm).2 (rp_s15 xw xa xm)))))
  · have : w = 0 ∨ w = 1 ∨ w = 2 := by omega
    rcases this with rfl | rfl | rfl
    · exact rp_e15_0 xw xa xm
    · exact rp_e15_1 xw xa xm
    · exact rp_e15_2 xw xa xm
theorem rp_q6 (xw xa xm : Int) (hb : bAnd .i64 xm (.ofNat 15) = some (.i .i64 (.ofNat 6))) : ∃ e t' H' n', retE rpRs e t' H' n' = .ok (.c (.b true)) H' n' ∧ (comp Tryz.prog 135 W6 repBody = rp → W6.length ≤ 64 → W6.Nodup → Rq Tryz.prog 135 W6 repBody (rp0 xw xa xm) .z 0 e t' H' n') := by
  refine rp_join (H4 := rpH16) (n4 := List.length rpG16) (rp_h03 xw xa xm) (fun W hlen hnd => ?_) (rp_c16 xw xa xm).1 (rp_c16 xw xa xm).2 (fun w hw => ?_)
  · rw [rp4_eq]
    exact rqK_seq (rqK_run follows callB5_ok hlen hnd (rp_b2 xw xa xm)) (rqK_blk (ex := .ex 0) (rqK_loop (m := 17) (rs0 ⟨hlen, hnd⟩ hb <| rs1 ⟨hlen, hnd⟩ hb <| rs2 ⟨hlen, hnd⟩ hb <| rs3 ⟨hlen, hnd⟩ hb <| rs4 ⟨hlen, hnd⟩ hb <| rs5 ⟨hlen, hnd⟩ hb <| rs6 ⟨hlen, hnd⟩ hb <| rs7 ⟨hlen, hnd⟩ hb <| rs8 ⟨hlen, hnd⟩ hb <| rs9 ⟨hlen, hnd⟩ hb <| rs10 ⟨hlen, hnd⟩ hb <| rs11 ⟨hlen, hnd⟩ hb <| rs12 ⟨hlen, hnd⟩ hb <| rs13 ⟨hlen, hnd⟩ hb <| rs14 ⟨hlen, hnd⟩ hb <| rs15 ⟨hlen, hnd⟩ hb <| rd_end callB5_ok hlen hnd (rp_stop hb (by decide) (by decide) (rp_a16 xw xa xm).1 (rp_a16 xw xa xm).2 (rp_s16 xw xa xm)))))
  · have : w = 0 ∨ w = 1 ∨ w = 2 := by omega
    rcases this with rfl | rfl | rfl
    · exact rp_e16_0 xw xa xm
    · exact rp_e16_1 xw xa xm
    · exact rp_e16_2 xw xa xm
theorem rp_q7 (xw xa xm : Int) (hb : bAnd .i64 xm (.ofNat 15) = some (.i .i64 (.ofNat 7))) : ∃ e t' H' n', retE rpRs e t' H' n' = .ok (.c (.b true)) H' n' ∧ (comp Tryz.prog 135 W6 repBody = rp → W6.length ≤ 64 → W6.Nodup → Rq Tryz.prog 135 W6 repBody (rp0 xw xa xm) .z 0 e t' H' n') := by
  refine rp_join (H4 := rpH17) (n4 := List.length rpG17) (rp_h03 xw xa xm) (fun W hlen hnd => ?_) (rp_c17 xw xa xm).1 (rp_c17 xw xa xm).2 (fun w hw => ?_)
  · rw [rp4_eq]
    exact rqK_seq (rqK_run follows callB5_ok hlen hnd (rp_b2 xw xa xm)) (rqK_blk (ex := .ex 0) (rqK_loop (m := 18) (rs0 ⟨hlen, hnd⟩ hb <| rs1 ⟨hlen, hnd⟩ hb <| rs2 ⟨hlen, hnd⟩ hb <| rs3 ⟨hlen, hnd⟩ hb <| rs4 ⟨hlen, hnd⟩ hb <| rs5 ⟨hlen, hnd⟩ hb <| rs6 ⟨hlen, hnd⟩ hb <| rs7 ⟨hlen, hnd⟩ hb <| rs8 ⟨hlen, hnd⟩ hb <| rs9 ⟨hlen, hnd⟩ hb <| rs10 ⟨hlen, hnd⟩ hb <| rs11 ⟨hlen, hnd⟩ hb <| rs12 ⟨hlen, hnd⟩ hb <| rs13 ⟨hlen, hnd⟩ hb <| rs14 ⟨hlen, hnd⟩ hb <| rs15 ⟨hlen, hnd⟩ hb <| rs16 ⟨hlen, hnd⟩ hb <| rd_end callB5_ok hlen hnd (rp_stop hb (by decide) (by decide) (rp_a17 xw xa xm).1 (rp_a17 xw xa xm).2 (rp_s17 xw xa xm)))))
  · have : w = 0 ∨ w = 1 ∨ w = 2 := by omega
    rcases this with rfl | rfl | rfl
    · exact rp_e17_0 xw xa xm
    · exact rp_e17_1 xw xa xm
    · exact rp_e17_2 xw xa xm
theorem rp_q8 (xw xa xm : Int) (hb : bAnd .i64 xm (.ofNat 15) = some (.i .i64 (.ofNat 8))) : ∃ e t' H' n', retE rpRs e t' H' n' = .ok (.c (.b true)) H' n' ∧ (comp Tryz.prog 135 W6 repBody = rp → W6.length ≤ 64 → W6.Nodup → Rq Tryz.prog 135 W6 repBody (rp0 xw xa xm) .z 0 e t' H' n') := by
  refine rp_join (H4 := rpH18) (n4 := List.length rpG18) (rp_h03 xw xa xm) (fun W hlen hnd => ?_) (rp_c18 xw xa xm).1 (rp_c18 xw xa xm).2 (fun w hw => ?_)
  · rw [rp4_eq]
    exact rqK_seq (rqK_run follows callB5_ok hlen hnd (rp_b2 xw xa xm)) (rqK_blk (ex := .ex 0) (rqK_loop (m := 19) (rs0 ⟨hlen, hnd⟩ hb <| rs1 ⟨hlen, hnd⟩ hb <| rs2 ⟨hlen, hnd⟩ hb <| rs3 ⟨hlen, hnd⟩ hb <| rs4 ⟨hlen, hnd⟩ hb <| rs5 ⟨hlen, hnd⟩ hb <| rs6 ⟨hlen, hnd⟩ hb <| rs7 ⟨hlen, hnd⟩ hb <| rs8 ⟨hlen, hnd⟩ hb <| rs9 ⟨hlen, hnd⟩ hb <| rs10 ⟨hlen, hnd⟩ hb <| rs11 ⟨hlen, hnd⟩ hb <| rs12 ⟨hlen, hnd⟩ hb <| rs13 ⟨hlen, hnd⟩ hb <| rs14 ⟨hlen, hnd⟩ hb <| rs15 ⟨hlen, hnd⟩ hb <| rs16 ⟨hlen, hnd⟩ hb <| rs17 ⟨hlen, hnd⟩ hb <| rd_end callB5_ok hlen hnd (rp_stop hb (by decide) (by decide) (rp_a18 xw xa xm).1 (rp_a18 xw xa xm).2 (rp_s18 xw xa xm)))))
  · have : w = 0 ∨ w = 1 ∨ w = 2 := by omega
    rcases this with rfl | rfl | rfl
    · exact rp_e18_0 xw xa xm
    · exact rp_e18_1 xw xa xm
    · exact rp_e18_2 xw xa xm
theorem rp_q9 (xw xa xm : Int) (hb : bAnd .i64 xm (.ofNat 15) = some (.i .i64 (.ofNat 9))) : ∃ e t' H' n', retE rpRs e t' H' n' = .ok (.c (.b true)) H' n' ∧ (comp Tryz.prog 135 W6 repBody = rp → W6.length ≤ 64 → W6.Nodup → Rq Tryz.prog 135 W6 repBody (rp0 xw xa xm) .z 0 e t' H' n') := by
  refine rp_join (H4 := rpH19) (n4 := List.length rpG19) (rp_h03 xw xa xm) (fun W hlen hnd => ?_) (rp_c19 xw xa xm).1 (rp_c19 xw xa xm).2 (fun w hw => ?_)
  · rw [rp4_eq]
    exact rqK_seq (rqK_run follows callB5_ok hlen hnd (rp_b2 xw xa xm)) (rqK_blk (ex := .ex 0) (rqK_loop (m := 20) (rs0 ⟨hlen, hnd⟩ hb <| rs1 ⟨hlen, hnd⟩ hb <| rs2 ⟨hlen, hnd⟩ hb <| rs3 ⟨hlen, hnd⟩ hb <| rs4 ⟨hlen, hnd⟩ hb <| rs5 ⟨hlen, hnd⟩ hb <| rs6 ⟨hlen, hnd⟩ hb <| rs7 ⟨hlen, hnd⟩ hb <| rs8 ⟨hlen, hnd⟩ hb <| rs9 ⟨hlen, hnd⟩ hb <| rs10 ⟨hlen, hnd⟩ hb <| rs11 ⟨hlen, hnd⟩ hb <| rs12 ⟨hlen, hnd⟩ hb <| rs13 ⟨hlen, hnd⟩ hb <| rs14 ⟨hlen, hnd⟩ hb <| rs15 ⟨hlen, hnd⟩ hb <| rs16 ⟨hlen, hnd⟩ hb <| rs17 ⟨hlen, hnd⟩ hb <| rs18 ⟨hlen, hnd⟩ hb <| rd_end callB5_ok hlen hnd (rp_stop hb (by decide) (by decide) (rp_a19 xw xa xm).1 (rp_a19 xw xa xm).2 (rp_s19 xw xa xm)))))
  · have : w = 0 ∨ w = 1 ∨ w = 2 := by omega
    rcases this with rfl | rfl | rfl
    · exact rp_e19_0 xw xa xm
    · exact rp_e19_1 xw xa xm
    · exact rp_e19_2 xw xa xm
theorem rp_q10 (xw xa xm : Int) (hb : bAnd .i64 xm (.ofNat 15) = some (.i .i64 (.ofNat 10))) : ∃ e t' H' n', retE rpRs e t' H' n' = .ok (.c (.b true)) H' n' ∧ (comp Tryz.prog 135 W6 repBody = rp → W6.length ≤ 64 → W6.Nodup → Rq Tryz.prog 135 W6 repBody (rp0 xw xa xm) .z 0 e t' H' n') := by
  refine rp_join (H4 := rpH20) (n4 := List.length rpG20) (rp_h03 xw xa xm) (fun W hlen hnd => ?_) (rp_c20 xw xa xm).1 (rp_c20 xw xa xm).2 (fun w hw => ?_)
  · rw [rp4_eq]
    exact rqK_seq (rqK_run follows callB5_ok hlen hnd (rp_b2 xw xa xm)) (rqK_blk (ex := .ex 0) (rqK_loop (m := 21) (rs0 ⟨hlen, hnd⟩ hb <| rs1 ⟨hlen, hnd⟩ hb <| rs2 ⟨hlen, hnd⟩ hb <| rs3 ⟨hlen, hnd⟩ hb <| rs4 ⟨hlen, hnd⟩ hb <| rs5 ⟨hlen, hnd⟩ hb <| rs6 ⟨hlen, hnd⟩ hb <| rs7 ⟨hlen, hnd⟩ hb <| rs8 ⟨hlen, hnd⟩ hb <| rs9 ⟨hlen, hnd⟩ hb <| rs10 ⟨hlen, hnd⟩ hb <| rs11 ⟨hlen, hnd⟩ hb <| rs12 ⟨hlen, hnd⟩ hb <| rs13 ⟨hlen, hnd⟩ hb <| rs14 ⟨hlen, hnd⟩ hb <| rs15 ⟨hlen, hnd⟩ hb <| rs16 ⟨hlen, hnd⟩ hb <| rs17 ⟨hlen, hnd⟩ hb <| rs18 ⟨hlen, hnd⟩ hb <| rs19 ⟨hlen, hnd⟩ hb <| rd_end callB5_ok hlen hnd (rp_stop hb (by decide) (by decide) (rp_a20 xw xa xm).1 (rp_a20 xw xa xm).2 (rp_s20 xw xa xm)))))
  · have : w = 0 ∨ w = 1 ∨ w = 2 := by omega
    rcases this with rfl | rfl | rfl
    · exact rp_e20_0 xw xa xm
    · exact rp_e20_1 xw xa xm
    · exact rp_e20_2 xw xa xm
theorem rp_q11 (xw xa xm : Int) (hb : bAnd .i64 xm (.ofNat 15) = some (.i .i64 (.ofNat 11))) : ∃ e t' H' n', retE rpRs e t' H' n' = .ok (.c (.b true)) H' n' ∧ (comp Tryz.prog 135 W6 repBody = rp → W6.length ≤ 64 → W6.Nodup → Rq Tryz.prog 135 W6 repBody (rp0 xw xa xm) .z 0 e t' H' n') := by
  refine rp_join (H4 := rpH21) (n4 := List.length rpG21) (rp_h03 xw xa xm) (fun W hlen hnd => ?_) (rp_c21 xw xa xm).1 (rp_c21 xw xa xm).2 (fun w hw => ?_)
  · rw [rp4_eq]
    exact rqK_seq (rqK_run follows callB5_ok hlen hnd (rp_b2 xw xa xm)) (rqK_blk (ex := .ex 0) (rqK_loop (m := 22) (rs0 ⟨hlen, hnd⟩ hb <| rs1 ⟨hlen, hnd⟩ hb <| rs2 ⟨hlen, hnd⟩ hb <| rs3 ⟨hlen, hnd⟩ hb <| rs4 ⟨hlen, hnd⟩ hb <| rs5 ⟨hlen, hnd⟩ hb <| rs6 ⟨hlen, hnd⟩ hb <| rs7 ⟨hlen, hnd⟩ hb <| rs8 ⟨hlen, hnd⟩ hb <| rs9 ⟨hlen, hnd⟩ hb <| rs10 ⟨hlen, hnd⟩ hb <| rs11 ⟨hlen, hnd⟩ hb <| rs12 ⟨hlen, hnd⟩ hb <| rs13 ⟨hlen, hnd⟩ hb <| rs14 ⟨hlen, hnd⟩ hb <| rs15 ⟨hlen, hnd⟩ hb <| rs16 ⟨hlen, hnd⟩ hb <| rs17 ⟨hlen, hnd⟩ hb <| rs18 ⟨hlen, hnd⟩ hb <| rs19 ⟨hlen, hnd⟩ hb <| rs20 ⟨hlen, hnd⟩ hb <| rd_end callB5_ok hlen hnd (rp_stop hb (by decide) (by decide) (rp_a21 xw xa xm).1 (rp_a21 xw xa xm).2 (rp_s21 xw xa xm)))))
  · have : w = 0 ∨ w = 1 ∨ w = 2 := by omega
    rcases this with rfl | rfl | rfl
    · exact rp_e21_0 xw xa xm
    · exact rp_e21_1 xw xa xm
    · exact rp_e21_2 xw xa xm
theorem rp_q12 (xw xa xm : Int) (hb : bAnd .i64 xm (.ofNat 15) = some (.i .i64 (.ofNat 12))) : ∃ e t' H' n', retE rpRs e t' H' n' = .ok (.c (.b true)) H' n' ∧ (comp Tryz.prog 135 W6 repBody = rp → W6.length ≤ 64 → W6.Nodup → Rq Tryz.prog 135 W6 repBody (rp0 xw xa xm) .z 0 e t' H' n') := by
  refine rp_join (H4 := rpH22) (n4 := List.length rpG22) (rp_h03 xw xa xm) (fun W hlen hnd => ?_) (rp_c22 xw xa xm).1 (rp_c22 xw xa xm).2 (fun w hw => ?_)
  · rw [rp4_eq]
    exact rqK_seq (rqK_run follows callB5_ok hlen hnd (rp_b2 xw xa xm)) (rqK_blk (ex := .ex 0) (rqK_loop (m := 23) (rs0 ⟨hlen, hnd⟩ hb <| rs1 ⟨hlen, hnd⟩ hb <| rs2 ⟨hlen, hnd⟩ hb <| rs3 ⟨hlen, hnd⟩ hb <| rs4 ⟨hlen, hnd⟩ hb <| rs5 ⟨hlen, hnd⟩ hb <| rs6 ⟨hlen, hnd⟩ hb <| rs7 ⟨hlen, hnd⟩ hb <| rs8 ⟨hlen, hnd⟩ hb <| rs9 ⟨hlen, hnd⟩ hb <| rs10 ⟨hlen, hnd⟩ hb <| rs11 ⟨hlen, hnd⟩ hb <| rs12 ⟨hlen, hnd⟩ hb <| rs13 ⟨hlen, hnd⟩ hb <| rs14 ⟨hlen, hnd⟩ hb <| rs15 ⟨hlen, hnd⟩ hb <| rs16 ⟨hlen, hnd⟩ hb <| rs17 ⟨hlen, hnd⟩ hb <| rs18 ⟨hlen, hnd⟩ hb <| rs19 ⟨hlen, hnd⟩ hb <| rs20 ⟨hlen, hnd⟩ hb <| rs21 ⟨hlen, hnd⟩ hb <| rd_end callB5_ok hlen hnd (rp_stop hb (by decide) (by decide) (rp_a22 xw xa xm).1 (rp_a22 xw xa xm).2 (rp_s22 xw xa xm)))))
  · have : w = 0 ∨ w = 1 ∨ w = 2 := by omega
    rcases this with rfl | rfl | rfl
    · exact rp_e22_0 xw xa xm
    · exact rp_e22_1 xw xa xm
    · exact rp_e22_2 xw xa xm
theorem rp_q13 (xw xa xm : Int) (hb : bAnd .i64 xm (.ofNat 15) = some (.i .i64 (.ofNat 13))) : ∃ e t' H' n', retE rpRs e t' H' n' = .ok (.c (.b true)) H' n' ∧ (comp Tryz.prog 135 W6 repBody = rp → W6.length ≤ 64 → W6.Nodup → Rq Tryz.prog 135 W6 repBody (rp0 xw xa xm) .z 0 e t' H' n') := by
  refine rp_join (H4 := rpH23) (n4 := List.length rpG23) (rp_h03 xw xa xm) (fun W hlen hnd => ?_) (rp_c23 xw xa xm).1 (rp_c23 xw xa xm).2 (fun w hw => ?_)
  · rw [rp4_eq]
    exact rqK_seq (rqK_run follows callB5_ok hlen hnd (rp_b2 xw xa xm)) (rqK_blk (ex := .ex 0) (rqK_loop (m := 24) (rs0 ⟨hlen, hnd⟩ hb <| rs1 ⟨hlen, hnd⟩ hb <| rs2 ⟨hlen, hnd⟩ hb <| rs3 ⟨hlen, hnd⟩ hb <| rs4 ⟨hlen, hnd⟩ hb <| rs5 ⟨hlen, hnd⟩ hb <| rs6 ⟨hlen, hnd⟩ hb <| rs7 ⟨hlen, hnd⟩ hb <| rs8 ⟨hlen, hnd⟩ hb <| rs9 ⟨hlen, hnd⟩ hb <| rs10 ⟨hlen, hnd⟩ hb <| rs11 ⟨hlen, hnd⟩ hb <| rs12 ⟨hlen, hnd⟩ hb <| rs13 ⟨hlen, hnd⟩ hb <| rs14 ⟨hlen, hnd⟩ hb <| rs15 ⟨hlen, hnd⟩ hb <| rs16 ⟨hlen, hnd⟩ hb <| rs17 ⟨hlen, hnd⟩ hb <| rs18 ⟨hlen, hnd⟩ hb <| rs19 ⟨hlen, hnd⟩ hb <| rs20 ⟨hlen, hnd⟩ hb <| rs21 ⟨hlen, hnd⟩ hb <| rs22 ⟨hlen, hnd⟩ hb <| rd_end callB5_ok hlen hnd (rp_stop hb (by decide) (by decide) (rp_a23 xw xa xm).1 (rp_a23 xw xa xm).2 (rp_s23 xw xa xm)))))
  · have : w = 0 ∨ w = 1 ∨ w = 2 := by omega
    rcases this with rfl | rfl | rfl
    · exact rp_e23_0 xw xa xm
    · exact rp_e23_1 xw xa xm
    · exact rp_e23_2 xw xa xm
theorem rp_q14 (xw xa xm : Int) (hb : bAnd .i64 xm (.ofNat 15) = some (.i .i64 (.ofNat 14))) : ∃ e t' H' n', retE rpRs e t' H' n' = .ok (.c (.b true)) H' n' ∧ (comp Tryz.prog 135 W6 repBody = rp → W6.length ≤ 64 → W6.Nodup → Rq Tryz.prog 135 W6 repBody (rp0 xw xa xm) .z 0 e t' H' n') := by
  refine rp_join (H4 := rpH24) (n4 := List.length rpG24) (rp_h03 xw xa xm) (fun W hlen hnd => ?_) (rp_c24 xw xa xm).1 (rp_c24 xw xa xm).2 (fun w hw => ?_)
  · rw [rp4_eq]
    exact rqK_seq (rqK_run follows callB5_ok hlen hnd (rp_b2 xw xa xm)) (rqK_blk (ex := .ex 0) (rqK_loop (m := 25) (rs0 ⟨hlen, hnd⟩ hb <| rs1 ⟨hlen, hnd⟩ hb <| rs2 ⟨hlen, hnd⟩ hb <| rs3 ⟨hlen, hnd⟩ hb <| rs4 ⟨hlen, hnd⟩ hb <| rs5 ⟨hlen, hnd⟩ hb <| rs6 ⟨hlen, hnd⟩ hb <| rs7 ⟨hlen, hnd⟩ hb <| rs8 ⟨hlen, hnd⟩ hb <| rs9 ⟨hlen, hnd⟩ hb <| rs10 ⟨hlen, hnd⟩ hb <| rs11 ⟨hlen, hnd⟩ hb <| rs12 ⟨hlen, hnd⟩ hb <| rs13 ⟨hlen, hnd⟩ hb <| rs14 ⟨hlen, hnd⟩ hb <| rs15 ⟨hlen, hnd⟩ hb <| rs16 ⟨hlen, hnd⟩ hb <| rs17 ⟨hlen, hnd⟩ hb <| rs18 ⟨hlen, hnd⟩ hb <| rs19 ⟨hlen, hnd⟩ hb <| rs20 ⟨hlen, hnd⟩ hb <| rs21 ⟨hlen, hnd⟩ hb <| rs22 ⟨hlen, hnd⟩ hb <| rs23 ⟨hlen, hnd⟩ hb <| rd_end callB5_ok hlen hnd (rp_stop hb (by decide) (by decide) (rp_a24 xw xa xm).1 (rp_a24 xw xa xm).2 (rp_s24 xw xa xm)))))
  · have : w = 0 ∨ w = 1 ∨ w = 2 := by omega
    rcases this with rfl | rfl | rfl
    · exact rp_e24_0 xw xa xm
    · exact rp_e24_1 xw xa xm
    · exact rp_e24_2 xw xa xm
theorem rp_q15 (xw xa xm : Int) (hb : bAnd .i64 xm (.ofNat 15) = some (.i .i64 (.ofNat 15))) : ∃ e t' H' n', retE rpRs e t' H' n' = .ok (.c (.b true)) H' n' ∧ (comp Tryz.prog 135 W6 repBody = rp → W6.length ≤ 64 → W6.Nodup → Rq Tryz.prog 135 W6 repBody (rp0 xw xa xm) .z 0 e t' H' n') := by
  refine rp_join (H4 := rpH25) (n4 := List.length rpG25) (rp_h03 xw xa xm) (fun W hlen hnd => ?_) (rp_c25 xw xa xm).1 (rp_c25 xw xa xm).2 (fun w hw => ?_)
  · rw [rp4_eq]
    exact rqK_seq (rqK_run follows callB5_ok hlen hnd (rp_b2 xw xa xm)) (rqK_blk (ex := .ex 0) (rqK_loop (m := 26) (rs0 ⟨hlen, hnd⟩ hb <| rs1 ⟨hlen, hnd⟩ hb <| rs2 ⟨hlen, hnd⟩ hb <| rs3 ⟨hlen, hnd⟩ hb <| rs4 ⟨hlen, hnd⟩ hb <| rs5 ⟨hlen, hnd⟩ hb <| rs6 ⟨hlen, hnd⟩ hb <| rs7 ⟨hlen, hnd⟩ hb <| rs8 ⟨hlen, hnd⟩ hb <| rs9 ⟨hlen, hnd⟩ hb <| rs10 ⟨hlen, hnd⟩ hb <| rs11 ⟨hlen, hnd⟩ hb <| rs12 ⟨hlen, hnd⟩ hb <| rs13 ⟨hlen, hnd⟩ hb <| rs14 ⟨hlen, hnd⟩ hb <| rs15 ⟨hlen, hnd⟩ hb <| rs16 ⟨hlen, hnd⟩ hb <| rs17 ⟨hlen, hnd⟩ hb <| rs18 ⟨hlen, hnd⟩ hb <| rs19 ⟨hlen, hnd⟩ hb <| rs20 ⟨hlen, hnd⟩ hb <| rs21 ⟨hlen, hnd⟩ hb <| rs22 ⟨hlen, hnd⟩ hb <| rs23 ⟨hlen, hnd⟩ hb <| rs24 ⟨hlen, hnd⟩ hb <| rd_end callB5_ok hlen hnd (rp_stop hb (by decide) (by decide) (rp_a25 xw xa xm).1 (rp_a25 xw xa xm).2 (rp_s25 xw xa xm)))))
  · have : w = 0 ∨ w = 1 ∨ w = 2 := by omega
    rcases this with rfl | rfl | rfl
    · exact rp_e25_0 xw xa xm
    · exact rp_e25_1 xw xa xm
    · exact rp_e25_2 xw xa xm
theorem topRepair_walk (a0 a1 a2 : Int) (w0 : (Lit.int .i64 a0).wf = true) (w1 : (Lit.int .i64 a1).wf = true) (w2 : (Lit.int .i64 a2).wf = true) (w : World) : Calls Tryz.prog 6 #[.int .i64 a0, .int .i64 a1, .int .i64 a2] w fun e w' => e = .returned (.bool true) ∧ Below w.heap.size w w' := by
  obtain ⟨j, hj, hb⟩ := bAnd_mask 15 (by decide) a2
  refine rp_calls (rp_args a0 a1 a2) ?_ w
  have : j = 0 ∨ j = 1 ∨ j = 2 ∨ j = 3 ∨ j = 4 ∨ j = 5 ∨ j = 6 ∨ j = 7 ∨ j = 8 ∨ j = 9 ∨ j = 10 ∨ j = 11 ∨ j = 12 ∨ j = 13 ∨ j = 14 ∨ j = 15 := by omega
  rcases this with rfl | rfl | rfl | rfl | rfl | rfl | rfl | rfl | rfl | rfl | rfl | rfl | rfl | rfl | rfl | rfl
  · exact rp_q0 a0 a1 a2 hb
  · exact rp_q1 a0 a1 a2 hb
  · exact rp_q2 a0 a1 a2 hb
  · exact rp_q3 a0 a1 a2 hb
  · exact rp_q4 a0 a1 a2 hb
  · exact rp_q5 a0 a1 a2 hb
  · exact rp_q6 a0 a1 a2 hb
  · exact rp_q7 a0 a1 a2 hb
  · exact rp_q8 a0 a1 a2 hb
  · exact rp_q9 a0 a1 a2 hb
  · exact rp_q10 a0 a1 a2 hb
  · exact rp_q11 a0 a1 a2 hb
  · exact rp_q12 a0 a1 a2 hb
  · exact rp_q13 a0 a1 a2 hb
  · exact rp_q14 a0 a1 a2 hb
  · exact rp_q15 a0 a1 a2 hb
end
end Ev
open Go.RowKit in
theorem topRepair_walk (a0 a1 a2 : Int) (w0 : (Lit.int .i64 a0).wf = true) (w1 : (Lit.int .i64 a1).wf = true) (w2 : (Lit.int .i64 a2).wf = true) (w : World) : Calls Tryz.prog 6 #[.int .i64 a0, .int .i64 a1, .int .i64 a2] w fun e w' => e = .returned (.bool true) ∧ Below w.heap.size w w' := Ev.topRepair_walk a0 a1 a2 w0 w1 w2 w
end Go.Proofs.YtcchekmejnhlmaaGreat
