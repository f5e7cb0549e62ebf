/- The walk through the reference's Batch. -/
import Derived.Test.YtapdlmiioljpgaaK2
namespace Go.Proofs.Ytapdlmiioljpgaa
open Go.RowKit
set_option linter.unusedVariables false

set_option maxRecDepth 100000 in
set_option maxHeartbeats 400000 in
theorem rbatch_any (A : Option Addr) (c : Nat) (ps : List Pt.Point) (w : World) (B : Nat) (hr : Reads w B 3 A ps.length (ps.flatMap pointCells)) (hB : B ≤ w.heap.size) (hn : ps.length ≤ 140737488355328) (hwf : ∀ p ∈ ps, Pt.wf p) :
    Calls Try.prog 99 #[.slice A ps.length c] w fun e w' => e = .returned (.bool (Pt.batchB ps)) ∧ Below w.heap.size w w' := by
  have HW := Lib.hid hwf
  have HR := Lib.hid hr
  have HE := Lib.hid (batch_eq ps)
  clear hwf hr
  generalize Pt.batchB ps = res at *
  go_enter Try.func99, Try.ntmps99
  go_wp2
  go_loopw [3] (fun i wr => ∃ k : Nat, k ≤ ps.length ∧ i = .int .i64 (k : Int) ∧ Hid ((ps.take k).any (fun p => !Pt.mayB p) = false) ∧ Hid (Below w.heap.size w wr)) (fun i _ => ps.length - (intOf i).toNat)
  case atStart => exact ⟨0, Nat.zero_le _, rfl, Lib.hid (by simp), Lib.hid (Below.refl _ _)⟩
  case round =>
    obtain ⟨k, hk, rfl, ha, hbw⟩ := hrel
    by_cases hlt : k < ps.length
    · obtain ⟨b, off, rfl, hbl, hc⟩ := HR.out.2 (by omega)
      have hbw1 := hbw.out
      have hcell0 : wr.cell? ⟨b, off + k * 3, none⟩ = some (.string ps[k].1) := by have := hc (k * 3 + 0) (.string ps[k].1) (by rw [flat_at pointCells 3 (fun _ => rfl) ps k 0 hlt (by omega)]; rfl); rw [hbw1.cell (p := ⟨b, _, none⟩) (show b < _ by omega)]; rwa [← Nat.add_assoc] at this
      have hcell1 : wr.cell? ⟨b, off + k * 3 + 1, none⟩ = some (.int .i64 ps[k].2.1) := by have := hc (k * 3 + 1) (.int .i64 ps[k].2.1) (by rw [flat_at pointCells 3 (fun _ => rfl) ps k 1 hlt (by omega)]; rfl); rw [hbw1.cell (p := ⟨b, _, none⟩) (show b < _ by omega)]; rwa [← Nat.add_assoc] at this
      have hcell2 : wr.cell? ⟨b, off + k * 3 + 2, none⟩ = some (.int .i64 ps[k].2.2) := by have := hc (k * 3 + 2) (.int .i64 ps[k].2.2) (by rw [flat_at pointCells 3 (fun _ => rfl) ps k 2 hlt (by omega)]; rfl); rw [hbw1.cell (p := ⟨b, _, none⟩) (show b < _ by omega)]; rwa [← Nat.add_assoc] at this
      have H1 := fun W => Lib.hid (rmay_any ps[k] W (HW.out _ (List.getElem_mem _)))
      have HS := Lib.hid fun h => batch_stop hlt h
      have HG := Lib.hid fun h => batch_step hlt ha.out h
      clear hc ha hbw1
      cases hm : Pt.mayB ps[k]
      · have hF : Hid (res = false) := by show _ = _; rw [HE.out, HS.out hm]; simp
        rw [hm] at H1
        clear HS HG hm HE
        go_wp2_with fail
        refine (H1 _).out.mono ?_
        rintro e w1 ⟨rfl, hb1⟩
        go_wp2_with fail
        go_ret
        exact ⟨ret_bool hF.out.symm, hbw.out.trans (hb1.mono hbw.out.size)⟩
      · have hF := Lib.hid (HG.out hm)
        rw [hm] at H1
        clear HS HG hm
        go_wp2_with fail
        refine (H1 _).out.mono ?_
        rintro e w1 ⟨rfl, hb1⟩
        go_wp2_with fail
        go_roundw
        case rel => exact ⟨k + 1, by omega, by go_num, hF, Lib.hid (hbw.out.trans (hb1.mono hbw.out.size))⟩
        case measure => simp [intOf]; omega
    · have hF : Hid (res = decide (ps.length ≤ 8)) := by show _ = _; rw [HE.out, batch_done hlt ha.out]; simp
      clear ha HE
      go_wp2_with fail
      go_ret
      exact ⟨ret_bool (by rw [hF.out]; first | rfl | (simp; omega)), hbw.out⟩
end Go.Proofs.Ytapdlmiioljpgaa
