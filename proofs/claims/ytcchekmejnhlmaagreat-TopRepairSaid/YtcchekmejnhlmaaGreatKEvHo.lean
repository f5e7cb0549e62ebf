/- Joined texts. -/
import Derived.Test.YtcchekmejnhlmaaGreatKEvCut
namespace Go.Proofs.YtcchekmejnhlmaaGreat
namespace Ev
open Go.RowKit
noncomputable section
set_option linter.unusedVariables false
section
variable {P : Program} {nt : Nat} {W : List Nat} {call : CallT} {H H' : HT} {n n' : Nat} {t t' : T8 V} {ex : Ex}
theorem runs_k (hm : P.follows .mixedOrders = true) (hcall : CallOk P call) (hlen : W.length ≤ 64) (hnd : W.Nodup) {c : Code} {k : K} (hc : comp P nt W c = k) (h : runK call k t H n = .ok ex t' H' n') : Runs P nt W c t H n ex t' H' n' := by
  subst hc
  rw [runK_comp] at h
  exact run_ok hm hcall (drawn_ok hcall) hlen hnd c _ _ _ _ _ _ _ h
/-- what a body's run comes to, as the function's summary -/
theorem sum_runs {wt : WT} {fid : Nat} {f : KF} (hf : compF P wt fid = some f) {args : List V} {t0 : T8 V} {v : V} {H0 : HT} {n0 : Nat} (ha : Nat.ble args.length f.nt = true) (ht : args0 f.ar args .z = some t0) (hv : retE f.rs ex t' H' n' = .ok v H0 n0)
    (hq : ∀ fn c, P.funcs[fid]? = some fn → fn.body = some c → comp P f.nt (tget 3 [] wt fid) c = f.body → (tget 3 [] wt fid).length ≤ 64 → (tget 3 [] wt fid).Nodup → Runs P f.nt (tget 3 [] wt fid) c t0 H n ex t' H' n') :
    n ≤ n0 ∧ ∀ G w (cargs : Array Value), R G (hp H) w → All2 (V.ok G) args cargs.toList → Free G n n0 →
      Calls P fid cargs w fun e w' => ∃ cv G', e = .returned cv ∧ Stp G (hp H) n w G' (hp H0) n0 w' ∧ V.ok G' v cv := by
  unfold compF at hf
  split at hf
  · rename_i g hg
    cases hf
    unfold cF at hg
    split at hg
    · rename_i fn hfn
      split at hg
      · rename_i c hc'
        generalize hW : tget 3 [] wt fid = W at hg hq
        unfold cFb at hg
        split at hg
        · rename_i rs hrs
          cases hw : and (Nat.ble W.length 64) (noDup W) with
          | false => rw [hw] at hg; cases hg
          | true =>
            rw [hw] at hg
            have hg : some _ = some g := hg
            cases hg
            rw [Bool.and_eq_true] at hw
            have hlen : W.length ≤ 64 := Nat.le_of_ble_eq_true hw.1
            have hnd := noDup_ok hw.2
            have ha : args.length ≤ fn.ntmps := Nat.le_of_ble_eq_true ha
            have ht0 : args0 ((List.range (fn.params.size + fn.nfree)).map fun i => ixW i W 0) args .z = some t0 := ht
            rw [List.range_eq_range'] at ht0
            obtain ⟨hal, hrg⟩ := args0_ok hlen hnd _ _ _ _ _ ht0
            obtain ⟨m, k⟩ := hq fn c hfn hc' rfl hlen hnd
            have hre : (∀ id, ex ≠ .ex id) ∧ retV rs ⟨t', []⟩ H' n' = .ok v H0 n0 := by
              have h : retE rs ex t' H' n' = .ok v H0 n0 := hv
              cases ex with
              | ex id => cases h
              | nx => exact ⟨fun _ q => (by cases q), h⟩
              | rt => exact ⟨fun _ q => (by cases q), h⟩
            have hn1 : n0 = n' ∧ H0 = H' := by
              have h := hre.2
              unfold retV at h
              split at h
              · split at h
                · cases h; exact ⟨rfl, rfl⟩
                · cases h
              · cases h
            obtain ⟨rfl, rfl⟩ := hn1
            refine ⟨m, fun G w cargs hR hca hfr => calls_of_wp hfn hc' ?_⟩
            have hcs : cargs.size = args.length := by rw [← Array.length_toList]; exact hca.length.symm
            have hsz : (cargs ++ Array.replicate (fn.ntmps - cargs.size) undef).size = fn.ntmps := by simp; omega
            refine k G _ w hR ⟨fun j h1 h2 => ?_, fun t o q => by cases q⟩ hsz hfr _ fun G' a' w' s r m' d => ?_
            · have h1 : j < W.length := h1
              show V.ok G (rget ⟨t0, []⟩ j) ((cargs ++ Array.replicate (fn.ntmps - cargs.size) undef).getD W[j] undef)
              rw [getD_app, hrg j h1, ← Array.toArray_toList (xs := cargs), Array.getD_eq_getD_getElem?, List.getElem?_toArray, ← List.getD_eq_getElem?_getD]
              by_cases q : W[j] < args.length
              · rw [if_pos (by omega)]
                exact args_getD hca W[j]
              · rw [if_neg (by omega), List.getD_eq_getElem?_getD, List.getElem?_eq_none, Option.getD_none]
                · rw [show rget ⟨T8.z, []⟩ j = (V.t []) from tget_z _ _ _]; exact V.undef_ok G
                · rw [Array.length_toList]; omega
            · obtain ⟨_, _, cv, q1, q2⟩ := retV_ok (n := n0) hrs hre.2 s.r r m'
              have hb : a'.defers = [] ∧ ∃ v, (results fn a'.tmps).run P w' = .ok v w' ∧ ∃ cv G', Ending.returned v = .returned cv ∧ Stp G (hp H) n w G' (hp H0) n0 w' ∧ V.ok G' _ cv := ⟨d, cv, q1, cv, G', rfl, s, q2⟩
              cases ex with
              | nx => exact hb
              | rt => exact hb
              | ex id => exact absurd rfl (hre.1 id)
        · cases hg
      · cases hg
    · cases hg
  · cases hf
end
end
end Ev
end Go.Proofs.YtcchekmejnhlmaaGreat
