/- Joined texts. -/
import Derived.Test.YtcchekmejnhlmaaGreatKEvLt
namespace Go.Proofs.YtcchekmejnhlmaaGreat
namespace Ev
open Go.RowKit
noncomputable section
set_option linter.unusedVariables false
/-- n numbers that rise from a -/
def rg (a n : Nat) : List Nat := Nat.rec (motive := fun _ => Nat → List Nat) (fun _ => []) (fun _ ih a => a :: ih (Nat.add a 1)) n a
def kBl (k : K) : K := K.rec .no (fun _ => .no) (fun _ => .no) (fun _ _ _ _ => .no) (fun _ _ _ _ _ => .no) (fun _ a _ => a) (fun _ _ => .no) (fun _ => .no) .no .no k
def kLo (k : K) : K := K.rec .no (fun _ => .no) (fun _ => .no) (fun _ _ _ _ => .no) (fun _ _ _ _ _ => .no) (fun _ _ _ => .no) (fun a _ => a) (fun _ => .no) .no .no k
section
variable {nt : Nat} {W : List Nat} {call : CallT} {H H1 H' H2 : HT} {n n1 n' : Nat} {t t1 t' t2 : T8 V} {ex : Ex}
theorem rd_step (hcall : CallOk Tryz.prog call) (hlen : W.length ≤ 64) (hnd : W.Nodup) {k : K} {g : List Nat} {m : Nat} (h : gcO g (runK call k t H n) = some (t1, H1)) (hr : Rounds Tryz.prog nt W k ex t' H' n' m t1 H1 g.length) : Rounds Tryz.prog nt W k ex t' H' n' (m + 1) t H n := by
  obtain ⟨t3, H3, n3, k1, k2⟩ := gcO_ok h
  exact .inl ⟨t1, H1, g.length, rqK_gc (rqK_run follows hcall hlen hnd k1) k2, hr⟩
theorem rd_end (hcall : CallOk Tryz.prog call) (hlen : W.length ≤ 64) (hnd : W.Nodup) {k : K} {i : Nat} (h : runK call k t H n = .ok (.ex i) t' H' n') : Rounds Tryz.prog nt W k (.ex i) t' H' n' 1 t H n :=
  .inr ⟨(fun q => by cases q), rqK_run follows hcall hlen hnd h⟩
theorem runL2 {a b : K} (h : runL call [a, b] t H n = .ok .nx t' H' n') : ∃ t1 H1 n1, runK call a t H n = .ok .nx t1 H1 n1 ∧ runK call b t1 H1 n1 = .ok .nx t' H' n' := by
  have h : seqO (runL call [b]) (runK call a t H n) = .ok .nx t' H' n' := h
  rcases seqO_ok h with ⟨t1, H1, n1, h1, h2⟩ | ⟨q, _⟩
  · have h2 : seqO (fun t H n => .ok .nx t H n) (runK call b t1 H1 n1) = .ok .nx t' H' n' := h2
    rcases seqO_ok h2 with ⟨t2, H2, n2, h3, h4⟩ | ⟨q, _⟩
    · have h4 : Ot.ok .nx t2 H2 n2 = .ok .nx t' H' n' := h4
      cases h4
      exact ⟨t1, H1, n1, h1, h3⟩
    · exact absurd rfl q
  · exact absurd rfl q
end
end
end Ev
end Go.Proofs.YtcchekmejnhlmaaGreat
