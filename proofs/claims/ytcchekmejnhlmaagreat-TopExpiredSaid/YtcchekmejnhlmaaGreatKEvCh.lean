/- Joined texts. -/
import Derived.Test.YtcchekmejnhlmaaGreatKEvLt
namespace Go.Proofs.YtcchekmejnhlmaaGreat
namespace Ev
open Go.RowKit
noncomputable section
set_option linter.unusedVariables false
def hsets (l : List (Nat × Ob)) (H : HT) : HT := List.rec (motive := fun _ => HT → HT) (fun H => H) (fun p _ ih H => T8.fc (hset H p.1 p.2) ih) l H
/-- n numbers that rise from a -/
def rg (a n : Nat) : List Nat := Nat.rec (motive := fun _ => Nat → List Nat) (fun _ => []) (fun _ ih a => a :: ih (Nat.add a 1)) n a
def kBl (k : K) : K := K.rec .no (fun _ => .no) (fun _ => .no) (fun _ _ _ _ => .no) (fun _ _ _ _ _ => .no) (fun _ a _ => a) (fun _ _ => .no) (fun _ => .no) .no .no k
def kLo (k : K) : K := K.rec .no (fun _ => .no) (fun _ => .no) (fun _ _ _ _ => .no) (fun _ _ _ _ _ => .no) (fun _ _ _ => .no) (fun a _ => a) (fun _ => .no) .no .no k
section
variable {nt : Nat} {W : List Nat} {call : CallT} {H H1 H' H2 : HT} {n n1 n' : Nat} {t t1 t' t2 : T8 V} {ex : Ex}
theorem rd_step (hcall : CallOk Tryz.prog call) (hlen : W.length ≤ 64) (hnd : W.Nodup) {k : K} {g : List Nat} {m : Nat} (h : gcO g (runK call k t H n) = some (t1, H1)) (hr : Rounds Tryz.prog nt W k ex t' H' n' m t1 H1 g.length) : Rounds Tryz.prog nt W k ex t' H' n' (m + 1) t H n := by
  obtain ⟨t3, H3, n3, k1, k2⟩ := gcO_ok h
  exact .inl ⟨t1, H1, g.length, rqK_gc (rqK_run follows hcall hlen hnd k1) k2, hr⟩
theorem rd_end (hcall : CallOk Tryz.prog call) (hlen : W.length ≤ 64) (hnd : W.Nodup) {k : K} {i : Nat} (h : runK call k t H n = .ok (.ex i) t' H' n') : Rounds Tryz.prog nt W k (.ex i) t' H' n' 1 t H n :=
  .inr ⟨(fun q => by cases q), rqK_run follows hcall hlen hnd h⟩
theorem runL2 {a b : K} (h : runL call [a, b] t H n = .ok .nx t' H' n') : ∃ t1 H1 n1, runK call a t H n = .ok .nx t1 H1 n1 ∧ runK call b t1 H1 n1 = .ok .nx t' H' n' := by
  have h : seqO (runL call [b]) (runK call a t H n) = .ok .nx t' H' n' := h
  rcases seqO_ok h with ⟨t1, H1, n1, h1, h2⟩ | ⟨q, _⟩
  · have h2 : seqO (fun t H n => .ok .nx t H n) (runK call b t1 H1 n1) = .ok .nx t' H' n' := h2
    rcases seqO_ok h2 with ⟨t2, H2, n2, h3, h4⟩ | ⟨q, _⟩
    · have h4 : Ot.ok .nx t2 H2 n2 = .ok .nx t' H' n' := h4
      cases h4
      exact ⟨t1, H1, n1, h1, h3⟩
    · exact absurd rfl q
  · exact absurd rfl q
/-- two parts, then one whose first operation is 'x & m', then two more, the heap named anew -/
theorem ch_and (hcall : CallOk Tryz.prog call) (hlen : W.length ≤ 64) (hnd : W.Nodup) {a b c d k : K} {l : List Ins} {r m j : Nat} {x : Int} {g : List Nat} {ta tb : T8 V} {Ha Hb : HT} {na : Nat} {e : Ex} (h1 : runL call [a, b] t H n = .ok .nx ta Ha na) (hr : tget 2 (V.t []) ta r = .c (.i .i64 x)) (hb : bAnd .i64 x (.ofNat m) = some (.i .i64 (.ofNat j)))
    (h2 : gcO g (seqO (runL call [c, d]) (otNx (evS call l ⟨ta, [.c (.i .i64 (.ofNat j))]⟩ Ha na))) = some (tb, Hb)) (hl : ([c, d] : List K) ≠ []) (hk : RqK Tryz.prog nt W k tb Hb g.length e t' H' n') :
    RqK Tryz.prog nt W (.seq a (.seq b (.seq (.s (.u (.p (.bi .and (.r r) (.k (.c (.i .i64 (.ofNat m)))))) none true :: l)) (.seq c (.seq d k))))) t H n e t' H' n' := by
  obtain ⟨t1, H1, n1, q1, q2⟩ := runL2 h1
  obtain ⟨t3, H3, n3, q3, q4⟩ := gcO_ok h2
  refine rqK_seq (rqK_run follows hcall hlen hnd q1) (rqK_seq (rqK_run follows hcall hlen hnd q2) ?_)
  rcases seqO_ok q3 with ⟨t5, H5, n5, q5, q6⟩ | ⟨q, _⟩
  · refine rqK_seq (rqK_run (t' := t5) (H' := H5) (n' := n5) follows hcall hlen hnd (ex := .nx) ?_) (rqK_list follows hcall hlen hnd q6 q4 hl hk)
    show otNx (evS call (.u (.p (.bi .and (.r r) (.k (.c (.i .i64 (.ofNat m)))))) none true :: l) ⟨ta, []⟩ Ha na) = _
    rw [and_run call l r m ta [] Ha na x hr j hb]
    exact q5
  · exact absurd rfl q
end
theorem calls_rq' {fid : Nat} {f : KF} (hf : kGet kt fid = some f) {x : Int} {t0 : T8 V} (ha : Nat.ble 1 f.nt = true) (ht : args0 f.ar [.c (.i .i64 x)] .z = some t0)
    (key : ∃ e t' H' n', retE f.rs e t' H' n' = .ok (.c (.b true)) H' n' ∧ ∀ (nt : Nat) (W : List Nat), W.length ≤ 64 → W.Nodup → RqK Tryz.prog nt W f.body t0 .z 0 e t' H' n') (w : World) :
    Calls Tryz.prog fid #[.int .i64 x] w fun e w' => e = .returned (.bool true) ∧ Below w.heap.size w w' := by
  obtain ⟨e, t', H', n', h1, h2⟩ := key
  obtain ⟨wt, hwt⟩ := kt_ok _ _ hf
  refine (calls_rq hwt (args := [.c (.i .i64 x)]) ha ht (fun nt W _ hlen hnd => h2 nt W hlen hnd) h1 w #[.int .i64 x] (.cons rfl .nil)).mono ?_
  rintro e w' ⟨cv, G', rfl, hb, hv⟩
  have hv : cv = .bool true := hv
  subst hv
  exact ⟨rfl, hb⟩
end
end Ev
end Go.Proofs.YtcchekmejnhlmaaGreat
