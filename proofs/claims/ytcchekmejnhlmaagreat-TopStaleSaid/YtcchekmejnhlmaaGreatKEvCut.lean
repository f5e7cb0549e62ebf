/- Ev: a function whose argument enters at one place, run in parts. -/
import Derived.Test.YtcchekmejnhlmaaGreatKEvAw
import Derived.Test.YtcchekmejnhlmaaGreatKEvRq
namespace Go.Proofs.YtcchekmejnhlmaaGreat
namespace Ev
open Go.RowKit
noncomputable section
set_option linter.unusedVariables false

def kl (k : K) : K := K.rec .no (fun _ => .no) (fun _ => .no) (fun a _ _ _ => a) (fun _ _ _ _ _ => .no) (fun _ _ _ => .no) (fun _ _ => .no) (fun _ => .no) .no .no k
def kr (k : K) : K := K.rec .no (fun _ => .no) (fun _ => .no) (fun _ b _ _ => b) (fun _ _ _ _ _ => .no) (fun _ _ _ => .no) (fun _ _ => .no) (fun _ => .no) .no .no k
theorem runK_seq (call : CallT) (a b : K) (t : T8 V) (H : HT) (n : Nat) : runK call (.seq a b) t H n = seqO (runK call b) (runK call a t H n) := rfl
theorem runK_assoc (call : CallT) (a b c : K) (t : T8 V) (H : HT) (n : Nat) : runK call (.seq a (.seq b c)) t H n = runK call (.seq (.seq a b) c) t H n := by
  simp only [runK_seq]
  cases runK call a t H n with
  | no => rfl
  | ok e t1 H1 n1 => cases e <;> rfl
def callB1 : CallT := callK kt S1 100
def kAt (j : Nat) (k : K) : K := kl (Nat.rec k (fun _ ih => kr ih) j)
def kFrom (j : Nat) (k : K) : K := Nat.rec k (fun _ ih => kr ih) j
def kIns (k : K) : List Ins := K.rec [] (fun l => l) (fun _ => []) (fun _ _ _ _ => []) (fun _ _ _ _ _ => []) (fun _ _ _ => []) (fun _ _ => []) (fun _ => []) [] [] k
theorem and_run (call : CallT) (l : List Ins) (r m : Nat) (t : T8 V) (s : List V) (H : HT) (n : Nat) (x : Int) (hr : tget 2 (V.t []) t r = .c (.i .i64 x)) (j : Nat) (hb : bAnd .i64 x (.ofNat m) = some (.i .i64 (.ofNat j))) :
    evS call (.u (.p (.bi .and (.r r) (.k (.c (.i .i64 (.ofNat m)))))) none true :: l) ⟨t, s⟩ H n = evS call l ⟨t, .c (.i .i64 (.ofNat j)) :: s⟩ H n := by
  have e1 : evP (.bi .and (.r r) (.k (.c (.i .i64 (.ofNat m))))) ⟨t, s⟩ = some (.c (.i .i64 (.ofNat j))) := by
    show vI (tget 2 (V.t []) t r) _ = _
    rw [hr]
    show oC (bAnd .i64 x (.ofNat m)) = _
    rw [hb]; rfl
  show (Option.rec (motive := fun _ => Rr) Rr.no (kOne H n (kPut none true ⟨t, s⟩ (evS call l))) (evP (.bi .and (.r r) (.k (.c (.i .i64 (.ofNat m))))) ⟨t, s⟩) : Rr) = _
  rw [e1]
  rfl
theorem end_gen (call : CallT) (l : List Ins) (c y : K) (r m : Nat) (t : T8 V) (H : HT) (n : Nat) (x : Int) (hr : tget 2 (V.t []) t r = .c (.i .i64 x)) (j : Nat) (hb : bAnd .i64 x (.ofNat m) = some (.i .i64 (.ofNat j))) :
    runK call (.seq (.seq (.s (.u (.p (.bi .and (.r r) (.k (.c (.i .i64 (.ofNat m)))))) none true :: l)) c) y) t H n = seqO (runK call y) (seqO (runK call c) (otNx (evS call l ⟨t, [.c (.i .i64 (.ofNat j))]⟩ H n))) := by
  show seqO (runK call y) (seqO (runK call c) (otNx (evS call (.u (.p (.bi .and (.r r) (.k (.c (.i .i64 (.ofNat m)))))) none true :: l) ⟨t, []⟩ H n))) = _
  rw [and_run call l r m t [] H n x hr j hb]
/-- a function whose parts were run, its last part at each value of the argument -/
theorem calls_cut {fid : Nat} {f : KF} (hf : kGet kt fid = some f) {L : List K} {R c y : K} {l : List Ins} {r m : Nat} (hm : m < 4611686018427387904) (hs : f.body = seqs L R) (hL : L ≠ []) (hR : R = .seq (.seq (.s (.u (.p (.bi .and (.r r) (.k (.c (.i .i64 (.ofNat m)))))) none true :: l)) c) y)
    {S : SumT} (hS : SumOk Tryz.prog S) (d : Nat) {x : Int} {t0 t : T8 V} {H : HT} {g : List Nat} (ha : Nat.ble 1 f.nt = true) (ht : args0 f.ar [.c (.i .i64 x)] .z = some t0) (h1 : gcO g (runL (callK kt S d) L t0 .z 0) = some (t, H)) (hr : tget 2 (V.t []) t r = .c (.i .i64 x))
    (h2 : ∀ j, j ≤ m → okR f.rs (seqO (runK (callK kt S d) y) (seqO (runK (callK kt S d) c) (otNx (evS (callK kt S d) l ⟨t, [.c (.i .i64 (.ofNat j))]⟩ H (List.length g))))) = true) (w : World) :
    Calls Tryz.prog fid #[.int .i64 x] w fun e w' => e = .returned (.bool true) ∧ Below w.heap.size w w' := by
  obtain ⟨j, hj, hb⟩ := bAnd_mask m hm x
  have h3 := h2 j hj
  rw [← end_gen (callK kt S d) l c y r m t H (List.length g) x hr j hb, ← hR] at h3
  obtain ⟨ex, t', H', n', k1, k2⟩ := okR_ok h3
  obtain ⟨t1, H1, n1, k3, k4⟩ := gcO_ok h1
  obtain ⟨wt, hwt⟩ := kt_ok _ _ hf
  refine (calls_rq hwt (args := [.c (.i .i64 x)]) ha ht (fun nt W _ hlen hnd => ?_) k2 w #[.int .i64 x] (.cons rfl .nil)).mono ?_
  · rw [hs]
    exact rqK_list follows (calls_made hS d) hlen hnd k3 k4 hL (rqK_run follows (calls_made hS d) hlen hnd k1)
  · rintro e w' ⟨cv, G', rfl, hb, hv⟩
    have hv : cv = .bool true := hv
    subst hv
    exact ⟨rfl, hb⟩
end
end Ev
end Go.Proofs.YtcchekmejnhlmaaGreat
