/- TopBusy as the evaluator takes it: what stands ahead of the argument's use, what stands behind it. -/
import Derived.Test.YtcchekmejnhlmaaGreatKEvAw
namespace Go.Proofs.YtcchekmejnhlmaaGreat
namespace Ev
open Go.RowKit
noncomputable section
set_option linter.unusedVariables false

def kl (k : K) : K := K.rec .no (fun _ => .no) (fun _ => .no) (fun a _ _ _ => a) (fun _ _ _ _ _ => .no) (fun _ _ _ => .no) (fun _ _ => .no) (fun _ => .no) .no .no k
def kr (k : K) : K := K.rec .no (fun _ => .no) (fun _ => .no) (fun _ b _ _ => b) (fun _ _ _ _ _ => .no) (fun _ _ _ => .no) (fun _ _ => .no) (fun _ => .no) .no .no k
theorem runK_seq (call : CallT) (a b : K) (t : T8 V) (H : HT) (n : Nat) : runK call (.seq a b) t H n = seqO (runK call b) (runK call a t H n) := rfl
theorem runK_assoc (call : CallT) (a b c : K) (t : T8 V) (H : HT) (n : Nat) : runK call (.seq a (.seq b c)) t H n = runK call (.seq (.seq a b) c) t H n := by
  simp only [runK_seq]
  cases runK call a t H n with
  | no => rfl
  | ok e t1 H1 n1 => cases e <;> rfl
/-! ### TopBusy -/
def bz : K := KF.body z7
def bzA : K := .seq (.seq (.seq (kl bz) (kl (kr bz))) (kl (kr (kr bz)))) (kl (kr (kr (kr bz))))
def bzR : K := kl (kr (kr (kr (kr bz))))
def bzE : K := kr (kr (kr (kr (kr bz))))
def callB1 : CallT := callK kt S1 100
def bz0 (x : Int) : T8 V := setW (some 12) (.c (.i .i64 x)) .z
def bzC (x : Int) (j : Nat) : Bool := thenO (runK callB1 bzA (bz0 x) .z 0) fun t H n => retT (KF.rs z7) (runK callB1 bzE (tset 2 t 10 (.c (.i .i64 (.ofNat (Nat.add j 1))))) H n)
end
end Ev
end Go.Proofs.YtcchekmejnhlmaaGreat
