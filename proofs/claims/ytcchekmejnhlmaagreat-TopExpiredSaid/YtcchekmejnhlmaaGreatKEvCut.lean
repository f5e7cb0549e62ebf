/- Joined texts. -/
import Derived.Test.YtcchekmejnhlmaaGreatKEvAw
import Derived.Test.YtcchekmejnhlmaaGreatK7
namespace Go.Proofs.YtcchekmejnhlmaaGreat
namespace Ev
open Go.RowKit
noncomputable section
set_option linter.unusedVariables false
def kl (k : K) : K := K.rec .no (fun _ => .no) (fun _ => .no) (fun a _ _ _ => a) (fun _ _ _ _ _ => .no) (fun _ _ _ => .no) (fun _ _ => .no) (fun _ => .no) .no .no k
def kr (k : K) : K := K.rec .no (fun _ => .no) (fun _ => .no) (fun _ b _ _ => b) (fun _ _ _ _ _ => .no) (fun _ _ _ => .no) (fun _ _ => .no) (fun _ => .no) .no .no k
def kAt (j : Nat) (k : K) : K := kl (Nat.rec k (fun _ ih => kr ih) j)
def kFrom (j : Nat) (k : K) : K := Nat.rec k (fun _ ih => kr ih) j
def kIns (k : K) : List Ins := K.rec [] (fun l => l) (fun _ => []) (fun _ _ _ _ => []) (fun _ _ _ _ _ => []) (fun _ _ _ => []) (fun _ _ => []) (fun _ => []) [] [] k
theorem and_run (call : CallT) (l : List Ins) (r m : Nat) (t : T8 V) (s : List V) (H : HT) (n : Nat) (x : Int) (hr : tget 2 (V.t []) t r = .c (.i .i64 x)) (j : Nat) (hb : bAnd .i64 x (.ofNat m) = some (.i .i64 (.ofNat j))) :
    evS call (.u (.p (.bi .and (.r r) (.k (.c (.i .i64 (.ofNat m)))))) none true :: l) ⟨t, s⟩ H n = evS call l ⟨t, .c (.i .i64 (.ofNat j)) :: s⟩ H n := by
  have e1 : evP (.bi .and (.r r) (.k (.c (.i .i64 (.ofNat m))))) ⟨t, s⟩ = some (.c (.i .i64 (.ofNat j))) := by
    show vI (tget 2 (V.t []) t r) _ = _
    rw [hr]
    show oC (bAnd .i64 x (.ofNat m)) = _
    rw [hb]; rfl
  show (Option.rec (motive := fun _ => Rr) Rr.no (kOne H n (kPut none true ⟨t, s⟩ (evS call l))) (evP (.bi .and (.r r) (.k (.c (.i .i64 (.ofNat m))))) ⟨t, s⟩) : Rr) = _
  rw [e1]
  rfl
end
end Ev
end Go.Proofs.YtcchekmejnhlmaaGreat
