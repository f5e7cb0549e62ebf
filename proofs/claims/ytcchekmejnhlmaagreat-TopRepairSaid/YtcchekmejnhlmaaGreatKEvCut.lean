/- Joined texts. -/
import Derived.Test.YtcchekmejnhlmaaGreatKEvAw
import Derived.Test.YtcchekmejnhlmaaGreatK7
namespace Go.Proofs.YtcchekmejnhlmaaGreat
namespace Ev
open Go.RowKit
noncomputable section
set_option linter.unusedVariables false
def kl (k : K) : K := K.rec .no (fun _ => .no) (fun _ => .no) (fun a _ _ _ => a) (fun _ _ _ _ _ => .no) (fun _ _ _ => .no) (fun _ _ => .no) (fun _ => .no) .no .no k
def kr (k : K) : K := K.rec .no (fun _ => .no) (fun _ => .no) (fun _ b _ _ => b) (fun _ _ _ _ _ => .no) (fun _ _ _ => .no) (fun _ _ => .no) (fun _ => .no) .no .no k
def kAt (j : Nat) (k : K) : K := kl (Nat.rec k (fun _ ih => kr ih) j)
def kFrom (j : Nat) (k : K) : K := Nat.rec k (fun _ ih => kr ih) j
end
end Ev
end Go.Proofs.YtcchekmejnhlmaaGreat
