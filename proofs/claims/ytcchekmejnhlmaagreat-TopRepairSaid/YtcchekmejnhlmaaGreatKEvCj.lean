/- Joined texts. -/
import Derived.Test.YtcchekmejnhlmaaGreatKEvRi
namespace Go.Proofs.YtcchekmejnhlmaaGreat
namespace Ev
noncomputable section
inductive Ch where
  | o (i : Nat) (x : Ob)
  | r (i n : Nat) (x : Bool) (l : List (Nat × Sc))
def tsetsL (dep : Nat) (l : List (Nat × Sc)) (t : T8 Sc) : T8 Sc := List.rec (motive := fun _ => T8 Sc → T8 Sc) (fun t => t) (fun p _ ih t => T8.fc (tset dep t p.1 p.2) ih) l t
def hrow (H : HT) (i n : Nat) (x : Bool) (l : List (Nat × Sc)) (o : Ob) : HT := match o with
  | .row _ _ dep d t => T8.fc (tsetsL dep l t) fun t => hset H i (.row n x dep d t)
  | _ => H
def hch1 (c : Ch) (H : HT) : HT := Ch.rec (fun i x => hset H i x) (fun i n x l => hrow H i n x l (hget H i)) c
def hchs (l : List Ch) (H : HT) : HT := List.rec (motive := fun _ => HT → HT) (fun H => H) (fun c _ ih H => T8.fc (hch1 c H) ih) l H
end
end Ev
end Go.Proofs.YtcchekmejnhlmaaGreat
