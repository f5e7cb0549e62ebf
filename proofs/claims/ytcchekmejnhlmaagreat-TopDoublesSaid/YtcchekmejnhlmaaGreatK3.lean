/- Joined texts. -/
import Derived.Test.YtcchekmejnhlmaaGreatK2
import Derived.Scope
import Derived.Orders
namespace Go.Proofs.YtcchekmejnhlmaaGreat
set_option linter.unusedVariables false
set_option maxHeartbeats 4000000
section
namespace Ev
open Go.RowKit
noncomputable section
abbrev CallT:=Nat→List V→HT→Nat→Rs
inductive CO where
 | p (x:PO)
 | l (x:LO)
 | a (x:AO)
 | e (x:EO)
 | cs (fid:Nat) (args:List Od)
 | cd (f:Od) (args:List Od)
def gets (ρ:RT):List Od→List V
 | []=>[]
 | o::os=>o.get ρ::gets ρ os
def capV:List (Nat×Nat)→List V
 | []=>[]
 | (id,off)::r=>.c (.p id off)::capV r
def cdR (call:CallT) (args:List V) (H:HT) (n:Nat) (f:V):Rs:=match f with
 | .c (.f fid caps)=>call fid (args++capV caps) H n
 | _=>.no
def aRes (H:HT) (n:Nat) (x:Option (Ob×V)):Rs:=match x with
 | some (o,v)=>cnd (Nat.blt n HB) (.ok v (hset H n o) (Nat.add n 1)) .no
 | none=>.no
def pRes (H:HT) (n:Nat) (x:Option V):Rs:=match x with | some v=>.ok v H n | none=>.no
def evO (c:CO) (call:CallT) (ρ:RT) (H:HT) (n:Nat):Rs:=match c with
 | .p x=>pRes H n (evP x ρ)
 | .l x=>pRes H n (evL x ρ H)
 | .a x=>aRes H n (evA x ρ n)
 | .e x=>evE x ρ H n
 | .cs fid args=>call fid (gets ρ args) H n
 | .cd f args=>cdR call (gets ρ args) H n (f.get ρ)
inductive Rr where
 | no
 | ok (t:T8 V) (H:HT) (n:Nat)
abbrev KV:=V→HT→Nat→Rr
def kOne (H:HT) (n:Nat) (k:KV) (v:V):Rr:=k v H n
def kP (x:PO) (call:CallT) (ρ:RT) (H:HT) (n:Nat) (k:KV):Rr:=Option.rec Rr.no (kOne H n k) (evP x ρ)
def kL (x:LO) (call:CallT) (ρ:RT) (H:HT) (n:Nat) (k:KV):Rr:=Option.rec Rr.no (kOne H n k) (evL x ρ H)
def kRs (k:KV) (r:Rs):Rr:=Rs.rec Rr.no k r
def kA (x:AO) (call:CallT) (ρ:RT) (H:HT) (n:Nat) (k:KV):Rr:=kRs k (aRes H n (evA x ρ n))
def kE (x:EO) (call:CallT) (ρ:RT) (H:HT) (n:Nat) (k:KV):Rr:=kRs k (evE x ρ H n)
def kCs (fid:Nat) (args:List Od) (call:CallT) (ρ:RT) (H:HT) (n:Nat) (k:KV):Rr:=kRs k (call fid (gets ρ args) H n)
def kCd (f:Od) (args:List Od) (call:CallT) (ρ:RT) (H:HT) (n:Nat) (k:KV):Rr:=kRs k (cdR call (gets ρ args) H n (f.get ρ))
def evK (c:CO):CallT→RT→HT→Nat→KV→Rr:=CO.rec kP kL kA kE kCs kCd c
theorem evK_eq (c:CO) (call:CallT) (ρ:RT) (H:HT) (n:Nat) (k:KV):evK c call ρ H n k=kRs k (evO c call ρ H n):=by
 cases c with
 | p x =>
   show Option.rec Rr.no (kOne H n k) (evP x ρ)=kRs k (pRes H n (evP x ρ))
   cases evP x ρ<;>rfl
 | l x =>
   show Option.rec Rr.no (kOne H n k) (evL x ρ H)=kRs k (pRes H n (evL x ρ H))
   cases evL x ρ H<;>rfl
 | _=>rfl
inductive Ins where
 | u (c:CO) (w:Option Nat) (ps:Bool)
 | g (o:Od) (b:Bool) (c:CO) (w:Option Nat) (ps:Bool)
def setW (w:Option Nat) (v:V) (t:T8 V):T8 V:=Option.rec t (fun j=>tset 2 t j v) w
def jiy (w:Option Nat) (ps:Bool) (v:V) (ρ:RT):RT:=⟨setW w v ρ.t,cnd ps (v::ρ.s) ρ.s⟩
abbrev KR:=RT→HT→Nat→Rr
def kPut (w:Option Nat) (ps:Bool) (ρ:RT) (k:KR) (v:V) (H:HT) (n:Nat):Rr:=k (jiy w ps v ρ) H n
def jhc:V:=.t []
def wantV (b:Bool) (v:V):Option Bool:=match v with
 | .c (.b x)=>some (boE x b)
 | .t []=>some false
 | _=>none
def wantK (b:Bool) (v:V) (x y:Rr):Rr:=match wantV b v with
 | some true=>x
 | some false=>y
 | none=>.no
def stU (call:CallT) (k:KR) (c:CO) (w:Option Nat) (ps:Bool) (ρ:RT) (H:HT) (n:Nat):Rr:=evK c call ρ H n (kPut w ps ρ k)
def stG (call:CallT) (k:KR) (o:Od) (b:Bool) (c:CO) (w:Option Nat) (ps:Bool) (ρ:RT) (H:HT) (n:Nat):Rr :=
 wantK b (o.get ρ) (evK c call ρ H n (kPut w ps ρ k)) (k (jiy w ps jhc ρ) H n)
def stI (call:CallT) (i:Ins) (k:KR):KR:=Ins.rec (stU call k) (stG call k) i
def endR (ρ:RT) (H:HT) (n:Nat):Rr:=.ok ρ.t H n
def evS (call:CallT) (l:List Ins):KR:=List.rec (motive:=fun _=>KR) endR (fun i _ ih=>stI call i ih) l
def shO:Od→Od
 | .s i=>.s (i+1)
 | o=>o
def hitE (o:Od) (w:Option Nat):Bool:=match o,w with | .r j,some j'=>Nat.beq j j' | _,_=>false
def killE (d:Nat) (w:Option Nat):List (Nat×Od)→List (Nat×Od)
 | []=>[]
 | (t,o)::r=>cnd (or (Nat.beq t d) (hitE o w)) (killE d w r) ((t,o)::killE d w r)
def shE:List (Nat×Od)→List (Nat×Od)
 | []=>[]
 | (t,o)::r=>(t,shO o)::shE r
def jfi (cx:Cx) (d:Option Nat):Cx:=match d with
 | none=>cx
 | some d=>{ cx with env:=(d,.s 0)::shE (killE d (ixW d cx.W 0) cx.env) }
def cxAl (cx:Cx) (d:Nat) (o:Od):Cx:={ cx with env:=(d,o)::killE d none cx.env }
def dW (cx:Cx) (d:Option Nat):Option Nat:=match d with | some d=>ixW d cx.W 0 | none=>none
def cC (cx:Cx) (op:Op):Option CO:=match op with
 | .call { callee:=.value (.func f),args,.. }=>(match cOds cx args.toList with | some l=>some (.cs f l) | none=>none)
 | .call { callee:=.value f,args,.. }=>(match cOd cx f,cOds cx args.toList with | some o,some l=>some (.cd o l) | _,_=>none)
 | _=>none
def cO (P:Program) (cx:Cx) (op:Op):Option CO:=match cP P cx op with
 | some x=>some (.p x)
 | none=>match cL P cx op with
   | some x=>some (.l x)
   | none=>match cA P cx op with
     | some x=>some (.a x)
     | none=>match cE P cx op with
       | some x=>some (.e x)
       | none=>cC cx op
def dOk (cx:Cx) (d:Option Nat):Bool:=match d with | none=>true | some d=>Nat.blt d cx.nt
def alias (cx:Cx) (o:Oper):Option (Nat×Od):=match o.guard,o.dst with
 | none,some d=>(match ixW d cx.W 0,o.op with
   | none,.move x=>(match cOd cx x with | some p=>some (d,p) | none=>none)
   | none,.assign x=>(match cOd cx x with | some p=>some (d,p) | none=>none)
   | _,_=>none)
 | _,_=>none
def cIns (P:Program) (cx:Cx) (ops:Array Oper) (o:Oper):Option Ins:=match cO P cx o.op,o.guard with
 | some c,none=>some (.u c (dW cx o.dst) o.dst.isSome)
 | some c,some (j,b)=>(match (ops[j]?).bind (·.dst) with
   | some d=>(match cnd (Nat.blt d cx.nt) (cOr cx d) none with
     | some p=>some (.g p b c (dW cx o.dst) o.dst.isSome)
     | none=>none)
   | none=>none)
 | none,_=>none
def cI (P:Program) (cx:Cx) (ops:Array Oper) (i:Nat):Option (Option Ins×Cx):=match ops[i]? with
 | none=>none
 | some o=>cnd (dOk cx o.dst) (match alias cx o with
   | some (d,p)=>some (none,cxAl cx d p)
   | none=>(match cIns P cx ops o with
     | some x=>some (some x,jfi cx o.dst)
     | none=>none)) none
def consO (x:Option Ins) (r:List Ins):List Ins:=match x with | some x=>x::r | none=>r
def cIs (P:Program) (ops:Array Oper):Cx→List Nat→Option (List Ins)
 | _,[]=>some []
 | cx,i::is=>match cI P cx ops i with
   | some (x,cx')=>(match cIs P ops cx' is with | some r=>some (consO x r) | none=>none)
   | none=>none
def isE:CO→Bool
 | .e _=>true
 | .cs _ _=>true
 | .cd _ _=>true
 | _=>false
def insE:Ins→Bool
 | .u c _ _=>isE c
 | .g _ _ c _ _=>isE c
def jiz (acc:List Nat) (o:Oper):Nat:=o.after.toList.foldl (fun s e=>cnd (Region.binds .any e) (Nat.lor s (Nat.lor (Nat.pow 2 e.on) (acc.getD e.on 0))) s) 0
def pres (ops:List Oper):List Nat:=ops.foldl (fun acc o=>acc++[jiz acc o]) []
def bit (m i:Nat):Bool:=Nat.beq (Nat.mod (Nat.div m (Nat.pow 2 i)) 2) 1
def addAll (m:Nat):List Nat→Nat→List Nat→Nat×List Nat
 | [],done,acc=>(done,acc)
 | j::js,done,acc=>cnd (and (bit m j) (not (bit done j))) (addAll m js (Nat.lor done (Nat.pow 2 j)) (j::acc)) (addAll m js done acc)
def sched (all:List Nat) (pre:List Nat):List Nat→Nat→List Nat→List Nat
 | [],done,acc=>((addAll (Nat.sub (Nat.pow 2 all.length) 1) all done acc).2).reverse
 | e::es,done,acc=>match addAll (pre.getD e 0) all done acc with
   | (d,ac)=>sched all pre es (Nat.lor d (Nat.pow 2 e)) (e::ac)
def operL (op:Op):List Nat:=op.operands.toList.filterMap fun | .tmp t=>some t | _=>none
def jes (ops:Array Oper) (o:Oper):List Nat:=operL o.op++(match o.guard with | some (g,_)=>((ops[g]?).bind (·.dst)).toList | none=>[])
def mem (d:Nat):List Nat→Bool
 | []=>false
 | x::xs=>cnd (Nat.beq x d) true (mem d xs)
def memO (d:Option Nat) (l:List Nat):Bool:=match d with | some d=>mem d l | none=>false
def meet (ops:Array Oper) (x y:Oper):Bool:=or (memO x.dst (jes ops y)) (or (memO y.dst (jes ops x)) (memO x.dst y.dst.toList))
def jex (ops:Array Oper) (m:Nat) (eff:Bool) (y:Oper):List Nat→Bool
 | []=>true
 | j::js=>and (or (bit m j) (and (not eff) (not (match ops[j]? with | some x=>meet ops x y | none=>true)))) (jex ops m eff y js)
structure DIns where
 i:Ins
 chk:Nat
def consD (x:Option Ins) (k:Nat) (r:List DIns):List DIns:=match x with | some x=>⟨x,k⟩::r | none=>r
def effO (x:Option Ins):Bool:=match x with | some x=>insE x | none=>false
def cDs (P:Program) (ops:Array Oper) (pre:List Nat):Cx→List Nat→List Nat→List Nat→Option (List DIns)
 | _,[],_,_=>some []
 | cx,i::is,seen,effs=>match cI P cx ops i,ops[i]? with
   | some (x,cx'),some o=>cnd (jex ops (pre.getD i 0) (effO x) o seen) (match cDs P ops pre cx' is (i::seen) (cnd (effO x) (i::effs) effs) with
    | some r=>some (consD x (effs.filter fun e=>not (bit (pre.getD i 0) e)).length r)
    | none=>none) none
   | _,_=>none
def allIn (n:Nat) (π:List Nat):Bool:=and (Nat.beq π.length n) ((List.range n).all fun i=>mem i π)
def effOp (op:Op):Bool:=match op with
 | .store _ _ _=>true
 | .mapUpdate _ _ _ _=>true
 | .call { callee:=.builtin b,.. }=>(match b with | .append=>true | .copy=>true | .clear=>true | .delete=>true | _=>false)
 | .call _=>true
 | _=>false
def effIx (ops:List Oper):List Nat:=(ops.zipIdx).filterMap fun p=>cnd (effOp p.1.op) (some p.2) none
def preLt:List Nat→Nat→Bool
 | [],_=>true
 | m::ms,i=>and (Nat.blt m (Nat.pow 2 i)) (preLt ms (Nat.add i 1))
def cD (P:Program) (cx:Cx) (ops:Array Oper):Option (List DIns) :=
 let pre:=pres ops.toList
 let π:=sched (List.range ops.size) pre (effIx ops.toList) 0 []
 cnd (and (preLt pre 0) (allIn ops.size π)) (cDs P ops pre cx π [] []) none
def scEq:Sc→Sc→Bool
 | .b x,.b y=>boE x y
 | .i k x,.i k' y=>and (Nat.beq (kIx k) (kIx k')) (eqF x y)
 | .s l n,.s l' n'=>and (Nat.beq l l') (Nat.beq n n')
 | .pn,.pn=>true
 | .p i o,.p i' o'=>and (Nat.beq i i') (Nat.beq o o')
 | .sn,.sn=>true
 | .sk i o l c e,.sk i' o' l' c' e'=>and (and (Nat.beq i i') (Nat.beq o o')) (and (Nat.beq l l') (and (Nat.beq c c') (Nat.beq e e')))
 | .su i o l c e,.su i' o' l' c' e'=>and (and (Nat.beq i i') (Nat.beq o o')) (and (Nat.beq l l') (and (Nat.beq c c') (Nat.beq e e')))
 | .mn,.mn=>true
 | .m i,.m i'=>Nat.beq i i'
 | .fn,.fn=>true
 | .ni,.ni=>true
 | _,_=>false
def scsEq:List Sc→List Sc→Bool
 | [],[]=>true
 | x::xs,y::ys=>and (scEq x y) (scsEq xs ys)
 | _,_=>false
def vEq:V→V→Bool
 | .c x,.c y=>scEq x y
 | .a x,.a y=>scsEq x y
 | _,_=>false
def same (f:HT→Option V) (v:V):Nat→List HT→Bool
 | 0,_=>true
 | k+1,h::hs=>(match f h with | some u=>and (vEq u v) (same f v k hs) | none=>false)
 | _+1,[]=>false
def chkO (k:Nat) (c:CO) (ρ:RT) (hs:List HT) (v:V):Bool:=match k with
 | 0=>true
 | k+1=>match c with
   | .l x=>same (evL x ρ) v (k+1) hs
   | .p _=>true
   | .a _=>true
   | _=>false
abbrev KD:=RT→HT→Nat→List HT→Rr
def kPutD (chk:Nat) (c:CO) (w:Option Nat) (ps:Bool) (ρ:RT) (H0:HT) (hs:List HT) (k:KD) (v:V) (H:HT) (n:Nat):Rr :=
 cnd (chkO chk c ρ hs v) (k (jiy w ps v ρ) H n (cnd (isE c) (H0::hs) hs)) .no
def dtU (call:CallT) (k:KD) (chk:Nat) (c:CO) (w:Option Nat) (ps:Bool) (ρ:RT) (H:HT) (n:Nat) (hs:List HT):Rr:=evK c call ρ H n (kPutD chk c w ps ρ H hs k)
def dtG (call:CallT) (k:KD) (chk:Nat) (o:Od) (b:Bool) (c:CO) (w:Option Nat) (ps:Bool) (ρ:RT) (H:HT) (n:Nat) (hs:List HT):Rr :=
 wantK b (o.get ρ) (evK c call ρ H n (kPutD chk c w ps ρ H hs k)) (k (jiy w ps jhc ρ) H n (cnd (isE c) (H::hs) hs))
def dtI (call:CallT) (chk:Nat) (i:Ins) (k:KD):KD:=Ins.rec (dtU call k chk) (dtG call k chk) i
def dtD (call:CallT) (d:DIns) (k:KD):KD:=DIns.rec (fun i chk=>dtI call chk i k) d
def endD (ρ:RT) (H:HT) (n:Nat) (hs:List HT):Rr:=.ok ρ.t H n
def evD (call:CallT) (l:List DIns):KD:=List.rec (motive:=fun _=>KD) endD (fun d _ ih=>dtD call d ih) l
end
end Ev
end
section
namespace Ev
open Go.RowKit
noncomputable section
inductive Ex where
 | nx
 | ex (id:Nat)
 | rt
inductive Ot where
 | no
 | ok (e:Ex) (t:T8 V) (H:HT) (n:Nat)
abbrev RunT:=T8 V→HT→Nat→Ot
def otNx (r:Rr):Ot:=Rr.rec Ot.no (Ot.ok .nx) r
inductive CR where
 | s (l:List Ins)
 | d (l:List DIns)
def cReg (P:Program) (nt:Nat) (W:List Nat) (ops:Array Oper) (draw:Bool):Option CR:=match draw with
 | false=>(match cIs P ops ⟨nt,W,[]⟩ (List.range ops.size) with | some l=>some (.s l) | none=>none)
 | true=>(match cD P ⟨nt,W,[]⟩ ops with | some l=>some (.d l) | none=>none)
def rS (call:CallT) (l:List Ins) (t:T8 V) (H:HT) (n:Nat):Ot:=otNx (evS call l ⟨t,[]⟩ H n)
def rD (call:CallT) (l:List DIns) (t:T8 V) (H:HT) (n:Nat):Ot:=otNx (evD call l ⟨t,[]⟩ H n [])
def rNo (t:T8 V) (H:HT) (n:Nat):Ot:=.no
def rCR (call:CallT) (c:CR):RunT:=CR.rec (rS call) (rD call) c
def rReg' (call:CallT) (x:Option CR):RunT:=Option.rec rNo (rCR call) x
def rReg (call:CallT) (P:Program) (nt:Nat) (W:List Nat) (id:Nat) (ops:Array Oper) (draw:Bool):RunT:=rReg' call (cReg P nt W ops draw)
def rSkip (t:T8 V) (H:HT) (n:Nat):Ot:=.ok .nx t H n
def rEx (id:Nat) (t:T8 V) (H:HT) (n:Nat):Ot:=.ok (.ex id) t H n
def rRt (t:T8 V) (H:HT) (n:Nat):Ot:=.ok .rt t H n
def seqK (b:RunT) (e:Ex):RunT:=Ex.rec b rEx rRt e
def seqO (b:RunT) (r:Ot):Ot:=Ot.rec Ot.no (seqK b) r
def rSeq (a b:RunT) (t:T8 V) (H:HT) (n:Nat):Ot:=seqO b (a t H n)
def brV (x y:RunT) (t:T8 V) (H:HT) (n:Nat) (v:V):Ot:=match v with
 | .c (.b b)=>cnd b x y t H n
 | _=>.no
def rCond' (od:Option Od) (x y:RunT) (t:T8 V) (H:HT) (n:Nat):Ot:=Option.rec Ot.no (fun o=>brV x y t H n (Od.get o ⟨t,[]⟩)) od
def rCond (nt:Nat) (W:List Nat) (c:Operand) (x y:RunT):RunT:=rCond' (cOd ⟨nt,W,[]⟩ c) x y
def blkX (id id':Nat) (t:T8 V) (H:HT) (n:Nat):Ot:=cnd (Nat.beq id' id) (.ok .nx t H n) (.ok (.ex id') t H n)
def blkK (id:Nat) (e:Ex):RunT:=Ex.rec rSkip (blkX id) rRt e
def rBlk (id:Nat) (x:RunT) (t:T8 V) (H:HT) (n:Nat):Ot:=Ot.rec Ot.no (blkK id) (x t H n)
def loopN (x:RunT) (k:Nat):RunT:=Nat.rec (motive:=fun _=>RunT) rNo (fun _ ih=>rSeq x ih) k
def rLoop (x:RunT):RunT:=loopN x 100000
def run (call:CallT) (P:Program) (nt:Nat) (W:List Nat) (c:Code):RunT :=
 Code.rec (motive:=fun _=>RunT) rSkip (rReg call P nt W) (fun _ _ a b=>rSeq a b) (fun c _ _ a b=>rCond nt W c a b) (fun id _ a=>rBlk id a) (fun _ a=>rLoop a)
  (fun _ _ _ _ _ _=>rNo) rEx (fun _ a=>a) (fun _=>rSkip) (fun _=>rNo) rRt (fun _=>rNo) c
inductive RV where
 | t (o:Od)
 | c (o:Od) (agg:Bool) (size:Nat)
def cRV (P:Program) (cx:Cx):ResultVar→Option RV
 | .tmp t=>(match cOd cx (.tmp t) with | some o=>some (.t o) | none=>none)
 | .cell i t=>match P.info? t,P.underlying t,cOd cx (.tmp i) with
   | some inf,some d,some o=>some (.c o (aggD d) inf.size)
   | _,_,_=>none
def cRVs (P:Program) (cx:Cx):List ResultVar→Option (List RV)
 | []=>some []
 | r::rs=>match cRV P cx r,cRVs P cx rs with
   | some x,some l=>some (x::l)
   | _,_=>none
def evRV (ρ:RT) (H:HT):RV→Option V
 | .t o=>some (o.get ρ)
 | .c o agg size=>eLd agg size o ρ H
def evRVs (ρ:RT) (H:HT):List RV→Option (List V)
 | []=>some []
 | r::rs=>match evRV ρ H r,evRVs ρ H rs with
   | some x,some l=>some (x::l)
   | _,_=>none
def vEs:List V→Option (List E)
 | []=>some []
 | v::vs=>match vE v,vEs vs with
   | some x,some l=>some (x::l)
   | _,_=>none
def tupV (vs:List V):Option V:=match vs with
 | [v]=>some v
 | vs=>(match vEs vs with | some l=>some (.t l) | none=>none)
def retV (rs:List RV) (ρ:RT) (H:HT) (n:Nat):Rs:=match evRVs ρ H rs with
 | some vs=>(match tupV vs with | some v=>.ok v H n | none=>.no)
 | none=>.no
def retE (rs:List RV) (e:Ex) (t:T8 V) (H:HT) (n:Nat):Rs:=match e with
 | .ex _=>.no
 | _=>retV rs ⟨t,[]⟩ H n
structure CF where
 nt:Nat
 W:List Nat
 ar:List (Option Nat)
 rs:List RV
 body:Code
abbrev WT:=T8 (List Nat)
def noDup:List Nat→Bool
 | []=>true
 | x::xs=>and (not (mem x xs)) (noDup xs)
def cFb (P:Program) (f:Func) (W:List Nat) (c:Code) (rs:Option (List RV)):Option CF:=match rs with
 | some rs=>cnd (and (Nat.ble W.length 64) (noDup W)) (some ⟨f.ntmps,W,(List.range (f.params.size+f.nfree)).map (fun i=>ixW i W 0),rs,c⟩) none
 | none=>none
def cF (P:Program) (wt:WT) (fid:Nat):Option CF:=match P.funcs[fid]? with
 | some f=>(match f.body with
   | some c=>cFb P f (tget 3 [] wt fid) c (cRVs P ⟨f.ntmps,tget 3 [] wt fid,[]⟩ f.results.toList)
   | none=>none)
 | none=>none
def jiq:List (Option Nat)→List V→T8 V→Option (T8 V)
 | [],[],t=>some t
 | w::ws,v::vs,t=>jiq ws vs (setW w v t)
 | _,_,_=>none
def callR (call:CallT) (P:Program) (f:CF) (H:HT) (n:Nat) (t:Option (T8 V)):Rs:=match t with
 | some t=>Ot.rec Rs.no (retE f.rs) (run call P f.nt f.W f.body t H n)
 | none=>.no
def callF (call:CallT) (P:Program) (f:CF) (args:List V) (H:HT) (n:Nat):Rs :=
 cnd (Nat.ble args.length f.nt) (callR call P f H n (jiq f.ar args .z)) .no
abbrev SumT:=Nat→Option (List V→HT→Nat→Rs)
def noS (args:List V) (H:HT) (n:Nat):Rs:=.no
end
end Ev
end
section
namespace Ev
open Go.RowKit
noncomputable section
def FnOk (P:Program) (fid:Nat):Prop:=∃ fn,P.funcs[fid]? =some fn∧fn.body.isNone=false∧(fn.name== "runtime.NumGoroutine")=false
def jbh (P:Program) (call:CallT):Prop:=∀ fid args H n v H' n',call fid args H n=.ok v H' n'→FnOk P fid∧n≤n'∧∀ G w (cargs:Array Value),R G (hp H) w→All2 (V.ok G) args cargs.toList→Free G n n' →
 Calls P fid cargs w fun e w'=>∃ cv G',e=.returned cv∧Stp G (hp H) n w G' (hp H') n' w'∧V.ok G' v cv
section
variable {P:Program} {cx:Cx} {o:Oper} {G:Gh} {ρ:RT} {a:Act} {w:World} {n n':Nat} {H H':HT} {v:V} {call:CallT}
theorem jcl {id off:Nat} {xs:List Sc} {u:V} (h:putH id off xs u H n=.ok v H' n'):n≤n':=by
 obtain ⟨_,_,rfl,_⟩:=jhp h;exact Nat.le_refl _
theorem jej {es need:Nat} {xs:List Sc} (h:growH es need xs H n=.ok v H' n'):n≤n':=by
 obtain ⟨_,_,_,_,rfl,_⟩:=jci h;omega
theorem ndH_mono {es id len k:Nat} {xs:List Sc} (h:ndH es id len k xs H n=.ok v H' n'):n≤n':=by
 obtain ⟨_,_,_,_,_,_,_,rfl,_⟩:=ndH_some h;omega
theorem jai {b:Bool} {r:Rs} (h:cnd b r .no=.ok v H' n'):b=true∧r=.ok v H' n':=by
 cases b with
 | false=>cases h
 | true=>exact ⟨rfl,h⟩
theorem jfv {b:Bool} {r s:Rs} (h:cnd b r s=.ok v H' n'):r=.ok v H' n'∨s=.ok v H' n':=by
 cases b with
 | false=>exact .inr h
 | true=>exact .inl h
theorem appV_mono {es k:Nat} {s:V} {xs:List Sc} (h:appV es s k xs H n=.ok v H' n'):n≤n':=by
 unfold appV at h
 split at h
 ·exact jej h
 ·obtain ⟨_,h⟩:=jai h
  rcases jfv h with h | h
  ·exact jcl h
  ·rcases jfv h with h | h
   ·exact jej h
   ·split at h
    ·exact jej h
    ·cases h
 ·obtain ⟨_,h⟩:=jai h
  rcases jfv h with h | h
  ·exact jcl h
  ·obtain ⟨_,h⟩:=jai h
   exact ndH_mono h
 ·cases h
theorem evE_mono {p:EO} (h:evE p ρ H n=.ok v H' n'):n≤n':=by
 cases p with
 | sto size b c =>
   have h:eSto size b c ρ H n=.ok v H' n':=h
   unfold eSto at h
   split at h
   ·split at h
    ·obtain ⟨_,h⟩:=jai h
     exact jcl h
    ·cases h
   ·cases h
 | app es s x =>
   have h:eApp es s x ρ H n=.ok v H' n':=h
   unfold eApp at h
   split at h
   ·cases h;exact Nat.le_refl _
   ·obtain ⟨_,h⟩:=jai h
    split at h
    ·exact appV_mono h
    ·cases h
   ·cases h
 | cpy es d s =>
   have h:eCpy es d s ρ H n=.ok v H' n':=h
   unfold eCpy at h
   split at h
   ·unfold cpyV at h
    split at h
    ·cases h;exact Nat.le_refl _
    ·split at h
     ·exact jcl h
     ·exact jcl h
     ·cases h
   ·cases h
 | clr zl es b =>
   have h:eClr zl es b ρ H n=.ok v H' n':=h
   unfold eClr at h
   split at h
   ·cases h;exact Nat.le_refl _
   ·cases h;exact Nat.le_refl _
   ·rcases jfv h with h | h
    ·cases h;exact Nat.le_refl _
    ·exact jcl h
   ·rcases jfv h with h | h
    ·cases h;exact Nat.le_refl _
    ·exact jcl h
   ·cases h
 | clm b =>
   have h:eClm b ρ H n=.ok v H' n':=h
   unfold eClm at h
   split at h
   ·cases h;exact Nat.le_refl _
   ·obtain ⟨_,h⟩:=jai h
    split at h
    ·cases h;exact Nat.le_refl _
    ·cases h
   ·cases h
 | mup ik b k x =>
   have h:eMup ik b k x ρ H n=.ok v H' n':=h
   unfold eMup at h
   split at h
   ·obtain ⟨_,h⟩:=jai h
    split at h
    ·cases h;exact Nat.le_refl _
    ·cases h
   ·cases h
 | del ik b k =>
   have h:eDel ik b k ρ H n=.ok v H' n':=h
   unfold eDel at h
   split at h
   ·obtain ⟨_,h⟩:=jai h
    split at h
    ·cases h;exact Nat.le_refl _
    ·cases h
   ·cases h
 | aps s x =>
   have h:eAps s x ρ H n=.ok v H' n':=h
   unfold eAps at h
   split at h
   ·cases h;exact Nat.le_refl _
   ·obtain ⟨_,h⟩:=jai h
    exact appV_mono h
   ·cases h
 | s2b x =>
   have h:eS2b x ρ H n=.ok v H' n':=h
   unfold eS2b at h
   split at h
   ·exact jej h
   ·cases h
theorem jfn {x:Option (Ob×V)} (h:aRes H n x=.ok v H' n'):∃ ob,x=some (ob,v)∧n<HB∧n'=n+1∧hp H'=upd (hp H) n ob:=by
 unfold aRes at h
 split at h
 ·rename_i ob u
  obtain ⟨hb,h⟩:=jai h
  cases h
  exact ⟨ob,rfl,jaa hb,rfl,jbv H (jaa hb) _⟩
 ·cases h
theorem jcb {x:Option V} (h:pRes H n x=.ok v H' n'):x=some v∧H'=H∧n'=n:=by
 unfold pRes at h
 split at h
 ·cases h;exact ⟨rfl,rfl,rfl⟩
 ·cases h
theorem evO_mono (hcall:jbh P call) {c:CO} (h:evO c call ρ H n=.ok v H' n'):n≤n':=by
 cases c with
 | p x=>obtain ⟨_,_,rfl⟩:=jcb h;exact Nat.le_refl _
 | l x=>obtain ⟨_,_,rfl⟩:=jcb h;exact Nat.le_refl _
 | a x=>obtain ⟨_,_,_,rfl,_⟩:=jfn h;omega
 | e x=>exact evE_mono h
 | cs fid args=>exact (hcall _ _ _ _ _ _ _ h).2.1
 | cd f args =>
   have h:cdR call (gets ρ args) H n (f.get ρ)=.ok v H' n':=h
   unfold cdR at h
   split at h
   ·exact (hcall _ _ _ _ _ _ _ h).2.1
   ·cases h
theorem jgd {fid:Nat} (hf:FnOk P fid) (args:Array Value) (w:World):(callFunc fid args).run P w=.ok (.enter fid args) w:=by
 obtain ⟨fn,h1,h2,h3⟩:=hf
 simp only [callFunc,Sem.run_bind,run_program,Result.andThen_ok,h1,h2,h3,Bool.false_eq_true,if_false,Sem.run_pure]
theorem gets_ok (hr:RegOk cx G ρ a) (hn:a.tmps.size=cx.nt):∀ (xs:List Operand) (os:List Od),cOds cx xs=some os→All2 (V.ok G) (gets ρ os) (xs.map a.eval)
 | [],os,h=>by cases h;exact .nil
 | x::xs,os,h=>by
   unfold cOds at h
   split at h
   ·rename_i o r h1 h2
    cases h
    exact .cons (jam h1 hr hn) (gets_ok hr hn xs r h2)
   ·cases h
theorem capV_ok:∀ (l:List (Nat×Nat)) (cs:List Value),All2 (fun (p:Nat×Nat) c=>∃ b sz,G p.1=some (b,sz)∧c=Value.pointer (some ⟨b,p.2,none⟩)) l cs→All2 (V.ok G) (capV l) cs
 | [],_,h=>by cases h;exact .nil
 | (id,off)::l,_,h=>by
   cases h with
   | cons h1 h2=>exact .cons h1 (capV_ok l _ h2)
theorem evO_ok (hcall:jbh P call) {c:CO} (hc:cO P cx o.op=some c) (he:evO c call ρ H n=.ok v H' n') (hR:R G (hp H) w) (hr:RegOk cx G ρ a) (hn:a.tmps.size=cx.nt) (hf:Free G n n') {K:Act→World→Prop} {Q:Exit→Act→World→Prop}
 (hk:∀ cv G' w',Stp G (hp H) n w G' (hp H') n' w'→V.ok G' v cv→K (a.put o.dst cv) w'):o.wp P a w K Q:=by
 unfold Oper.wp
 unfold cO at hc
 split at hc
 ·rename_i x hx
  cases hc
  obtain ⟨h1,rfl,rfl⟩:=jcb he
  obtain ⟨cv,q1,q2⟩:=okP hx h1 hr hn w
  rw [q1]
  exact hk cv G w (Stp.refl hR) q2
 ·split at hc
  ·rename_i x hx
   cases hc
   obtain ⟨h1,rfl,rfl⟩:=jcb he
   obtain ⟨cv,q1,q2⟩:=okL hx h1 hR hr hn
   rw [q1]
   exact hk cv G w (Stp.refl hR) q2
  ·split at hc
   ·rename_i x hx
    cases hc
    obtain ⟨ob,h1,h2,rfl,h3⟩:=jfn he
    obtain ⟨q0,cv,obj,sz,q1,q2⟩:=okA (w:=w) (G:=G) ⟨x,hx,h1⟩ hr hn
    have hGn:=hf n (Nat.le_refl _) (Nat.lt_succ_self _)
    have hle:Gh.le G (gset G n (w.heap.size,sz)):=fun id y hy=>by
     unfold gset;split
     ·rename_i q;rw [q,hGn] at hy;cases hy
     ·exact hy
    obtain ⟨r1,r2⟩:=q2 (gset G n (w.heap.size,sz)) hle (by simp [gset])
    rw [q1]
    refine hk cv _ _ ?_ r2
    rw [h3]
    exact jhg hR hGn obj sz ob r1
   ·split at hc
    ·rename_i x hx
     cases hc
     obtain ⟨_,cv,w',G',y,q1,q2,q3,q4⟩:=okE hx he hR hr hn (fun i h1 h2=>hf i h1 h2)
     rw [q1]
     rcases q2 with rfl | ⟨rfl,rfl⟩
     ·exact hk cv G' w' q3 q4
     ·exact hk undef G' w' q3 q4
    ·unfold cC at hc
     split at hc
     ·rename_i fid args ts ho
      split at hc
      ·rename_i l hl
       cases hc
       obtain ⟨q1,_,q2⟩:=hcall _ _ _ _ _ _ _ he
       have hrun:(execOp a.eval o).run P w=.ok (.enter fid (args.map a.eval)) w:=by
        unfold execOp;rw [ho]
        have e:a.eval (.func fid)=.func (.func fid) #[] #[]:=rfl
        simp only [resolve,e,Deferred.ofValue,pure_bind,invoke,Array.append_empty,Array.empty_append]
        exact jgd q1 _ w
       rw [hrun]
       refine (q2 G w (args.map a.eval) hR (by simpa using gets_ok hr hn _ _ hl) hf).mono ?_
       rintro e w' ⟨cv,G',rfl,r1,r2⟩
       exact hk cv G' w' r1 r2
      ·cases hc
     ·rename_i f args ts hne ho
      split at hc
      ·rename_i of l h1 hl
       cases hc
       have he:cdR call (gets ρ l) H n (of.get ρ)=.ok v H' n':=he
       have Hf:=jam h1 hr hn
       unfold cdR at he
       generalize of.get ρ=fv at he Hf
       split at he
       ·rename_i fid caps
        obtain ⟨cs,hv,hall⟩:=Hf
        obtain ⟨q1,_,q2⟩:=hcall _ _ _ _ _ _ _ he
        have hrun:(execOp a.eval o).run P w=.ok (.enter fid (args.map a.eval++cs)) w:=by
         unfold execOp;rw [ho]
         simp only [resolve,hv,Deferred.ofValue,pure_bind,invoke,Array.empty_append]
         exact jgd q1 _ w
        rw [hrun]
        refine (q2 G w (args.map a.eval++cs) hR ?_ hf).mono ?_
        ·rw [Array.toList_append]
         refine All2.append ?_ (capV_ok _ _ hall)
         simpa using gets_ok hr hn _ _ hl
        ·rintro e w' ⟨cv,G',rfl,r1,r2⟩
         exact hk cv G' w' r1 r2
       ·cases he
      ·cases hc
     ·cases hc
structure CxOk (cx:Cx):Prop where
 len:cx.W.length≤64
 nd:cx.W.Nodup
 env:∀ t j,(t,Od.r j)∈cx.env→j<cx.W.length
theorem jcd {d:Nat} {wj:Option Nat} {t:Nat} {p:Od}:∀ {l:List (Nat×Od)},(t,p)∈killE d wj l→(t,p)∈l∧t≠d∧(∀ j j',p=.r j→wj=some j'→j≠j')
 | [],h=>by cases h
 | (t',p')::r,h=>by
   unfold killE at h
   cases hb:or (Nat.beq t' d) (hitE p' wj) with
   | true =>
     rw [hb] at h
     obtain ⟨h1,h2,h3⟩:=jcd (l:=r) h
     exact ⟨List.mem_cons_of_mem _ h1,h2,h3⟩
   | false =>
     rw [hb] at h
     rcases List.mem_cons.1 h with h | h
     ·cases h
      rw [Bool.or_eq_false_iff] at hb
      refine ⟨List.mem_cons_self ..,Nat.ne_of_beq_eq_false hb.1,?_⟩
      rintro j j' rfl rfl
      exact Nat.ne_of_beq_eq_false hb.2
     ·obtain ⟨h1,h2,h3⟩:=jcd (l:=r) h
      exact ⟨List.mem_cons_of_mem _ h1,h2,h3⟩
theorem jkd {t:Nat} {p:Od}:∀ {l:List (Nat×Od)},(t,p)∈shE l→∃ q,(t,q)∈l∧p=shO q
 | [],h=>by cases h
 | (t',p')::r,h=>by
   rcases List.mem_cons.1 h with h | h
   ·cases h;exact ⟨p',List.mem_cons_self ..,rfl⟩
   ·obtain ⟨q,h1,h2⟩:=jkd (l:=r) h
    exact ⟨q,List.mem_cons_of_mem _ h1,h2⟩
theorem jcs {t:Nat}:∀ {l:List Nat} {j:Nat},ixW t l j=none→t∉l
 | [],j,h=>by simp
 | d::r,j,h=>by
   have h':cnd (Nat.beq d t) (some j) (ixW t r (j+1))=none:=h
   cases hb:Nat.beq d t with
   | true=>rw [hb] at h';cases h'
   | false =>
     rw [hb] at h'
     have:=jcs (l:=r) h'
     simp only [List.mem_cons,not_or]
     exact ⟨fun e=>Nat.ne_of_beq_eq_false hb e.symm,this⟩
theorem cOr_r {t j:Nat} (hx:CxOk cx) (h:cOr cx t=some (.r j)):j<cx.W.length:=by
 unfold cOr at h
 split at h
 ·rename_i o' ho
  cases h
  exact hx.env _ _ (jia ho)
 ·split at h
  ·rename_i j' hj
   cases h
   obtain ⟨_,h2,_⟩:=jdo hj
   simpa using h2
  ·cases h
theorem cOd_r {x:Operand} {j:Nat} (hx:CxOk cx) (h:cOd cx x=some (.r j)):j<cx.W.length:=by
 cases x with
 | tmp t =>
   have h':cnd (Nat.blt t cx.nt) (cOr cx t) none=some (Od.r j):=h
   obtain ⟨_,h'⟩:=jab h'
   exact cOr_r hx h'
 | const v =>
   have h':(conV v).map Od.k=some (Od.r j):=h
   cases hv:conV v with
   | none=>rw [hv] at h';cases h'
   | some y=>rw [hv] at h';cases h'
 | func f=>cases h
 | global g=>cases h
theorem jkw (hx:CxOk cx) (d:Option Nat):CxOk (jfi cx d):=by
 cases d with
 | none=>exact hx
 | some d =>
   refine ⟨hx.len,hx.nd,fun t j h=>?_⟩
   rcases List.mem_cons.1 h with h | h
   ·cases h
   ·obtain ⟨q,h1,h2⟩:=jkd h
    cases q with
    | r j'=>cases h2;exact hx.env t _ (jcd h1).1
    | k v=>cases h2
    | s i=>cases h2
theorem cxAl_ok (hx:CxOk cx) {d:Nat} {p:Od} (hp:∀ j,p=.r j→j<cx.W.length):CxOk (cxAl cx d p):=by
 refine ⟨hx.len,hx.nd,fun t j h=>?_⟩
 rcases List.mem_cons.1 h with h | h
 ·cases h;exact hp j rfl
 ·exact hx.env t j (jcd h).1
theorem jcx {d t:Nat} {cv:Value} (hd:d<a.tmps.size) (ht:t<a.tmps.size):(a.put (some d) cv).tmps.getD t undef=if t=d then cv else a.tmps.getD t undef:=by
 simp only [Act.put,Array.getD_eq_getD_getElem?,Array.getElem?_setIfInBounds]
 by_cases e:t=d
 ·subst e;simp [hd]
 ·rw [if_neg e,if_neg (fun q=>e q.symm)]
theorem jbs (d:Option Nat) (cv:Value):(a.put d cv).tmps.size=a.tmps.size:=by cases d<;>simp [Act.put]
theorem jch (d:Option Nat) (cv:Value):(a.put d cv).defers=a.defers:=by cases d<;>rfl
theorem rget_setW {j k:Nat} {t:T8 V} {s s':List V} {u:V} (hj:j<64) (hk:k<64):rget ⟨setW (some k) u t,s⟩ j=if j=k then u else rget ⟨t,s'⟩ j:=by
 show tget 2 (.t []) (tset 2 t k u) j=_
 rw [jay hk hj]
 rfl
theorem reg_put (hx:CxOk cx) (hr:RegOk cx G ρ a) (hn:a.tmps.size=cx.nt) {d:Option Nat} (hd:dOk cx d=true) {u:V} {cv:Value} (hv:V.ok G u cv):RegOk (jfi cx d) G (jiy (dW cx d) d.isSome u ρ) (a.put d cv):=by
 cases d with
 | none=>exact hr
 | some d =>
   have hd':d<a.tmps.size:=by rw [hn];exact jaa hd
   have hreg:∀ (j:Nat) (hj:j<cx.W.length) (s:List V),rget ⟨setW (ixW d cx.W 0) u ρ.t,s⟩ j=if cx.W[j]=d then u else rget ρ j:=by
    intro j hj s
    cases hi:ixW d cx.W 0 with
    | none =>
      have:=jcs hi
      rw [if_neg (fun e=>this (by rw [←e];exact List.getElem_mem hj))]
      rfl
    | some k =>
      obtain ⟨_,h2,h3⟩:=jdo hi
      simp only [Nat.sub_zero] at h2 h3
      rw [rget_setW (s':=ρ.s) (by have:=hx.len;omega) (by have:=hx.len;omega)]
      by_cases e:j=k
      ·subst e;rw [if_pos rfl,if_pos h3]
      ·rw [if_neg e,if_neg (fun q=>e ((List.getElem_inj hx.nd).1 (q.trans h3.symm)))]
   refine ⟨fun j h1 h2=>?_,fun t p h1 h2=>?_⟩
   ·have h1':j<cx.W.length:=h1
    have h2':cx.W[j]<a.tmps.size:=by rw [jbs] at h2;exact h2
    show V.ok G (rget ⟨setW (ixW d cx.W 0) u ρ.t,_⟩ j) ((a.put (some d) cv).tmps.getD cx.W[j] undef)
    rw [hreg j h1',jcx hd' h2']
    by_cases e:cx.W[j]=d
    ·rw [if_pos e,if_pos e];exact hv
    ·rw [if_neg e,if_neg e];exact hr.w j h1' h2'
   ·rw [jbs] at h2
    rw [jcx hd' h2]
    rcases List.mem_cons.1 h1 with h1 | h1
    ·cases h1
     rw [if_pos rfl];exact hv
    ·obtain ⟨q,h3,rfl⟩:=jkd h1
     obtain ⟨h4,h5,h6⟩:=jcd h3
     rw [if_neg h5]
     have:=hr.e t q h4 h2
     cases q with
     | r j =>
       have hj:=hx.env t j h4
       show V.ok G (rget ⟨setW (ixW d cx.W 0) u ρ.t,_⟩ j) _
       rw [hreg j hj,if_neg (fun e=>by
        have:ixW d cx.W 0=some j:=by
         cases hi:ixW d cx.W 0 with
         | none=>exact absurd (by rw [←e];exact List.getElem_mem hj) (jcs hi)
         | some k =>
           obtain ⟨_,g2,g3⟩:=jdo hi
           simp only [Nat.sub_zero] at g2 g3
           rw [(List.getElem_inj hx.nd).1 (g3.trans e.symm)]
        exact h6 j j rfl this rfl)]
       exact this
     | k x=>exact this
     | s i=>exact this
theorem reg_al (hx:CxOk cx) (hr:RegOk cx G ρ a) (hn:a.tmps.size=cx.nt) {d:Nat} (hd:d<cx.nt) (hW:ixW d cx.W 0=none) {p:Od} {cv:Value} (hv:V.ok G (p.get ρ) cv):RegOk (cxAl cx d p) G ρ (a.put (some d) cv):=by
 have hd':d<a.tmps.size:=by rw [hn];exact hd
 refine ⟨fun j h1 h2=>?_,fun t q h1 h2=>?_⟩
 ·have h1':j<cx.W.length:=h1
  have h2':cx.W[j]<a.tmps.size:=by rw [jbs] at h2;exact h2
  show V.ok G (rget ρ j) ((a.put (some d) cv).tmps.getD cx.W[j] undef)
  rw [jcx hd' h2']
  have e:¬cx.W[j]=d:=fun e=>jcs hW (by rw [←e];exact List.getElem_mem h1')
  rw [if_neg e];exact hr.w j h1' h2'
 ·rw [jbs] at h2
  rw [jcx hd' h2]
  rcases List.mem_cons.1 h1 with h1 | h1
  ·cases h1
   rw [if_pos rfl];exact hv
  ·obtain ⟨h4,h5,h6⟩:=jcd h1
   rw [if_neg h5];exact hr.e t q h4 h2
theorem reg_end (hr:RegOk cx G ρ a):RegOk ⟨cx.nt,cx.W,[]⟩ G ⟨ρ.t,[]⟩ a:=⟨fun j h1 h2=>hr.w j h1 h2,fun t p h=>by cases h⟩
theorem jjy {d:Nat} {p:Od} (h:alias cx o=some (d,p)):o.guard=none∧o.dst=some d∧ixW d cx.W 0=none∧∃ x,(o.op=.move x∨o.op=.assign x)∧cOd cx x=some p:=by
 unfold alias at h
 split at h
 ·rename_i d' hg hd
  split at h
  ·rename_i x hi hop
   split at h
   ·rename_i p' hp
    cases h
    exact ⟨hg,hd,hi,x,.inl hop,hp⟩
   ·cases h
  ·rename_i x hi hop
   split at h
   ·rename_i p' hp
    cases h
    exact ⟨hg,hd,hi,x,.inr hop,hp⟩
   ·cases h
  ·cases h
 ·cases h
theorem run_mv {x:Operand} (h:o.op=.move x∨o.op=.assign x) (w:World):(execOp a.eval o).run P w=.ok (.value (a.eval x)) w:=by
 rcases h with h | h<;>(unfold execOp;rw [h];rfl)
theorem jdb (h:o.guard=none) (y:Nat→Option Bool):Region.wanted o y=true:=by unfold Region.wanted;rw [h]
theorem kRs_ok {k:KV} {r:Rs} {t':T8 V} (h:kRs k r=.ok t' H' n'):∃ v H1 n1,r=.ok v H1 n1∧k v H1 n1=.ok t' H' n':=by
 cases r with
 | no=>cases h
 | ok v H1 n1=>exact ⟨v,H1,n1,rfl,h⟩
theorem wantK_ok {b:Bool} {u:V} {x y:Rr} {t':T8 V} (h:wantK b u x y=.ok t' H' n'):(wantV b u=some true∧x=.ok t' H' n')∨(wantV b u=some false∧y=.ok t' H' n'):=by
 unfold wantK at h
 split at h
 ·rename_i q;exact .inl ⟨q,h⟩
 ·rename_i q;exact .inr ⟨q,h⟩
 ·cases h
theorem jks {ops:Array Oper} {j d:Nat} {b r:Bool} {p:Od} (hg:o.guard=some (j,b)) (hj:(ops[j]?).bind (·.dst)=some d) (hd:d<cx.nt) (hp:cOr cx d=some p) (hr:RegOk cx G ρ a) (hn:a.tmps.size=cx.nt) (hw:wantV b (p.get ρ)=some r):Region.wanted o (yielded ops a.tmps)=r:=by
 have hd':d<a.tmps.size:=by rw [hn];exact hd
 have hv:=cOr_ok hp hr hd'
 have hy:yielded ops a.tmps j=(match a.tmps[d] with | .bool x=>some x | _=>none):=by
  unfold yielded
  have e:((ops[j]?).bind (·.dst)).bind (a.tmps[·]?)=some a.tmps[d]:=by rw [hj];exact Array.getElem?_eq_getElem hd'
  rw [e]
  generalize a.tmps[d]=q
  cases q<;>rfl
 have hwd:Region.wanted o (yielded ops a.tmps)=(yielded ops a.tmps j==some b):=by unfold Region.wanted;rw [hg]
 rw [hwd,hy]
 rw [jby hd'] at hv
 unfold wantV at hw
 generalize p.get ρ=pv at hw hv
 split at hw
 ·rename_i x
  cases hw
  have hv:a.tmps[d]=.bool x:=hv
  rw [hv]
  cases x<;>cases b<;>rfl
 ·cases hw
  obtain ⟨arr,hv,hall⟩:=hv
  rw [hv]
  rfl
 ·cases hw
theorem evS_ok (hcall:jbh P call) (ops:Array Oper):∀ (is:List Nat) (cx:Cx) (l:List Ins),cIs P ops cx is=some l→CxOk cx→∀ ρ H n t' H' n',evS call l ρ H n=.ok t' H' n'→n≤n' ∧
 ∀ G a w,R G (hp H) w→RegOk cx G ρ a→a.tmps.size=cx.nt→Free G n n'→∀ Q:Exit→Act→World→Prop,
  (∀ G' a' w',Stp G (hp H) n w G' (hp H') n' w'→RegOk ⟨cx.nt,cx.W,[]⟩ G' ⟨t',[]⟩ a'→a'.tmps.size=cx.nt→a'.defers=a.defers→Q .normal a' w')→wpOps P ops Q is a w
 | [],cx,l,hc,hx,ρ,H,n,t',H',n',he=>by
   cases hc
   have he:Rr.ok ρ.t H n=.ok t' H' n':=he
   cases he
   exact ⟨Nat.le_refl _,fun G a w hR hr hn hf Q hQ=>hQ G a w (Stp.refl hR) (reg_end hr) hn rfl⟩
 | i::is,cx,l,hc,hx,ρ,H,n,t',H',n',he=>by
   unfold cIs at hc
   split at hc
   ·rename_i x cx' hci
    split at hc
    ·rename_i r hr0
     cases hc
     unfold cI at hci
     split at hci
     ·cases hci
     ·rename_i o ho
      obtain ⟨hd,hci⟩:=jab hci
      split at hci
      ·
       rename_i d p hal
       cases hci
       obtain ⟨a1,a2,a3,y,a4,a5⟩:=jjy hal
       have hdn:d<cx.nt:=by rw [a2] at hd;exact jaa hd
       obtain ⟨m,ih⟩:=evS_ok hcall ops is (cxAl cx d p) r hr0 (cxAl_ok hx fun j q=>cOd_r hx (q▸a5)) ρ H n t' H' n' he
       refine ⟨m,fun G a w hR hr hn hf Q hQ=>?_⟩
       simp only [wpOps,ho]
       rw [if_pos (jdb a1 _)]
       refine .inl ?_
       unfold Oper.wp
       rw [run_mv a4 w]
       show wpOps P ops Q is (a.put o.dst (a.eval y)) w
       rw [a2]
       exact ih G _ w hR (reg_al hx hr hn hdn a3 (jam a5 hr hn)) (by rw [jbs];exact hn) hf Q fun G' a' w' h1 h2 h3 h4=>hQ G' a' w' h1 h2 h3 (h4.trans (jch _ _))
      ·split at hci
       ·rename_i ins hins
        cases hci
        unfold cIns at hins
        have go:∀ (c:CO),cO P cx o.op=some c→evK c call ρ H n (kPut (dW cx o.dst) o.dst.isSome ρ (evS call r))=.ok t' H' n'→n≤n' ∧
         ∀ G a w,R G (hp H) w→RegOk cx G ρ a→a.tmps.size=cx.nt→Free G n n'→∀ Q:Exit→Act→World→Prop,
          (∀ G' a' w',Stp G (hp H) n w G' (hp H') n' w'→RegOk ⟨cx.nt,cx.W,[]⟩ G' ⟨t',[]⟩ a'→a'.tmps.size=cx.nt→a'.defers=a.defers→Q .normal a' w')→o.wp P a w (wpOps P ops Q is) Q:=by
         intro c hco hev
         rw [evK_eq] at hev
         obtain ⟨v,H1,n1,h1,h2⟩:=kRs_ok hev
         have m1:=evO_mono hcall h1
         obtain ⟨m2,ih⟩:=evS_ok hcall ops is (jfi cx o.dst) r hr0 (jkw hx _) _ H1 n1 t' H' n' h2
         refine ⟨Nat.le_trans m1 m2,fun G a w hR hr hn hf Q hQ=>?_⟩
         refine evO_ok hcall hco h1 hR hr hn (hf.sub (Nat.le_refl _) m2) fun cv G1 w1 s1 v1=>?_
         have hx1:(jfi cx o.dst).nt=cx.nt:=by cases o.dst<;>rfl
         have hx2:(jfi cx o.dst).W=cx.W:=by cases o.dst<;>rfl
         refine ih G1 _ w1 s1.r (reg_put hx (hr.le s1.ext.1) hn hd v1) (by rw [jbs,hx1];exact hn) (hf.ext s1.ext m1) Q fun G' a' w' q1 q2 q3 q4=>?_
         rw [hx1,hx2] at q2
         rw [hx1] at q3
         exact hQ G' a' w' (s1.trans q1 m1 m2) q2 q3 (q4.trans (jch _ _))
        split at hins
        ·rename_i c hco hg
         cases hins
         obtain ⟨m,ih⟩:=go c hco he
         refine ⟨m,fun G a w hR hr hn hf Q hQ=>?_⟩
         simp only [wpOps,ho]
         rw [if_pos (jdb hg _)]
         exact .inl (ih G a w hR hr hn hf Q hQ)
        ·rename_i c j b hco hg
         split at hins
         ·rename_i d hj
          split at hins
          ·rename_i p hp
           cases hins
           obtain ⟨hdb,hp⟩:=jab hp
           rcases wantK_ok he with ⟨hw,he⟩ | ⟨hw,he⟩
           ·obtain ⟨m,ih⟩:=go c hco he
            refine ⟨m,fun G a w hR hr hn hf Q hQ=>?_⟩
            simp only [wpOps,ho]
            rw [if_pos (jks hg hj (jaa hdb) hp hr hn hw)]
            exact .inl (ih G a w hR hr hn hf Q hQ)
           ·obtain ⟨m,ih⟩:=evS_ok hcall ops is (jfi cx o.dst) r hr0 (jkw hx _) _ H n t' H' n' he
            refine ⟨m,fun G a w hR hr hn hf Q hQ=>?_⟩
            simp only [wpOps,ho]
            rw [if_neg (by rw [jks hg hj (jaa hdb) hp hr hn hw];exact Bool.false_ne_true)]
            have hx1:(jfi cx o.dst).nt=cx.nt:=by cases o.dst<;>rfl
            have hx2:(jfi cx o.dst).W=cx.W:=by cases o.dst<;>rfl
            refine ih G _ w hR (reg_put hx hr hn hd ⟨#[],rfl,.nil⟩) (by rw [jbs,hx1];exact hn) hf Q fun G' a' w' q1 q2 q3 q4=>?_
            rw [hx1,hx2] at q2
            rw [hx1] at q3
            exact hQ G' a' w' q1 q2 q3 (q4.trans (jch _ _))
          ·cases hins
         ·cases hins
        ·cases hins
       ·cases hci
    ·cases hc
   ·cases hc
end
end
end Ev
end
section
namespace Ev
open Go.RowKit
noncomputable section
def exOf:Ex→Exit
 | .nx=>.normal
 | .ex id=>.exit id
 | .rt=>.ret
def DrawnOk (P:Program) (call:CallT):Prop:=∀ (ops:Array Oper) (cx:Cx) (l:List DIns),cD P cx ops=some l→CxOk cx→cx.env=[]→∀ t H n t' H' n',evD call l ⟨t,[]⟩ H n []=.ok t' H' n'→n≤n' ∧
 ∀ G a w,R G (hp H) w→RegOk cx G ⟨t,[]⟩ a→a.tmps.size=cx.nt→Free G n n'→∀ Q:Exit→Act→World→Prop,
  (∀ G' a' w',Stp G (hp H) n w G' (hp H') n' w'→RegOk ⟨cx.nt,cx.W,[]⟩ G' ⟨t',[]⟩ a'→a'.tmps.size=cx.nt→a'.defers=a.defers→Q .normal a' w')→wpAny P .any ops Q ops.size (Array.replicate ops.size false) a w
def Runs (P:Program) (nt:Nat) (W:List Nat) (c:Code) (t:T8 V) (H:HT) (n:Nat) (ex:Ex) (t':T8 V) (H':HT) (n':Nat):Prop:=n≤n' ∧
 ∀ G a w,R G (hp H) w→RegOk ⟨nt,W,[]⟩ G ⟨t,[]⟩ a→a.tmps.size=nt→Free G n n'→∀ Q:Exit→Act→World→Prop,
  (∀ G' a' w',Stp G (hp H) n w G' (hp H') n' w'→RegOk ⟨nt,W,[]⟩ G' ⟨t',[]⟩ a'→a'.tmps.size=nt→a'.defers=a.defers→Q (exOf ex) a' w')→c.wp P Q a w
section
variable {P:Program} {nt:Nat} {W:List Nat} {call:CallT} {H H':HT} {n n':Nat} {t t':T8 V}
theorem jfa {x y:Code} {t1:T8 V} {H1:HT} {n1:Nat} {ex:Ex} (h:Runs P nt W x t H n .nx t1 H1 n1) (k:Runs P nt W y t1 H1 n1 ex t' H' n'):Runs P nt W (.seq x y) t H n ex t' H' n':=by
 refine ⟨Nat.le_trans h.1 k.1,fun G a w hR hr hn hf Q hQ=>wp_seq (h.2 G a w hR hr hn (hf.sub (Nat.le_refl _) k.1) _ fun G1 a1 w1 s1 r1 m1 d1=>?_)⟩
 exact k.2 G1 a1 w1 s1.r r1 m1 (hf.ext s1.ext h.1) Q fun G2 a2 w2 s2 r2 m2 d2=>hQ G2 a2 w2 (s1.trans s2 h.1 k.1) r2 m2 (d2.trans d1)
theorem runs_seq_out {x y:Code} {ex:Ex} (he:ex≠.nx) (h:Runs P nt W x t H n ex t' H' n'):Runs P nt W (.seq x y) t H n ex t' H' n':=by
 refine ⟨h.1,fun G a w hR hr hn hf Q hQ=>wp_seq (h.2 G a w hR hr hn hf _ fun G1 a1 w1 s1 r1 m1 d1=>?_)⟩
 have:=hQ G1 a1 w1 s1 r1 m1 d1
 cases ex with
 | nx=>exact absurd rfl he
 | ex id=>exact this
 | rt=>exact this
theorem wp_loop_n {c:Code} {Q:Exit→Act→World→Prop} (J:Nat→Act→World→Prop) (h0:∀ a w,¬J 0 a w) (round:∀ j a w,J (j+1) a w→c.wp P (Exit.then (J j) Q) a w) {j:Nat} {a:Act} {w:World} (h:J j a w):(Code.loop c).wp P Q a w:=by
 intro b k cs
 have key:∀ n a w,J n a w→∃ e a' w',Q e a' w'∧Arrives P (lone (b.at a (.code c::.inLoop c::k)) cs w) b k cs e a' w':=by
  intro n
  induction n with
  | zero=>intro a w hI;exact absurd hI (h0 a w)
  | succ n ih =>
    intro a w hI
    obtain ⟨e,a₁,w₁,hq,harr⟩:=round n a w hI b (.inLoop c::k) cs
    cases e with
    | normal =>
      obtain ⟨e₂,a₂,w₂,hq₂,harr₂⟩:=ih a₁ w₁ hq
      exact ⟨e₂,a₂,w₂,hq₂,.of_steps (Steps.trans harr (.one step_inLoop)) harr₂⟩
    | exit id=>exact ⟨_,a₁,w₁,hq,.pass (x:=.inLoop c) rfl (fun _ _=>.inl (by simp)) harr⟩
    | goto l=>exact ⟨_,a₁,w₁,hq,.pass (x:=.inLoop c) rfl (fun _ _=>.inl (by simp)) harr⟩
    | ret=>exact ⟨_,a₁,w₁,hq,.pass (x:=.inLoop c) rfl (fun _ _=>.inl (by simp)) harr⟩
    | panic ch=>exact ⟨_,a₁,w₁,hq,.pass (x:=.inLoop c) rfl (fun _ _=>.inl (by simp)) harr⟩
    | outgrown=>exact ⟨_,a₁,w₁,hq,.pass (x:=.inLoop c) rfl (fun _ _=>.inl (by simp)) harr⟩
 obtain ⟨e,a',w',hq,harr⟩:=key _ a w h
 exact ⟨e,a',w',hq,.of_steps (.one step_loop) harr⟩
theorem jfr {b:RunT} {r:Ot} {ex:Ex} (h:seqO b r=.ok ex t' H' n'):(∃ t1 H1 n1,r=.ok .nx t1 H1 n1∧b t1 H1 n1=.ok ex t' H' n')∨(ex≠.nx∧r=.ok ex t' H' n'):=by
 cases r with
 | no=>cases h
 | ok e t1 H1 n1 =>
   cases e with
   | nx=>exact .inl ⟨t1,H1,n1,rfl,h⟩
   | ex id =>
     have h:Ot.ok (.ex id) t1 H1 n1=.ok ex t' H' n':=h
     cases h;exact .inr ⟨(fun q=>by cases q),rfl⟩
   | rt =>
     have h:Ot.ok .rt t1 H1 n1=.ok ex t' H' n':=h
     cases h;exact .inr ⟨(fun q=>by cases q),rfl⟩
theorem otNx_ok {r:Rr} {ex:Ex} (h:otNx r=.ok ex t' H' n'):ex=.nx∧r=.ok t' H' n':=by
 cases r with
 | no=>cases h
 | ok t1 H1 n1 =>
   have h:Ot.ok .nx t1 H1 n1=.ok ex t' H' n':=h
   cases h;exact ⟨rfl,rfl⟩
theorem run_ok (hm:P.follows .mixedOrders=true) (hcall:jbh P call) (hD:DrawnOk P call) (hlen:W.length≤64) (hnd:W.Nodup):∀ (c:Code) t H n ex t' H' n',run call P nt W c t H n=.ok ex t' H' n'→Runs P nt W c t H n ex t' H' n':=by
 have hx:CxOk ⟨nt,W,[]⟩:=⟨hlen,hnd,fun _ _ h=>by cases h⟩
 intro c
 induction c with
 | skip =>
   intro t H n ex t' H' n' h
   have h:Ot.ok .nx t H n=.ok ex t' H' n':=h
   cases h
   exact ⟨Nat.le_refl _,fun G a w hR hr hn hf Q hQ=>wp_skip (hQ G a w (Stp.refl hR) hr hn rfl)⟩
 | region id ops draw =>
   intro t H n ex t' H' n' h
   have h:rReg' call (cReg P nt W ops draw) t H n=.ok ex t' H' n':=h
   cases hc:cReg P nt W ops draw with
   | none=>rw [hc] at h;cases h
   | some cr =>
     rw [hc] at h
     unfold cReg at hc
     cases draw with
     | false =>
       simp only [] at hc
       split at hc
       ·rename_i l hl
        cases hc
        have h:otNx (evS call l ⟨t,[]⟩ H n)=.ok ex t' H' n':=h
        obtain ⟨e0,h9⟩:=otNx_ok h
        subst e0
        obtain ⟨m,k⟩:=evS_ok hcall ops _ _ _ hl hx _ _ _ _ _ _ h9
        exact ⟨m,fun G a w hR hr hn hf Q hQ=>wp_region (k G a w hR hr hn hf Q hQ)⟩
       ·cases hc
     | true =>
       simp only [] at hc
       split at hc
       ·rename_i l hl
        cases hc
        have h:otNx (evD call l ⟨t,[]⟩ H n [])=.ok ex t' H' n':=h
        obtain ⟨e0,h9⟩:=otNx_ok h
        subst e0
        obtain ⟨m,k⟩:=hD ops _ l hl hx rfl _ _ _ _ _ _ h9
        exact ⟨m,fun G a w hR hr hn hf Q hQ=>wp_region_any hm (k G a { w with drawn:=w.drawn+1 } hR hr hn hf Q fun G' a' w' s r m d=>hQ G' a' w' ⟨s.ext,s.r,⟨s.fr.os,s.fr.tape,s.fr.output,s.fr.size,s.fr.block⟩,s.ft⟩ r m d)⟩
       ·cases hc
 | seq x y ihx ihy =>
   intro t H n ex t' H' n' h
   have h:seqO (run call P nt W y) (run call P nt W x t H n)=.ok ex t' H' n':=h
   rcases jfr h with ⟨t1,H1,n1,h1,h2⟩ | ⟨h1,h2⟩
   ·exact jfa (ihx _ _ _ _ _ _ _ h1) (ihy _ _ _ _ _ _ _ h2)
   ·exact runs_seq_out h1 (ihx _ _ _ _ _ _ _ h2)
 | cond c x y ihx ihy =>
   intro t H n ex t' H' n' h
   have h:rCond' (cOd ⟨nt,W,[]⟩ c) (run call P nt W x) (run call P nt W y) t H n=.ok ex t' H' n':=h
   unfold rCond' at h
   cases ho:cOd ⟨nt,W,[]⟩ c with
   | none=>rw [ho] at h;cases h
   | some od =>
     rw [ho] at h
     have h:brV (run call P nt W x) (run call P nt W y) t H n (od.get ⟨t,[]⟩)=.ok ex t' H' n':=h
     unfold brV at h
     split at h
     ·rename_i b hb
      cases b with
      | true =>
        obtain ⟨m,k⟩:=ihx _ _ _ _ _ _ _ h
        refine ⟨m,fun G a w hR hr hn hf Q hQ=>wp_cond_true ?_ (k G a w hR hr hn hf Q hQ)⟩
        have:=jam ho hr hn;rw [hb] at this;exact this
      | false =>
        obtain ⟨m,k⟩:=ihy _ _ _ _ _ _ _ h
        refine ⟨m,fun G a w hR hr hn hf Q hQ=>wp_cond_false ?_ (k G a w hR hr hn hf Q hQ)⟩
        have:=jam ho hr hn;rw [hb] at this;exact this
     ·cases h
 | block id x ih =>
   intro t H n ex t' H' n' h
   have h:rBlk id (run call P nt W x) t H n=.ok ex t' H' n':=h
   unfold rBlk at h
   cases hr0:run call P nt W x t H n with
   | no=>rw [hr0] at h;cases h
   | ok e t1 H1 n1 =>
     rw [hr0] at h
     obtain ⟨m,k⟩:=ih _ _ _ _ _ _ _ hr0
     cases e with
     | nx =>
       have h:Ot.ok .nx t1 H1 n1=.ok ex t' H' n':=h
       cases h
       exact ⟨m,fun G a w hR hr hn hf Q hQ=>wp_block (k G a w hR hr hn hf _ hQ)⟩
     | rt =>
       have h:Ot.ok .rt t1 H1 n1=.ok ex t' H' n':=h
       cases h
       exact ⟨m,fun G a w hR hr hn hf Q hQ=>wp_block (k G a w hR hr hn hf _ hQ)⟩
     | ex id' =>
       have h:cnd (Nat.beq id' id) (Ot.ok .nx t1 H1 n1) (.ok (.ex id') t1 H1 n1)=.ok ex t' H' n':=h
       cases hb:Nat.beq id' id with
       | true =>
         rw [hb] at h
         have h:Ot.ok .nx t1 H1 n1=.ok ex t' H' n':=h
         cases h
         refine ⟨m,fun G a w hR hr hn hf Q hQ=>wp_block (k G a w hR hr hn hf _ fun G' a' w' s r m d=>?_)⟩
         show (if id'=id then Q .normal a' w' else Q (.exit id') a' w')
         rw [if_pos (Nat.eq_of_beq_eq_true hb)]
         exact hQ G' a' w' s r m d
       | false =>
         rw [hb] at h
         have h:Ot.ok (.ex id') t1 H1 n1=.ok ex t' H' n':=h
         cases h
         refine ⟨m,fun G a w hR hr hn hf Q hQ=>wp_block (k G a w hR hr hn hf _ fun G' a' w' s r m d=>?_)⟩
         show (if id'=id then Q .normal a' w' else Q (.exit id') a' w')
         rw [if_neg (Nat.ne_of_beq_eq_false hb)]
         exact hQ G' a' w' s r m d
 | loop x ih =>
   intro t H n ex t' H' n' h
   have h:loopN (run call P nt W x) 100000 t H n=.ok ex t' H' n':=h
   generalize 100000=K at h
   have mono:∀ K t H n,loopN (run call P nt W x) K t H n=.ok ex t' H' n'→n≤n':=by
    intro K
    induction K with
    | zero=>intro t H n h;cases h
    | succ K ihK =>
      intro t H n h
      have h:seqO (loopN (run call P nt W x) K) (run call P nt W x t H n)=.ok ex t' H' n':=h
      rcases jfr h with ⟨t1,H1,n1,h1,h2⟩ | ⟨h1,h2⟩
      ·exact Nat.le_trans (ih _ _ _ _ _ _ _ h1).1 (ihK _ _ _ h2)
      ·exact (ih _ _ _ _ _ _ _ h2).1
   refine ⟨mono K t H n h,fun G a w hR hr hn hf Q hQ=>?_⟩
   refine wp_loop_n (fun j a1 w1=>∃ t1 H1 n1 G1,loopN (run call P nt W x) j t1 H1 n1=.ok ex t' H' n'∧n≤n1∧Stp G (hp H) n w G1 (hp H1) n1 w1∧RegOk ⟨nt,W,[]⟩ G1 ⟨t1,[]⟩ a1∧a1.tmps.size=nt∧a1.defers=a.defers) ?_ ?_ (j:=K) ⟨t,H,n,G,h,Nat.le_refl _,Stp.refl hR,hr,hn,rfl⟩
   ·rintro a1 w1 ⟨t1,H1,n1,G1,h1,_⟩
    cases h1
   ·rintro j a1 w1 ⟨t1,H1,n1,G1,h1,le1,s1,r1,m1,d1⟩
    have h1:seqO (loopN (run call P nt W x) j) (run call P nt W x t1 H1 n1)=.ok ex t' H' n':=h1
    rcases jfr h1 with ⟨t2,H2,n2,h2,h3⟩ | ⟨h2,h3⟩
    ·obtain ⟨m,k⟩:=ih _ _ _ _ _ _ _ h2
     refine k G1 a1 w1 s1.r r1 m1 ((hf.ext s1.ext le1).sub (Nat.le_refl _) (mono j t2 H2 n2 h3)) _ fun G2 a2 w2 s2 r2 m2 d2=>?_
     exact ⟨t2,H2,n2,G2,h3,Nat.le_trans le1 m,s1.trans s2 le1 m,r2,m2,d2.trans d1⟩
    ·obtain ⟨m,k⟩:=ih _ _ _ _ _ _ _ h3
     refine k G1 a1 w1 s1.r r1 m1 (hf.ext s1.ext le1) _ fun G2 a2 w2 s2 r2 m2 d2=>?_
     have:=hQ G2 a2 w2 (s1.trans s2 le1 m) r2 m2 (d2.trans d1)
     cases ex with
     | nx=>exact absurd rfl h2
     | ex id=>exact this
     | rt=>exact this
 | rangeFunc f ps asg body ih1 ih2=>intro t H n ex t' H' n' h;cases h
 | exit id =>
   intro t H n ex t' H' n' h
   have h:Ot.ok (.ex id) t H n=.ok ex t' H' n':=h
   cases h
   exact ⟨Nat.le_refl _,fun G a w hR hr hn hf Q hQ=>wp_exit (hQ G a w (Stp.refl hR) hr hn rfl)⟩
 | scope x ih =>
   intro t H n ex t' H' n' h
   have h:run call P nt W x t H n=.ok ex t' H' n':=h
   obtain ⟨m,k⟩:=ih _ _ _ _ _ _ _ h
   refine ⟨m,fun G a w hR hr hn hf Q hQ=>wp_scope_straight (k G a w hR hr hn hf _ fun G' a' w' s r m d=>?_)⟩
   have:=hQ G' a' w' s r m d
   cases ex<;>exact this
 | label l =>
   intro t H n ex t' H' n' h
   have h:Ot.ok .nx t H n=.ok ex t' H' n':=h
   cases h
   exact ⟨Nat.le_refl _,fun G a w hR hr hn hf Q hQ=>wp_label (hQ G a w (Stp.refl hR) hr hn rfl)⟩
 | goto l=>intro t H n ex t' H' n' h;cases h
 | ret =>
   intro t H n ex t' H' n' h
   have h:Ot.ok .rt t H n=.ok ex t' H' n':=h
   cases h
   exact ⟨Nat.le_refl _,fun G a w hR hr hn hf Q hQ=>wp_ret (hQ G a w (Stp.refl hR) hr hn rfl)⟩
 | refuse why=>intro t H n ex t' H' n' h;cases h
def rvSem (tmps:Array Value):ResultVar→Sem Value
 | .tmp t=>pure (tmps.getD t undef)
 | .cell i t=>do loadVar t (←asAddr (tmps.getD i undef))
theorem evRV_ok {cx:Cx} {rv:ResultVar} {r:RV} (h:cRV P cx rv=some r) {ρ:RT} {v:V} (he:evRV ρ H r=some v) {G:Gh} {a:Act} {w:World} (hR:R G (hp H) w) (hr:RegOk cx G ρ a) (hn:a.tmps.size=cx.nt) :
 ∃ c,(rvSem a.tmps rv).run P w=.ok c w∧V.ok G v c:=by
 unfold cRV at h
 split at h
 ·split at h
  ·rename_i t o ho
   cases h
   cases he
   exact ⟨_,rfl,jam ho hr hn⟩
  ·cases h
 ·rename_i i t
  split at h
  ·rename_i inf d o h1 h2 h3
   cases h
   have hl:evL (.ld (aggD d) inf.size o) ρ H=some v:=he
   have hc:cLd P t (cOd cx (.tmp i))=some (.ld (aggD d) inf.size o):=by unfold cLd;rw [h1,h2,h3]
   obtain ⟨c,k1,k2⟩:=ok_ld hc hl hR hr hn
   refine ⟨c,?_,k2⟩
   have ha:∃ p,a.tmps.getD i undef=.pointer (some p):=by
    have hv:=jam h3 hr hn
    have he':eLd (aggD d) inf.size o ρ H=some v:=he
    unfold eLd at he'
    generalize o.get ρ=ov at he' hv
    split at he'
    ·obtain ⟨b,sz,_,hv⟩:=hv;exact ⟨_,hv⟩
    ·cases he'
   obtain ⟨p,hp⟩:=ha
   have e:a.eval (.tmp i)=.pointer (some p):=hp
   rw [e] at k1
   show (asAddr (a.tmps.getD i undef) >>= fun x=>loadVar t x).run P w=_
   rw [hp]
   exact k1
  ·cases h
theorem evRVs_ok {cx:Cx} {ρ:RT} {G:Gh} {a:Act} {w:World} (hR:R G (hp H) w) (hr:RegOk cx G ρ a) (hn:a.tmps.size=cx.nt):∀ (rvs:List ResultVar) (rs:List RV) (vs:List V),cRVs P cx rvs=some rs→evRVs ρ H rs=some vs →
 ∃ cs,(rvs.mapM (rvSem a.tmps)).run P w=.ok cs w∧All2 (V.ok G) vs cs
 | [],rs,vs,h1,h2=>by
   cases h1;cases h2
   exact ⟨[],rfl,.nil⟩
 | rv::rvs,rs,vs,h1,h2=>by
   unfold cRVs at h1
   split at h1
   ·rename_i r rs' q1 q2
    cases h1
    unfold evRVs at h2
    split at h2
    ·rename_i v vs' p1 p2
     cases h2
     obtain ⟨c,k1,k2⟩:=evRV_ok q1 p1 hR hr hn
     obtain ⟨cs,k3,k4⟩:=evRVs_ok hR hr hn rvs rs' vs' q2 p2
     refine ⟨c::cs,?_,.cons k2 k4⟩
     rw [List.mapM_cons,Sem.run_bind,k1]
     simp only [Result.andThen_ok,Sem.run_bind,k3,Sem.run_pure]
    ·cases h2
   ·cases h1
theorem vEs_ok {G:Gh}:∀ (vs:List V) (es:List E) (cs:List Value),vEs vs=some es→All2 (V.ok G) vs cs→All2 (E.ok G) es cs
 | [],es,cs,h,ha=>by cases h;cases ha;exact .nil
 | v::vs,es,cs,h,ha=>by
   unfold vEs at h
   split at h
   ·rename_i x l h1 h2
    cases h
    cases ha with
    | cons k1 k2=>exact .cons (vE_ok h1 k1) (vEs_ok vs l _ h2 k2)
   ·cases h
theorem retV_ok {cx:Cx} {fn:Func} {rs:List RV} (hc:cRVs P cx fn.results.toList=some rs) {ρ:RT} {v:V} (he:retV rs ρ H n=.ok v H' n') {G:Gh} {a:Act} {w:World} (hR:R G (hp H) w) (hr:RegOk cx G ρ a) (hn:a.tmps.size=cx.nt) :
 H'=H∧n'=n∧∃ c,(results fn a.tmps).run P w=.ok c w∧V.ok G v c:=by
 unfold retV at he
 split at he
 ·rename_i vs hvs
  split at he
  ·rename_i u hu
   cases he
   refine ⟨rfl,rfl,?_⟩
   obtain ⟨cs,k1,k2⟩:=evRVs_ok hR hr hn _ _ _ hc hvs
   have hrun:(results fn a.tmps).run P w=.ok (if h:cs.toArray.size=1 then cs.toArray[0] else .tuple cs.toArray) w:=by
    unfold results
    rw [Sem.run_bind,Array.mapM_eq_mapM_toList,Sem.run_map]
    refine Eq.trans (congrArg (fun f=>((Sem.run P (List.mapM f fn.results.toList) w).andThen fun a w'=>Result.ok a.toArray w').andThen fun a w'=>Sem.run P (pure (if h:a.size=1 then a[0] else Value.tuple a)) w') (a₂:=rvSem a.tmps) ?_) ?_
    ·funext x;cases x<;>rfl
    ·simp only [k1];rfl
   refine ⟨_,hrun,?_⟩
   unfold tupV at hu
   split at hu
   ·cases hu
    cases k2 with
    | cons q1 q2=>cases q2;exact q1
   ·rename_i hne
    split at hu
    ·rename_i es hes
     cases hu
     have hl:¬cs.toArray.size=1:=by
      intro q
      have hl2:=k2.length
      match vs,hne,hl2 with
      | [x],hne,_=>exact hne x rfl
      | [],_,hl2=>simp at q;simp [←hl2] at q
      | _::_::_,_,hl2=>simp at q;simp [←hl2] at q
     rw [dif_neg hl]
     exact ⟨cs.toArray,rfl,by simpa using vEs_ok _ _ _ hes k2⟩
    ·cases hu
  ·cases he
 ·cases he
theorem mem_true {d:Nat}:∀ {l:List Nat},mem d l=true↔d∈l
 | []=>by constructor<;>intro h<;>cases h
 | x::xs=>by
   have hm:=@mem_true d xs
   unfold mem
   cases hb:Nat.beq x d with
   | true=>simp [cnd,Nat.eq_of_beq_eq_true hb]
   | false =>
     have:=Nat.ne_of_beq_eq_false hb
     show mem d xs=true↔_
     rw [hm,List.mem_cons]
     exact ⟨.inr,fun h=>h.resolve_left fun e=>this e.symm⟩
theorem jkh:∀ {l:List Nat},noDup l=true→l.Nodup
 | [],_=>List.nodup_nil
 | x::xs,h=>by
   unfold noDup at h
   rw [Bool.and_eq_true,Bool.not_eq_true'] at h
   exact List.nodup_cons.2 ⟨fun q=>(by rw [mem_true.2 q] at h;cases h.1),jkh h.2⟩
theorem jge (hlen:W.length≤64) (hnd:W.Nodup) (d:Nat) (u:V) (t:T8 V) {j:Nat} (hj:j<W.length):rget ⟨setW (ixW d W 0) u t,[]⟩ j=if W[j]=d then u else rget ⟨t,[]⟩ j:=by
 cases hi:ixW d W 0 with
 | none =>
   have:=jcs hi
   rw [if_neg (fun e=>this (by rw [←e];exact List.getElem_mem hj))]
   rfl
 | some k =>
   obtain ⟨_,h2,h3⟩:=jdo hi
   simp only [Nat.sub_zero] at h2 h3
   rw [rget_setW (s':=[]) (by omega) (by omega)]
   by_cases e:j=k
   ·subst e;rw [if_pos rfl,if_pos h3]
   ·rw [if_neg e,if_neg (fun q=>e ((List.getElem_inj hnd).1 (q.trans h3.symm)))]
theorem jlc (hlen:W.length≤64) (hnd:W.Nodup):∀ (vs:List V) (k m:Nat) (t t':T8 V),jiq ((List.range' k m).map fun i=>ixW i W 0) vs t=some t'→vs.length=m∧∀ j (hj:j<W.length),rget ⟨t',[]⟩ j=if k≤W[j]∧W[j]<k+m then vs.getD (W[j]-k) (.t []) else rget ⟨t,[]⟩ j
 | [],k,0,t,t',h=>by
   cases h
   refine ⟨rfl,fun j hj=>?_⟩
   rw [if_neg (by omega)]
 | [],k,m+1,t,t',h=>by
   rw [List.range'_succ] at h;cases h
 | v::vs,k,0,t,t',h=>by cases h
 | v::vs,k,m+1,t,t',h=>by
   rw [List.range'_succ] at h
   have h:jiq ((List.range' (k+1) m).map fun i=>ixW i W 0) vs (setW (ixW k W 0) v t)=some t':=h
   obtain ⟨h1,h2⟩:=jlc hlen hnd vs (k+1) m _ _ h
   refine ⟨by simp [h1],fun j hj=>?_⟩
   rw [h2 j hj,jge hlen hnd k v t hj]
   by_cases e:W[j]=k
   ·rw [if_neg (by omega),if_pos e,if_pos (by omega),e,Nat.sub_self];rfl
   ·rw [if_neg e]
    by_cases q:k+1≤W[j]∧W[j]<k+1+m
    ·rw [if_pos q,if_pos (by omega)]
     obtain ⟨i,hi⟩:∃ i,W[j]=k+1+i:=⟨W[j]-(k+1),by omega⟩
     rw [hi,show k+1+i-(k+1)=i from by omega,show k+1+i-k=i+1 from by omega]
     rfl
    ·rw [if_neg q,if_neg (by omega)]
theorem getD_app (cs:Array Value) (k i:Nat):(cs++Array.replicate k undef).getD i undef=cs.getD i undef:=by
 simp only [Array.getD_eq_getD_getElem?,Array.getElem?_append]
 by_cases h:i<cs.size
 ·rw [if_pos h]
 ·rw [if_neg h,Array.getElem?_eq_none (Nat.not_lt.1 h),Array.getElem?_replicate]
  split<;>rfl
theorem V.undef_ok (G:Gh):V.ok G (.t []) undef:=⟨#[],rfl,.nil⟩
theorem jip {G:Gh}:∀ {vs:List V} {cs:List Value},All2 (V.ok G) vs cs→∀ i,V.ok G (vs.getD i (.t [])) (cs.getD i undef)
 | _,_,.nil,i=>V.undef_ok G
 | _,_,.cons h k,0=>h
 | _,_,.cons h k,i+1=>jip k i
theorem callF_ok (hm:P.follows .mixedOrders=true) (hcall:jbh P call) (hD:DrawnOk P call) {wt:WT} {fid:Nat} {f:CF} (hf:cF P wt fid=some f) {args:List V} {v:V} (h:callF call P f args H n=.ok v H' n') :
 (∃ fn,P.funcs[fid]? =some fn∧fn.body.isNone=false)∧n≤n'∧∀ G w (cargs:Array Value),R G (hp H) w→All2 (V.ok G) args cargs.toList→Free G n n' →
   Calls P fid cargs w fun e w'=>∃ cv G',e=.returned cv∧Stp G (hp H) n w G' (hp H') n' w'∧V.ok G' v cv:=by
 unfold cF at hf
 split at hf
 ·rename_i fn hfn
  split at hf
  ·rename_i c hc
   generalize hW:tget 3 [] wt fid=W at hf
   unfold cFb at hf
   split at hf
   ·rename_i rs hrs
    cases hw:and (Nat.ble W.length 64) (noDup W) with
    | false=>rw [hw] at hf;cases hf
    | true =>
      rw [hw] at hf
      have hf:some _=some f:=hf
      cases hf
      rw [Bool.and_eq_true] at hw
      have hlen:W.length≤64:=Nat.le_of_ble_eq_true hw.1
      have hnd:=jkh hw.2
      refine ⟨⟨fn,hfn,by rw [hc];rfl⟩,?_⟩
      unfold callF at h
      obtain ⟨ha,h⟩:=jai h
      have ha:args.length≤fn.ntmps:=Nat.le_of_ble_eq_true ha
      unfold callR at h
      split at h
      ·rename_i t0 ht0
       have ht0:jiq ((List.range (fn.params.size+fn.nfree)).map fun i=>ixW i W 0) args .z=some t0:=ht0
       rw [List.range_eq_range'] at ht0
       obtain ⟨hal,hrg⟩:=jlc hlen hnd _ _ _ _ _ ht0
       have h:(Ot.rec (motive:=fun _=>Rs) Rs.no (retE rs) (run call P fn.ntmps W c t0 H n):Rs)=.ok v H' n':=h
       cases hrun:run call P fn.ntmps W c t0 H n with
       | no=>rw [hrun] at h;cases h
       | ok ex t1 H1 n1 =>
         rw [hrun] at h
         have h:retE rs ex t1 H1 n1=.ok v H' n':=h
         obtain ⟨m,k⟩:=run_ok hm hcall hD hlen hnd c _ _ _ _ _ _ _ hrun
         have hre:(∀ id,ex≠.ex id)∧retV rs ⟨t1,[]⟩ H1 n1=.ok v H' n':=by
          cases ex with
          | ex id=>cases h
          | nx=>exact ⟨fun _ q=>(by cases q),h⟩
          | rt=>exact ⟨fun _ q=>(by cases q),h⟩
         have hn1:n'=n1∧H'=H1:=by
          have h:=hre.2
          unfold retV at h
          split at h
          ·split at h
           ·cases h;exact ⟨rfl,rfl⟩
           ·cases h
          ·cases h
         obtain ⟨rfl,rfl⟩:=hn1
         refine ⟨m,fun G w cargs hR hca hfr=>calls_of_wp hfn hc ?_⟩
         have hcs:cargs.size=args.length:=by rw [←Array.length_toList];exact hca.length.symm
         have hsz:(cargs++Array.replicate (fn.ntmps-cargs.size) undef).size=fn.ntmps:=by simp;omega
         refine k G _ w hR ⟨fun j h1 h2=>?_,fun t o q=>by cases q⟩ hsz hfr _ fun G' a' w' s r m' d=>?_
         ·have h1:j<W.length:=h1
          show V.ok G (rget ⟨t0,[]⟩ j) ((cargs++Array.replicate (fn.ntmps-cargs.size) undef).getD W[j] undef)
          rw [getD_app,hrg j h1,←Array.toArray_toList (xs:=cargs),Array.getD_eq_getD_getElem?,List.getElem?_toArray,←List.getD_eq_getElem?_getD]
          by_cases q:W[j]<args.length
          ·rw [if_pos (by omega)]
           exact jip hca W[j]
          ·rw [if_neg (by omega),List.getD_eq_getElem?_getD,List.getElem?_eq_none,Option.getD_none]
           ·rw [show rget ⟨T8.z,[]⟩ j=(V.t []) from jel _ _ _];exact V.undef_ok G
           ·rw [Array.length_toList];omega
         ·obtain ⟨_,_,cv,q1,q2⟩:=retV_ok (n:=n') hrs hre.2 s.r r m'
          have hb:a'.defers=[]∧∃ v,(results fn a'.tmps).run P w'=.ok v w'∧∃ cv G',Ending.returned v=.returned cv∧Stp G (hp H) n w G' (hp H') n' w'∧V.ok G' _ cv:=⟨d,cv,q1,cv,G',rfl,s,q2⟩
          cases ex with
          | nx=>exact hb
          | rt=>exact hb
          | ex id=>exact absurd rfl (hre.1 id)
      ·cases h
   ·cases hf
  ·cases hf
 ·cases hf
def jis (P:Program) (S:SumT):Prop:=∀ fid f,S fid=some f→∀ args H n v H' n',f args H n=.ok v H' n'→FnOk P fid∧n≤n'∧∀ G w (cargs:Array Value),R G (hp H) w→All2 (V.ok G) args cargs.toList→Free G n n' →
 Calls P fid cargs w fun e w'=>∃ cv G',e=.returned cv∧Stp G (hp H) n w G' (hp H') n' w'∧V.ok G' v cv
end
end
end Ev
end
section
namespace Ev
open Go.RowKit
noncomputable section
section
variable {P:Program} {cx cy:Cx}
abbrev Agr (cx cy:Cx) (l:List Operand):Prop:=∀ x∈l,cOd cy x=cOd cx x
theorem jla:∀ {l:List Operand},Agr cx cy l→cOds cy l=cOds cx l
 | [],_=>rfl
 | x::l,h=>by unfold cOds;rw [h x (List.mem_cons_self ..),jla fun y q=>h y (List.mem_cons_of_mem _ q)]
theorem cOo_agr {x:Option Operand} (h:Agr cx cy x.toList):cOo cy x=cOo cx x:=by
 cases x with
 | none=>rfl
 | some x=>unfold cOo;simp only [];rw [h x (List.mem_singleton.2 rfl)]
theorem cLo_agr {x:Option Operand} (h:Agr cx cy x.toList):cLo cy x=cLo cx x:=by
 cases x with
 | none=>rfl
 | some x=>unfold cLo;simp only [];rw [h x (List.mem_singleton.2 rfl)]
theorem jfw {pl:Nat→Option (Nat×Nat)}:∀ {l:List (Nat×Operand)},Agr cx cy (l.map (·.2))→jgh cy pl l=jgh cx pl l
 | [],_=>rfl
 | (i,x)::l,h=>by unfold jgh;rw [h x (List.mem_cons_self ..),jfw fun y q=>h y (List.mem_cons_of_mem _ q)]
theorem Agr.mem {l:List Operand} (h:Agr cx cy l) {x:Operand} (q:x∈l):cOd cy x=cOd cx x:=h x q
theorem Agr.sub {l m:List Operand} (h:Agr cx cy l) (q:∀ x,x∈m→x∈l):Agr cx cy m:=fun x k=>h x (q x k)
theorem cCallB_agr {b:Builtin} {args:Array Operand} {ts:Array TypeId} (h:Agr cx cy args.toList):jjv P cy b args ts=jjv P cx b args ts:=by
 unfold jjv
 generalize args.toList=l at h
 split
 ·simp only [h.mem (List.mem_singleton.2 rfl)]
 ·simp only [h.mem (List.mem_singleton.2 rfl)]
 ·simp only [h.mem (List.mem_cons_self ..),h.mem (List.mem_cons_of_mem _ (List.mem_singleton.2 rfl))]
 ·simp only [h.mem (List.mem_cons_self ..),h.mem (List.mem_cons_of_mem _ (List.mem_singleton.2 rfl))]
 ·simp only [h.mem (List.mem_cons_self ..),h.mem (List.mem_cons_of_mem _ (List.mem_cons_self ..)),h.mem (List.mem_cons_of_mem _ (List.mem_cons_of_mem _ (List.mem_singleton.2 rfl)))]
 ·rfl
theorem cP_agr {op:Op} (h:Agr cx cy op.operands.toList):cP P cy op=cP P cx op:=by
 cases op with
 | call c =>
   obtain ⟨callee,args,ats⟩:=c
   cases callee with
   | builtin b =>
     exact cCallB_agr (h.sub fun x q=>by simp [Op.operands,Call.operands];exact Array.mem_toList_iff.1 q)
   | _=>rfl
 | build t ps =>
   show cBld P cy t ps=cBld P cx t ps
   unfold cBld
   split
   ·rw [jfw (cx:=cx) (cy:=cy) (by simpa [Op.operands] using h)]
   ·rfl
 | makeFunc f first caps =>
   unfold cP
   cases f with
   | func g =>
     simp only []
     cases hf:first.isEmpty with
     | false=>rfl
     | true =>
       simp only [cnd_true]
       rw [jla (cx:=cx) (cy:=cy) (h.sub fun x q=>by simp [Op.operands];exact .inr (Array.mem_toList_iff.1 q))]
   | _=>rfl
 | slice t x lo hi mx =>
   have h1:=h.mem (x:=x) (by simp [Op.operands])
   have h2:=cLo_agr (x:=lo) (h.sub fun y q=>by simp [Op.operands];simp at q;simp [q])
   have h3:=cOo_agr (x:=hi) (h.sub fun y q=>by simp [Op.operands];simp at q;simp [q])
   have h4:=cOo_agr (x:=mx) (h.sub fun y q=>by simp [Op.operands];simp at q;simp [q])
   unfold cP
   simp only [h1,h2,h3,h4]
 | pick c a b=>unfold cP;simp only [h.mem (x:=c) (by simp [Op.operands]),h.mem (x:=a) (by simp [Op.operands]),h.mem (x:=b) (by simp [Op.operands])]
 | binOp f t x y z=>unfold cP;simp only [h.mem (x:=x) (by simp [Op.operands]),h.mem (x:=y) (by simp [Op.operands])]
 | indexAddr t x y=>unfold cP;simp only [h.mem (x:=x) (by simp [Op.operands]),h.mem (x:=y) (by simp [Op.operands])]
 | index t x y=>unfold cP;simp only [h.mem (x:=x) (by simp [Op.operands]),h.mem (x:=y) (by simp [Op.operands])]
 | move x=>unfold cP;simp only [h.mem (x:=x) (by simp [Op.operands])]
 | assign x=>unfold cP;simp only [h.mem (x:=x) (by simp [Op.operands])]
 | nilCheck x=>unfold cP;simp only [h.mem (x:=x) (by simp [Op.operands])]
 | unOp f t x=>unfold cP;simp only [h.mem (x:=x) (by simp [Op.operands])]
 | convert s t x=>unfold cP;simp only [h.mem (x:=x) (by simp [Op.operands])]
 | fieldAddr t x i=>unfold cP;simp only [h.mem (x:=x) (by simp [Op.operands])]
 | field t x i=>unfold cP;simp only [h.mem (x:=x) (by simp [Op.operands])]
 | extract x i=>unfold cP;simp only [h.mem (x:=x) (by simp [Op.operands])]
 | _=>rfl
theorem cL_agr {op:Op} (h:Agr cx cy op.operands.toList):cL P cy op=cL P cx op:=by
 cases op with
 | load t x=>unfold cL;simp only [h.mem (x:=x) (by simp [Op.operands])]
 | convert s t x=>unfold cL;simp only [h.mem (x:=x) (by simp [Op.operands])]
 | lookup t x k ok=>unfold cL;simp only [h.mem (x:=x) (by simp [Op.operands]),h.mem (x:=k) (by simp [Op.operands])]
 | call c =>
   obtain ⟨callee,args,ats⟩:=c
   cases callee with
   | builtin b =>
     cases b with
     | len =>
       have h:Agr cx cy args.toList:=h.sub fun x q=>by simp [Op.operands,Call.operands];exact Array.mem_toList_iff.1 q
       unfold cL
       simp only []
       generalize args.toList=l at h
       match l,ats.toList,h with
       | [x],[t],h=>simp only [h.mem (List.mem_singleton.2 rfl)]
       | [],_,_=>rfl
       | [_],[],_=>rfl
       | [_],_::_::_,_=>rfl
       | _::_::_,_,_=>rfl
     | _=>rfl
   | _=>rfl
 | _=>rfl
theorem cA_agr {op:Op} (h:Agr cx cy op.operands.toList):cA P cy op=cA P cx op:=by
 cases op with
 | box t x=>unfold cA;simp only [h.mem (x:=x) (by simp [Op.operands])]
 | buildSlice t n ps =>
   show cBsl P cy t n ps=cBsl P cx t n ps
   unfold cBsl
   simp only [jfw (cx:=cx) (cy:=cy) (l:=ps.toList) (by simpa [Op.operands] using h)]
 | makeSlice t x y =>
   show cMks P cy t x y=cMks P cx t x y
   unfold cMks
   simp only [h.mem (x:=x) (by simp [Op.operands]),h.mem (x:=y) (by simp [Op.operands])]
 | makeMap t r=>cases r<;>rfl
 | _=>rfl
theorem cE_agr {op:Op} (h:Agr cx cy op.operands.toList):cE P cy op=cE P cx op:=by
 cases op with
 | convert s t x=>unfold cE;simp only [h.mem (x:=x) (by simp [Op.operands])]
 | store t x y=>unfold cE;simp only [h.mem (x:=x) (by simp [Op.operands]),h.mem (x:=y) (by simp [Op.operands])]
 | mapUpdate t x y z=>unfold cE;simp only [h.mem (x:=x) (by simp [Op.operands]),h.mem (x:=y) (by simp [Op.operands]),h.mem (x:=z) (by simp [Op.operands])]
 | call c =>
   obtain ⟨callee,args,ats⟩:=c
   cases callee with
   | builtin b =>
     have h:Agr cx cy args.toList:=h.sub fun x q=>by simp [Op.operands,Call.operands];exact Array.mem_toList_iff.1 q
     unfold cE
     simp only []
     generalize args.toList=l at h
     generalize ats.toList=m
     match l,h with
     | [],h=>cases b<;>rfl
     | [x],h =>
       have h1:=h.mem (List.mem_singleton.2 rfl)
       rcases m with _ | ⟨t,_ | ⟨t2,m⟩⟩<;>cases b<;>first | rfl | simp only [h1]
     | [x,y],h =>
       have h1:=h.mem (List.mem_cons_self ..)
       have h2:=h.mem (List.mem_cons_of_mem _ (List.mem_singleton.2 rfl))
       rcases m with _ | ⟨t,_ | ⟨t2,_ | ⟨t3,m⟩⟩⟩<;>cases b<;>first | rfl | simp only [h1,h2]
     | _::_::_::_,h=>cases b<;>rfl
   | _=>rfl
 | _=>rfl
theorem cC_agr {op:Op} (h:Agr cx cy op.operands.toList):cC cy op=cC cx op:=by
 cases op with
 | call c =>
   obtain ⟨callee,args,ats⟩:=c
   cases callee with
   | value f =>
     have h1:=h.mem (x:=f) (by simp [Op.operands,Call.operands])
     have h2:=jla (l:=args.toList) (h.sub fun x q=>by simp [Op.operands,Call.operands];exact .inr (Array.mem_toList_iff.1 q))
     cases f with
     | func g=>unfold cC;simp only [h2]
     | tmp t=>unfold cC;simp only [h1,h2]
     | const v=>unfold cC;simp only [h1,h2]
     | global g=>unfold cC;simp only [h1,h2]
   | _=>rfl
 | _=>rfl
theorem cO_agr {op:Op} (h:Agr cx cy op.operands.toList):cO P cy op=cO P cx op:=by
 unfold cO
 rw [cP_agr h,cL_agr h,cA_agr h,cE_agr h,cC_agr h]
end
theorem jki {a b:Nat} (h:a≠b):Nat.beq a b=false:=by
 cases q:Nat.beq a b with
 | false=>rfl
 | true=>exact absurd (Nat.eq_of_beq_eq_true q) h
def keepW (L:List Nat) (nt t:Nat):Nat:=cnd (mem t L) t nt
def cxR (cx:Cx) (L:List Nat):Cx:=⟨cx.nt,cx.W.map (keepW L cx.nt),cx.env.filter fun p=>mem p.1 L⟩
section
variable {cx:Cx} {L:List Nat}
theorem ixW_keep {t:Nat} (ht:t∈L) (hn:t<cx.nt):∀ (W:List Nat) (k:Nat),ixW t (W.map (keepW L cx.nt)) k=ixW t W k
 | [],_=>rfl
 | d::W,k=>by
   show cnd (Nat.beq (keepW L cx.nt d) t) (some k) (ixW t (W.map (keepW L cx.nt)) (k+1))=cnd (Nat.beq d t) (some k) (ixW t W (k+1))
   rw [ixW_keep ht hn W]
   unfold keepW
   cases hm:mem d L with
   | true=>rfl
   | false =>
     have h1:Nat.beq cx.nt t=false:=jki (by omega)
     have h2:Nat.beq d t=false:=jki fun e=>by rw [e,mem_true.2 ht] at hm;cases hm
     rw [cnd_false,h1,h2]
theorem jft {t:Nat} (ht:t∈L):∀ (l:List (Nat×Od)),jja t (l.filter fun p=>mem p.1 L)=jja t l
 | []=>rfl
 | (d,o)::l=>by
   rw [List.filter_cons]
   cases hm:mem d L with
   | true =>
     rw [if_pos rfl]
     show cnd (Nat.beq d t) (some o) (jja t _)=cnd (Nat.beq d t) (some o) (jja t l)
     rw [jft ht l]
   | false =>
     rw [if_neg (by simp)]
     have h2:Nat.beq d t=false:=jki fun e=>by rw [e,mem_true.2 ht] at hm;cases hm
     show jja t _=cnd (Nat.beq d t) (some o) (jja t l)
     rw [h2,jft ht l,cnd_false]
theorem cOr_keep {t:Nat} (ht:t∈L) (hn:t<cx.nt):cOr (cxR cx L) t=cOr cx t:=by
 unfold cOr
 rw [show (cxR cx L).env=cx.env.filter fun p=>mem p.1 L from rfl,show (cxR cx L).W=cx.W.map (keepW L cx.nt) from rfl,jft ht,ixW_keep ht hn]
theorem cOd_keep {x:Operand} (h:∀ t,x=.tmp t→t∈L):cOd (cxR cx L) x=cOd cx x:=by
 cases x with
 | tmp t =>
   show cnd (Nat.blt t cx.nt) (cOr (cxR cx L) t) none=cnd (Nat.blt t cx.nt) (cOr cx t) none
   cases hb:Nat.blt t cx.nt with
   | false=>rfl
   | true=>rw [cnd_true,cnd_true,cOr_keep (h t rfl) (jaa hb)]
 | _=>rfl
theorem operL_mem {op:Op} {t:Nat} (h:Operand.tmp t∈op.operands.toList):t∈operL op:=by
 unfold operL
 exact List.mem_filterMap.2 ⟨_,h,rfl⟩
theorem cO_keep {P:Program} {op:Op} (h:∀ t,t∈operL op→t∈L):cO P (cxR cx L) op=cO P cx op :=
 cO_agr fun x hx=>cOd_keep fun t e=>h t (operL_mem (e▸hx))
end
structure RegV (cx:Cx) (ρ:RT) (tv:Nat→Option V):Prop where
 w:∀ (j:Nat) (h:j<cx.W.length),cx.W[j]<cx.nt→tv cx.W[j]=some (rget ρ j)
 e:∀ t o,(t,o)∈cx.env→t<cx.nt→tv t=some (o.get ρ)
section
variable {cx:Cx} {ρ:RT} {tv:Nat→Option V} {G:Gh} {a:Act}
theorem RegV.reg (h:RegV cx ρ tv) {L:List Nat} (hn:a.tmps.size=cx.nt) (hv:∀ t v,t∈L→t<cx.nt→tv t=some v→V.ok G v (a.tmps.getD t undef)):RegOk (cxR cx L) G ρ a:=by
 refine ⟨fun j h1 h2=>?_,fun t o h1 h2=>?_⟩
 ·have h1':j<cx.W.length:=by simpa [cxR] using h1
  have e:(cxR cx L).W[j]=keepW L cx.nt cx.W[j]:=by simp [cxR]
  rw [e] at h2 ⊢
  unfold keepW at h2 ⊢
  cases hm:mem cx.W[j] L with
  | false=>rw [hm,cnd_false] at h2;omega
  | true =>
    rw [hm,cnd_true] at h2
    rw [cnd_true]
    exact hv _ _ (mem_true.1 hm) (by omega) (h.w j h1' (by omega))
 ·have h1:(t,o)∈cx.env.filter fun p=>mem p.1 L:=h1
  rw [List.mem_filter] at h1
  exact hv t _ (mem_true.1 h1.2) (by omega) (h.e t o h1.1 (by omega))
def tput (d:Option Nat) (v:V) (tv:Nat→Option V):Nat→Option V:=fun t=>if d=some t then some v else tv t
theorem RegV.put (hx:CxOk cx) (hr:RegV cx ρ tv) (d:Option Nat) (u:V):RegV (jfi cx d) (jiy (dW cx d) d.isSome u ρ) (tput d u tv):=by
 cases d with
 | none =>
   have e:tput none u tv=tv:=by funext t;unfold tput;rw [if_neg (fun q=>by cases q)]
   rw [e]
   exact hr
 | some d =>
   have hreg:∀ (j:Nat) (hj:j<cx.W.length) (s:List V),rget ⟨setW (ixW d cx.W 0) u ρ.t,s⟩ j=if cx.W[j]=d then u else rget ρ j:=fun j hj s=>jge hx.len hx.nd d u ρ.t hj
   refine ⟨fun j h1 h2=>?_,fun t p h1 h2=>?_⟩
   ·have h1':j<cx.W.length:=h1
    show tput (some d) u tv cx.W[j]=some (rget ⟨setW (ixW d cx.W 0) u ρ.t,_⟩ j)
    rw [hreg j h1']
    unfold tput
    by_cases e:cx.W[j]=d
    ·rw [if_pos (by rw [e]),if_pos e]
    ·rw [if_neg (fun q=>e (by cases q;rfl)),if_neg e];exact hr.w j h1' h2
   ·rcases List.mem_cons.1 h1 with h1 | h1
    ·cases h1
     unfold tput
     rw [if_pos rfl];rfl
    ·obtain ⟨q,h3,rfl⟩:=jkd h1
     obtain ⟨h4,h5,h6⟩:=jcd h3
     unfold tput
     rw [if_neg (fun e=>h5 (by cases e;rfl))]
     have:=hr.e t q h4 h2
     cases q with
     | r j =>
       have hj:=hx.env t j h4
       show _=some (rget ⟨setW (ixW d cx.W 0) u ρ.t,_⟩ j)
       rw [hreg j hj,if_neg (fun e=>by
        have:ixW d cx.W 0=some j:=by
         cases hi:ixW d cx.W 0 with
         | none=>exact absurd (by rw [←e];exact List.getElem_mem hj) (jcs hi)
         | some k =>
           obtain ⟨_,g2,g3⟩:=jdo hi
           simp only [Nat.sub_zero] at g2 g3
           rw [(List.getElem_inj hx.nd).1 (g3.trans e.symm)]
        exact h6 j j rfl this rfl)]
       exact this
     | k x=>exact this
     | s i=>exact this
theorem RegV.al (hr:RegV cx ρ tv) {d:Nat} (hW:ixW d cx.W 0=none) (p:Od):RegV (cxAl cx d p) ρ (tput (some d) (p.get ρ) tv):=by
 refine ⟨fun j h1 h2=>?_,fun t q h1 h2=>?_⟩
 ·have h1':j<cx.W.length:=h1
  have e:¬cx.W[j]=d:=fun e=>jcs hW (by rw [←e];exact List.getElem_mem h1')
  show tput _ _ _ cx.W[j]=_
  unfold tput
  rw [if_neg (fun q=>e (by cases q;rfl))]
  exact hr.w j h1' h2
 ·rcases List.mem_cons.1 h1 with h1 | h1
  ·cases h1
   unfold tput
   rw [if_pos rfl]
  ·obtain ⟨h4,h5,_⟩:=jcd h1
   unfold tput
   rw [if_neg (fun e=>h5 (by cases e;rfl))]
   exact hr.e t q h4 h2
def tv0 (cx:Cx) (ρ:RT):Nat→Option V:=fun t=>match ixW t cx.W 0 with | some j=>some (rget ρ j) | none=>none
theorem RegV.start (hnd:cx.W.Nodup) (he:cx.env=[]):RegV cx ρ (tv0 cx ρ):=by
 refine ⟨fun j h1 h2=>?_,fun t o h1 _=>by rw [he] at h1;cases h1⟩
 unfold tv0
 cases hi:ixW cx.W[j] cx.W 0 with
 | none=>exact absurd (List.getElem_mem h1) (jcs hi)
 | some k =>
   obtain ⟨_,g2,g3⟩:=jdo hi
   simp only [Nat.sub_zero] at g2 g3
   rw [(List.getElem_inj hnd).1 g3]
theorem tv0_ok (hr:RegOk cx G ρ a) {t:Nat} {v:V} (ht:t<a.tmps.size) (h:tv0 cx ρ t=some v):V.ok G v (a.tmps.getD t undef):=by
 unfold tv0 at h
 split at h
 ·rename_i j hj
  cases h
  obtain ⟨h1,h2,h3⟩:=jdo hj
  simp only [Nat.sub_zero] at h2 h3
  have:=hr.w j h2 (by rw [h3];exact ht)
  rw [h3] at this
  exact this
 ·cases h
end
end
end Ev
end
section
namespace Ev
open Go.RowKit
noncomputable section
inductive Waits (ops:Array Oper):Nat→Nat→Prop
 | one {i:Nat} {o:Oper} {e:Edge} (h:ops[i]? =some o) (he:e∈o.after) (hb:Region.binds .any e=true):Waits ops i e.on
 | far {i j:Nat} {o:Oper} {e:Edge} (h:ops[i]? =some o) (he:e∈o.after) (hb:Region.binds .any e=true) (hw:Waits ops e.on j):Waits ops i j
theorem jgj (m i:Nat):bit m i=Nat.testBit m i:=by
 unfold bit
 rw [Nat.testBit_eq_decide_div_mod_eq]
 show Nat.beq (m / 2^i % 2) 1=_
 by_cases h:m / 2^i % 2=1
 ·rw [h];simp
 ·rw [jki h];simp [h]
theorem jlb (i:Nat):bit 0 i=false:=by rw [jgj];simp
theorem preOf_ok {ops:Array Oper} {acc:List Nat} {i:Nat} {o:Oper} (ho:ops[i]? =some o) (ha:∀ k j,bit (acc.getD k 0) j=true→Waits ops k j) {j:Nat} (h:bit (jiz acc o) j=true):Waits ops i j:=by
 unfold jiz at h
 have key:∀ (l:List Edge) (s:Nat),(∀ e∈l,e∈o.after)→(bit s j=true→Waits ops i j)→bit (l.foldl (fun s e=>cnd (Region.binds .any e) (Nat.lor s (Nat.lor (Nat.pow 2 e.on) (acc.getD e.on 0))) s) s) j=true→Waits ops i j:=by
  intro l
  induction l with
  | nil=>intro s _ hs h;exact hs h
  | cons e l ih =>
    intro s hl hs h
    refine ih _ (fun e' q=>hl e' (List.mem_cons_of_mem _ q)) (fun q=>?_) h
    have he:=hl e (List.mem_cons_self ..)
    have q:bit (cnd (Region.binds .any e) (Nat.lor s (Nat.lor (Nat.pow 2 e.on) (acc.getD e.on 0))) s) j=true:=q
    cases hb:Region.binds .any e with
    | false=>rw [hb] at q;exact hs q
    | true =>
      rw [hb,cnd_true,jgj] at q
      have q:(s ||| (2^e.on ||| acc.getD e.on 0)).testBit j=true:=q
      rw [Nat.testBit_or,Nat.testBit_or,Bool.or_eq_true,Bool.or_eq_true,←jgj,←jgj (acc.getD e.on 0),Nat.testBit_two_pow,decide_eq_true_eq] at q
      rcases q with q | q | q
      ·exact hs q
      ·rw [←q];exact .one ho he hb
      ·exact .far ho he hb (ha _ _ q)
 exact key _ _ (fun e q=>Array.mem_toList_iff.1 q) (fun q=>by rw [jlb] at q;cases q) h
theorem pres_ok {ops:Array Oper} {i j:Nat} (h:bit ((pres ops.toList).getD i 0) j=true):Waits ops i j:=by
 have key:∀ (l done:List Oper) (acc:List Nat),done++l=ops.toList→acc.length=done.length→(∀ k j,bit (acc.getD k 0) j=true→Waits ops k j)→∀ k j,bit ((l.foldl (fun acc o=>acc++[jiz acc o]) acc).getD k 0) j=true→Waits ops k j:=by
  intro l
  induction l with
  | nil=>intro done acc _ _ ha;exact ha
  | cons o l ih =>
    intro done acc hd hl ha
    refine ih (done++[o]) (acc++[jiz acc o]) (by simpa using hd) (by simp [hl]) fun k j hk=>?_
    have ho:ops[done.length]? =some o:=by
     rw [←Array.getElem?_toList,←hd];simp
    rw [List.getD_eq_getElem?_getD] at hk
    rcases Nat.lt_trichotomy k acc.length with q | q | q
    ·rw [List.getElem?_append_left q,←List.getD_eq_getElem?_getD] at hk
     exact ha k j hk
    ·subst q
     rw [List.getElem?_append_right (Nat.le_refl _),Nat.sub_self] at hk
     rw [hl]
     exact preOf_ok ho ha hk
    ·rw [List.getElem?_eq_none (by simp;omega)] at hk
     rw [Option.getD_none,jlb] at hk;cases hk
 exact key ops.toList [] [] rfl rfl (fun k j h=>by rw [List.getD_eq_getElem?_getD,List.getElem?_nil,Option.getD_none,jlb] at h;cases h) i j h
def Closed (ops:Array Oper) (D:Nat→Prop):Prop:=∀ i j,D i→Waits ops i j→D j
theorem jhb {ops:Array Oper} {D:Nat→Prop} (hc:Closed ops D) {i:Nat} {o:Oper} (ho:ops[i]? =some o) (hr:∀ e∈o.after,Region.binds .any e=true→D e.on) {j:Nat} (hw:Waits ops i j):D j:=by
 cases hw with
 | one q he hb=>rw [ho] at q;cases q;exact hr _ he hb
 | far q he hb hw=>rw [ho] at q;cases q;exact hc _ _ (hr _ he hb) hw
theorem closed_put {ops:Array Oper} {D:Nat→Prop} (hc:Closed ops D) {i:Nat} {o:Oper} (ho:ops[i]? =some o) (hr:∀ e∈o.after,Region.binds .any e=true→D e.on):Closed ops (fun j=>D j∨j=i):=by
 intro k j hk hw
 rcases hk with hk | rfl
 ·exact .inl (hc _ _ hk hw)
 ·exact .inl (jhb hc ho hr hw)
theorem jhq:∀ (n:Nat) (l:List Nat),l.length≤n→(∀ i,i<n→i∈l)→l.Nodup∧∀ x∈l,x<n
 | 0,l,h,_=>by
   have:l=[]:=List.eq_nil_of_length_eq_zero (by omega)
   subst this
   exact ⟨List.nodup_nil,fun x h=>by cases h⟩
 | n+1,l,h,ha=>by
   have hn:=ha n (Nat.lt_succ_self n)
   have hp:=List.perm_cons_erase hn
   obtain ⟨h1,h2⟩:=jhq n (l.erase n) (by rw [List.length_erase_of_mem hn];omega) fun i hi=>(List.mem_erase_of_ne (by omega)).2 (ha i (by omega))
   refine ⟨hp.nodup_iff.2 (List.nodup_cons.2 ⟨fun q=>absurd (h2 n q) (by omega),h1⟩),fun x hx=>?_⟩
   rcases List.mem_cons.1 (hp.mem_iff.1 hx) with q | q
   ·omega
   ·have:=h2 x q;omega
theorem allIn_ok {n:Nat} {π:List Nat} (h:allIn n π=true):π.length=n∧π.Nodup∧(∀ x∈π,x<n)∧∀ i,i<n→i∈π:=by
 unfold allIn at h
 rw [Bool.and_eq_true,List.all_eq_true] at h
 have h1:=Nat.eq_of_beq_eq_true h.1
 have h2:∀ i,i<n→i∈π:=fun i hi=>mem_true.1 (h.2 i (List.mem_range.2 hi))
 obtain ⟨h3,h4⟩:=jhq n π (by omega) h2
 exact ⟨h1,h3,h4,h2⟩
theorem jjw {ops:Array Oper} {m:Nat} {eff:Bool} {y:Oper}:∀ {l:List Nat},jex ops m eff y l=true→∀ j∈l,bit m j=true∨(eff=false∧∀ x,ops[j]? =some x→meet ops x y=false)
 | [],_,j,h=>by cases h
 | k::l,h,j,hj=>by
   unfold jex at h
   rw [Bool.and_eq_true] at h
   rcases List.mem_cons.1 hj with rfl | hj
   ·have h1:=h.1
    rw [Bool.or_eq_true,Bool.and_eq_true,Bool.not_eq_true',Bool.not_eq_true'] at h1
    refine h1.imp id fun q=>⟨q.1,fun x hx=>?_⟩
    have:=q.2;rw [hx] at this;exact this
   ·exact jjw h.2 j hj
theorem memO_no {d:Option Nat} {l:List Nat} (h:memO d l=false):∀ t,d=some t→t∉l:=by
 rintro t rfl q
 have h:mem t l=false:=h
 rw [mem_true.2 q] at h;cases h
theorem meet_no {ops:Array Oper} {x y:Oper} (h:meet ops x y=false):(∀ t,x.dst=some t→t∉jes ops y)∧(∀ t,y.dst=some t→t∉jes ops x)∧(∀ t,x.dst=some t→y.dst≠some t):=by
 unfold meet at h
 rw [Bool.or_eq_false_iff,Bool.or_eq_false_iff] at h
 exact ⟨memO_no h.1,memO_no h.2.1,fun t ht q=>memO_no h.2.2 t ht (by rw [q];exact List.mem_singleton.2 rfl)⟩
structure St where
 cx:Cx
 ρ:RT
 H:HT
 n:Nat
 hs:List HT
 seen:List Nat
 effs:List Nat
def Guard (ops:Array Oper) (s:St) (o:Oper) (r:Bool):Prop :=
 (o.guard=none∧r=true)∨∃ j b d q,o.guard=some (j,b)∧(ops[j]?).bind (·.dst)=some d∧d<s.cx.nt∧cOr s.cx d=some q∧wantV b (q.get s.ρ)=some r
structure Plc (P:Program) (ops:Array Oper) (pre:List Nat) (call:CallT) (i:Nat) (o:Oper) (v:V) (eff:Bool) (s s':St):Prop where
 op:ops[i]? =some o
 dst:dOk s.cx o.dst=true
 bef:jex ops (pre.getD i 0) eff o s.seen=true
 seen:s'.seen=i::s.seen
 effs:s'.effs=cnd eff (i::s.effs) s.effs
 hs:s'.hs=cnd eff (s.H::s.hs) s.hs
 nt:s'.cx.nt=s.cx.nt
 W:s'.cx.W=s.cx.W
 ok:CxOk s.cx
 reg:∀ tv,RegV s.cx s.ρ tv→RegV s'.cx s'.ρ (tput o.dst v tv)
 how:(o.guard=none∧eff=false∧s'.H=s.H∧s'.n=s.n∧∃ x q,(o.op=.move x∨o.op=.assign x)∧cOd s.cx x=some q∧v=q.get s.ρ) ∨
  (Guard ops s o true∧∃ c,cO P s.cx o.op=some c∧evO c call s.ρ s.H s.n=.ok v s'.H s'.n∧eff=isE c∧chkO ((s.effs.filter fun e=>not (bit (pre.getD i 0) e)).length) c s.ρ s.hs v=true) ∨
  (Guard ops s o false∧v=jhc∧s'.H=s.H∧s'.n=s.n)
section
variable {P:Program} {ops:Array Oper} {pre:List Nat} {call:CallT}
theorem kPutD_ok {chk:Nat} {c:CO} {w:Option Nat} {ps:Bool} {ρ:RT} {H0 H H':HT} {hs:List HT} {k:KD} {v:V} {n n':Nat} {t':T8 V} (h:kPutD chk c w ps ρ H0 hs k v H n=.ok t' H' n'):chkO chk c ρ hs v=true∧k (jiy w ps v ρ) H n (cnd (isE c) (H0::hs) hs)=.ok t' H' n':=by
 unfold kPutD at h
 cases hb:chkO chk c ρ hs v with
 | false=>rw [hb] at h;cases h
 | true=>rw [hb] at h;exact ⟨rfl,h⟩
theorem cIns_some {cx:Cx} {o:Oper} {ins:Ins} (h:cIns P cx ops o=some ins):∃ c,cO P cx o.op=some c∧((o.guard=none∧ins=.u c (dW cx o.dst) o.dst.isSome)∨∃ j b d p,o.guard=some (j,b)∧(ops[j]?).bind (·.dst)=some d∧d<cx.nt∧cOr cx d=some p∧ins=.g p b c (dW cx o.dst) o.dst.isSome):=by
 unfold cIns at h
 split at h
 ·rename_i c hc hg
  cases h
  exact ⟨c,hc,.inl ⟨hg,rfl⟩⟩
 ·rename_i c j b hc hg
  split at h
  ·rename_i d hd
   split at h
   ·rename_i p hp
    cases h
    cases hb:Nat.blt d cx.nt with
    | false=>rw [hb] at hp;cases hp
    | true =>
      rw [hb] at hp
      exact ⟨c,hc,.inr ⟨j,b,d,p,hg,hd,jaa hb,hp,rfl⟩⟩
   ·cases h
  ·cases h
 ·cases h
theorem trace:∀ (is:List Nat) (s:St) (l:List DIns),cDs P ops pre s.cx is s.seen s.effs=some l→CxOk s.cx→∀ t' H' n',evD call l s.ρ s.H s.n s.hs=.ok t' H' n' →
 ∃ (st:Nat→St) (vs:Nat→V) (ef:Nat→Bool) (os:Nat→Oper),st 0=s∧(st is.length).ρ.t=t'∧(st is.length).H=H'∧(st is.length).n=n'∧∀ p (h:p<is.length),Plc P ops pre call is[p] (os p) (vs p) (ef p) (st p) (st (p+1))
 | [],s,l,hc,hx,t',H',n',he=>by
   cases hc
   have he:Rr.ok s.ρ.t s.H s.n=.ok t' H' n':=he
   cases he
   exact ⟨fun _=>s,fun _=>jfo,fun _=>false,fun _=>default,rfl,rfl,rfl,rfl,fun p h=>by simp at h⟩
 | i::is,s,l,hc,hx,t',H',n',he=>by
   unfold cDs at hc
   split at hc
   ·rename_i x cx' o hci ho
    obtain ⟨hbef,hc⟩:jex ops (pre.getD i 0) (effO x) o s.seen=true∧(match cDs P ops pre cx' is (i::s.seen) (cnd (effO x) (i::s.effs) s.effs) with
     | some r=>some (consD x (s.effs.filter fun e=>not (bit (pre.getD i 0) e)).length r)
     | none=>none)=some l:=by
     cases hb:jex ops (pre.getD i 0) (effO x) o s.seen with
     | false=>rw [hb] at hc;cases hc
     | true=>rw [hb] at hc;exact ⟨rfl,hc⟩
    split at hc
    ·rename_i r hr0
     cases hc
     unfold cI at hci
     rw [ho] at hci
     simp only [] at hci
     obtain ⟨hd,hci⟩:=jab hci
     have fin:∀ (v:V) (s1:St),s1.cx=cx'→s1.seen=i::s.seen→s1.effs=cnd (effO x) (i::s.effs) s.effs→CxOk cx'→Plc P ops pre call i o v (effO x) s s1→evD call r s1.ρ s1.H s1.n s1.hs=.ok t' H' n' →
      ∃ (st:Nat→St) (vs:Nat→V) (ef:Nat→Bool) (os:Nat→Oper),st 0=s∧(st (i::is).length).ρ.t=t'∧(st (i::is).length).H=H'∧(st (i::is).length).n=n'∧∀ p (h:p<(i::is).length),Plc P ops pre call (i::is)[p] (os p) (vs p) (ef p) (st p) (st (p+1)):=by
      intro v s1 e1 e2 e3 hx1 hp he1
      obtain ⟨st,vs,ef,os,q0,q1,q2,q3,q4⟩:=trace is s1 r (by rw [e1,e2,e3];exact hr0) (by rw [e1];exact hx1) t' H' n' he1
      refine ⟨fun p=>Nat.casesOn p s st,fun p=>Nat.casesOn p v vs,fun p=>Nat.casesOn p (effO x) ef,fun p=>Nat.casesOn p o os,rfl,q1,q2,q3,fun p h=>?_⟩
      cases p with
      | zero=>show Plc P ops pre call i o v (effO x) s (st 0);rw [q0];exact hp
      | succ p=>exact q4 p (by simpa using h)
     split at hci
     ·
      rename_i d p hal
      cases hci
      obtain ⟨a1,a2,a3,y,a4,a5⟩:=jjy hal
      have hx1:=cxAl_ok hx (d:=d) (p:=p) fun j q=>cOd_r hx (q▸a5)
      exact fin (p.get s.ρ) ⟨cxAl s.cx d p,s.ρ,s.H,s.n,s.hs,i::s.seen,s.effs⟩ rfl rfl rfl hx1
       ⟨ho,hd,hbef,rfl,rfl,rfl,rfl,rfl,hx,fun tv h=>by rw [a2];exact h.al a3 p,.inl ⟨a1,rfl,rfl,rfl,y,p,a4,a5,rfl⟩⟩ he
     ·split at hci
      ·rename_i ins hins
       cases hci
       obtain ⟨c,hc,hg⟩:=cIns_some hins
       have hx1:=jkw hx o.dst
       have ent:(jfi s.cx o.dst).nt=s.cx.nt:=by cases o.dst<;>rfl
       have eW:(jfi s.cx o.dst).W=s.cx.W:=by cases o.dst<;>rfl
       have run:∀ {he0:effO (some ins)=isE c},Guard ops s o true→evK c call s.ρ s.H s.n (kPutD ((s.effs.filter fun e=>not (bit (pre.getD i 0) e)).length) c (dW s.cx o.dst) o.dst.isSome s.ρ s.H s.hs (evD call r))=.ok t' H' n' →
        ∃ (st:Nat→St) (vs:Nat→V) (ef:Nat→Bool) (os:Nat→Oper),st 0=s∧(st (i::is).length).ρ.t=t'∧(st (i::is).length).H=H'∧(st (i::is).length).n=n'∧∀ p (h:p<(i::is).length),Plc P ops pre call (i::is)[p] (os p) (vs p) (ef p) (st p) (st (p+1)):=by
        intro he0 hgd he
        rw [evK_eq] at he
        obtain ⟨v,H1,n1,q1,q2⟩:=kRs_ok he
        obtain ⟨q3,q4⟩:=kPutD_ok q2
        refine fin v ⟨jfi s.cx o.dst,jiy (dW s.cx o.dst) o.dst.isSome v s.ρ,H1,n1,cnd (isE c) (s.H::s.hs) s.hs,i::s.seen,cnd (effO (some ins)) (i::s.effs) s.effs⟩ rfl rfl rfl hx1 ?_ q4
        exact ⟨ho,hd,hbef,rfl,rfl,by rw [he0],ent,eW,hx,fun tv h=>h.put hx o.dst v,.inr (.inl ⟨hgd,c,hc,q1,he0,q3⟩)⟩
       rcases hg with ⟨hg,rfl⟩ | ⟨j,b,d,p,hg,hj,hdb,hp,rfl⟩
       ·exact run (he0:=rfl) (.inl ⟨hg,rfl⟩) he
       ·have he:wantK b (p.get s.ρ) (evK c call s.ρ s.H s.n (kPutD ((s.effs.filter fun e=>not (bit (pre.getD i 0) e)).length) c (dW s.cx o.dst) o.dst.isSome s.ρ s.H s.hs (evD call r))) (evD call r (jiy (dW s.cx o.dst) o.dst.isSome jhc s.ρ) s.H s.n (cnd (isE c) (s.H::s.hs) s.hs))=.ok t' H' n':=he
        rcases wantK_ok he with ⟨hw,he⟩ | ⟨hw,he⟩
        ·exact run (he0:=rfl) (.inr ⟨j,b,d,p,hg,hj,hdb,hp,hw⟩) he
        ·refine fin jhc ⟨jfi s.cx o.dst,jiy (dW s.cx o.dst) o.dst.isSome jhc s.ρ,s.H,s.n,cnd (isE c) (s.H::s.hs) s.hs,i::s.seen,cnd (isE c) (i::s.effs) s.effs⟩ rfl rfl rfl hx1 ?_ he
         exact ⟨ho,hd,hbef,rfl,rfl,rfl,ent,eW,hx,fun tv h=>h.put hx o.dst _,.inr (.inr ⟨.inr ⟨j,b,d,p,hg,hj,hdb,hp,hw⟩,rfl,rfl,rfl⟩)⟩
      ·cases hci
    ·cases hc
   ·cases hc
end
end
end Ev
end
section
namespace Ev
open Go.RowKit
noncomputable section
open Classical in
theorem filt (S:Nat→Prop) (H:HT):∃ H':HT,∀ id,hp H' id=if S id then hp H id else .no:=by
 have key:∀ k,k≤HB→∃ H':HT,∀ id,hp H' id=if id<k∧¬S id then .no else hp H id:=by
  intro k
  induction k with
  | zero=>intro _;exact ⟨H,fun id=>by rw [if_neg (by omega)]⟩
  | succ k ih =>
    intro hk
    obtain ⟨H',h'⟩:=ih (by omega)
    by_cases hs:S k
    ·refine ⟨H',fun id=>?_⟩
     rw [h' id]
     by_cases e:id=k
     ·subst e
      rw [if_neg (by omega),if_neg (fun q=>q.2 hs)]
     ·by_cases q:id<k∧¬S id
      ·rw [if_pos q,if_pos ⟨by omega,q.2⟩]
      ·rw [if_neg q,if_neg (fun r=>q ⟨by omega,r.2⟩)]
    ·refine ⟨hset H' k .no,fun id=>?_⟩
     rw [jbv H' (by omega)]
     unfold upd
     by_cases e:id=k
     ·subst e
      rw [if_pos rfl,if_pos ⟨by omega,hs⟩]
     ·rw [if_neg e,h' id]
      by_cases q:id<k∧¬S id
      ·rw [if_pos q,if_pos ⟨by omega,q.2⟩]
      ·rw [if_neg q,if_neg (fun r=>q ⟨by omega,r.2⟩)]
 obtain ⟨H',h'⟩:=key HB (Nat.le_refl _)
 refine ⟨H',fun id=>?_⟩
 rw [h' id]
 by_cases hid:id<HB
 ·by_cases hs:S id
  ·rw [if_neg (fun q=>q.2 hs),if_pos hs]
  ·rw [if_pos ⟨hid,hs⟩,if_neg hs]
 ·rw [if_neg (fun q=>hid q.1)]
  have:hp H id=.no:=if_neg hid
  rw [this];split<;>rfl
def odL:LO→Od
 | .ld _ _ a=>a
 | .b2s a=>a
 | .lku _ _ _ a _=>a
 | .lenm a=>a
theorem cL_od {P:Program} {cx:Cx} {op:Op} {x:LO} (h:cL P cx op=some x):∃ y,y∈op.operands.toList∧cOd cx y=some (odL x):=by
 unfold cL at h
 split at h
 ·rename_i t y
  unfold cLd at h
  split at h
  ·rename_i h3
   cases h;exact ⟨y,by simp [Op.operands],h3⟩
  ·cases h
 ·rename_i s d y
  unfold cB2s at h
  split at h
  ·rename_i h3
   split at h
   ·cases h;exact ⟨y,by simp [Op.operands],h3⟩
   ·cases h
  ·cases h
 ·rename_i t y k ok
  unfold cLku at h
  split at h
  ·rename_i h3 h4
   split at h
   ·split at h
    ·cases h;exact ⟨y,by simp [Op.operands],h3⟩
    ·cases h
   ·cases h
  ·cases h
 ·rename_i args ats
  split at h
  ·rename_i y t ha ht
   split at h
   ·rename_i h3
    cases h
    exact ⟨y,by simp [Op.operands,Call.operands];rw [←Array.mem_toList_iff,ha];exact List.mem_singleton.2 rfl,h3⟩
   ·cases h
  ·cases h
 ·cases h
theorem evL_one {x:LO} {ρ:RT} {H:HT} {v:V} (h:evL x ρ H=some v):(∀ H',evL x ρ H'=some v)∨∃ id,id<HB∧(∀ H':HT,hget H' id=hget H id→evL x ρ H'=some v)∧∀ G c,V.ok G ((odL x).get ρ) c→G id≠none:=by
 have some_no:∀ {α:Type} {x:Option α} {y:α},x=some y→x≠none:=fun h q=>by rw [h] at q;cases q
 cases x with
 | ld agg n a =>
   have h':eLd agg n a ρ H=some v:=h
   unfold eLd at h'
   show (∀ H',eLd agg n a ρ H'=some v)∨∃ id,id<HB∧(∀ H':HT,hget H' id=hget H id→eLd agg n a ρ H'=some v)∧∀ G c,V.ok G (a.get ρ) c→G id≠none
   unfold eLd
   generalize a.get ρ=av at h'
   split at h'
   ·rename_i id off
    refine .inr ⟨id,jaa (jab h').1,fun H' e=>?_,?_⟩
    ·simp only [e];exact h'
    ·rintro G c ⟨b,sz,hg,_⟩;exact some_no hg
   ·cases h'
 | b2s a =>
   have h':eB2s a ρ H=some v:=h
   unfold eB2s at h'
   show (∀ H',eB2s a ρ H'=some v)∨∃ id,id<HB∧(∀ H':HT,hget H' id=hget H id→eB2s a ρ H'=some v)∧∀ G c,V.ok G (a.get ρ) c→G id≠none
   unfold eB2s
   generalize a.get ρ=av at h'
   split at h'
   ·exact .inl fun _=>h'
   ·rename_i id off len cap es
    refine .inr ⟨id,jaa (jab h').1,fun H' e=>?_,?_⟩
    ·simp only [e];exact h'
    ·rintro G c ⟨b,sz,hg,_⟩;exact some_no hg
   ·rename_i id off len cap es
    refine .inr ⟨id,jaa (jab h').1,fun H' e=>?_,?_⟩
    ·simp only [e];exact h'
    ·rintro G c ⟨b,sz,_,hg,_⟩;exact some_no hg
   ·cases h'
 | lku ik ok z a k =>
   have h':eLku ik ok z a k ρ H=some v:=h
   unfold eLku at h'
   show (∀ H',eLku ik ok z a k ρ H'=some v)∨∃ id,id<HB∧(∀ H':HT,hget H' id=hget H id→eLku ik ok z a k ρ H'=some v)∧∀ G c,V.ok G (a.get ρ) c→G id≠none
   unfold eLku
   generalize a.get ρ=av at h'
   generalize keyOk ik (k.get ρ)=kv at h'
   split at h'
   ·exact .inl fun _=>h'
   ·rename_i x id
    refine .inr ⟨id,jaa (jab h').1,fun H' e=>?_,?_⟩
    ·simp only [e];exact h'
    ·rintro G c ⟨b,sz,hg,_⟩;exact some_no hg
   ·cases h'
 | lenm a =>
   have h':eLenm a ρ H=some v:=h
   unfold eLenm at h'
   show (∀ H',eLenm a ρ H'=some v)∨∃ id,id<HB∧(∀ H':HT,hget H' id=hget H id→eLenm a ρ H'=some v)∧∀ G c,V.ok G (a.get ρ) c→G id≠none
   unfold eLenm
   generalize a.get ρ=av at h'
   split at h'
   ·exact .inl fun _=>h'
   ·rename_i id
    refine .inr ⟨id,jaa (jab h').1,fun H' e=>?_,?_⟩
    ·simp only [e];exact h'
    ·rintro G c ⟨b,sz,hg,_⟩;exact some_no hg
   ·cases h'
theorem boE_eq {x y:Bool} (h:boE x y=true):x=y:=by cases x<;>cases y<;>first | rfl | cases h
theorem jae {x y:Nat} (h:Nat.beq x y=true):x=y:=Nat.eq_of_beq_eq_true h
theorem scEq_eq {x y:Sc} (h:scEq x y=true):x=y:=by
 unfold scEq at h
 split at h
 ·rw [boE_eq h]
 ·rw [Bool.and_eq_true,jem,beq_iff_eq] at h
  rw [kIx_inj h.1,h.2]
 ·rw [Bool.and_eq_true] at h;rw [jae h.1,jae h.2]
 ·rfl
 ·rw [Bool.and_eq_true] at h;rw [jae h.1,jae h.2]
 ·rfl
 ·simp only [Bool.and_eq_true] at h;rw [jae h.1.1,jae h.1.2,jae h.2.1,jae h.2.2.1,jae h.2.2.2]
 ·simp only [Bool.and_eq_true] at h;rw [jae h.1.1,jae h.1.2,jae h.2.1,jae h.2.2.1,jae h.2.2.2]
 ·rfl
 ·rw [jae h]
 ·rfl
 ·rfl
 ·cases h
theorem scsEq_eq:∀ {xs ys:List Sc},scsEq xs ys=true→xs=ys
 | [],[],_=>rfl
 | [],_::_,h=>by cases h
 | _::_,[],h=>by cases h
 | x::xs,y::ys,h=>by
   have h:and (scEq x y) (scsEq xs ys)=true:=h
   rw [Bool.and_eq_true] at h
   rw [scEq_eq h.1,scsEq_eq h.2]
theorem vEq_eq {u v:V} (h:vEq u v=true):u=v:=by
 unfold vEq at h
 split at h
 ·rw [scEq_eq h]
 ·rw [scsEq_eq h]
 ·cases h
theorem same_ok {f:HT→Option V} {v:V}:∀ {k:Nat} {hs:List HT},same f v k hs=true→∀ j,j<k→∀ h,hs[j]? =some h→f h=some v
 | 0,hs,_,j,hj,h,_=>by omega
 | k+1,[],hq,j,hj,h,hh=>by simp at hh
 | k+1,h0::hs,hq,j,hj,h,hh=>by
   unfold same at hq
   split at hq
   ·rename_i u hu
    rw [Bool.and_eq_true] at hq
    cases j with
    | zero =>
      simp only [List.getElem?_cons_zero,Option.some.injEq] at hh
      rw [←hh,hu,vEq_eq hq.1]
    | succ j=>exact same_ok hq.2 j (by omega) h (by simpa using hh)
   ·cases hq
end
end Ev
end
section
namespace Ev
open Go.RowKit
noncomputable section
structure Tr (P:Program) (ops:Array Oper) (call:CallT) (π:List Nat) (st:Nat→St) (vs:Nat→V) (ef:Nat→Bool) (os:Nat→Oper):Prop where
 plc:∀ p,p<π.length→Plc P ops (pres ops.toList) call (π.getD p 0) (os p) (vs p) (ef p) (st p) (st (p+1))
 seen0:(st 0).seen=[]
 effs0:(st 0).effs=[]
 hs0:(st 0).hs=[]
 len:π.length=ops.size
 nd:π.Nodup
 all:∀ i,i<ops.size→i∈π
def EL (ef:Nat→Bool):Nat→List Nat
 | 0=>[]
 | p+1=>if ef p=true then p::EL ef p else EL ef p
theorem EL_s (ef:Nat→Bool) (p:Nat):EL ef (p+1)=if ef p=true then p::EL ef p else EL ef p:=rfl
theorem EL_at {ef:Nat→Bool}:∀ (p e:Nat),e<p→ef e=true→∃ l1 l2,EL ef p=l1++e::l2∧∀ x∈l1,e<x∧x<p∧ef x=true
 | 0,e,h,_=>by omega
 | p+1,e,h,he=>by
   by_cases q:e=p
   ·subst q
    exact ⟨[],EL ef e,by rw [EL_s,if_pos he];rfl,fun x hx=>by cases hx⟩
   ·obtain ⟨l1,l2,h1,h2⟩:=EL_at p e (by omega) he
    by_cases r:ef p=true
    ·refine ⟨p::l1,l2,by rw [EL_s,if_pos r,h1];rfl,fun x hx=>?_⟩
     rcases List.mem_cons.1 hx with rfl | hx
     ·exact ⟨by omega,by omega,r⟩
     ·obtain ⟨a,b,c⟩:=h2 x hx;exact ⟨a,by omega,c⟩
    ·refine ⟨l1,l2,by rw [EL_s,if_neg r];exact h1,fun x hx=>?_⟩
     obtain ⟨a,b,c⟩:=h2 x hx;exact ⟨a,by omega,c⟩
section
variable {P:Program} {ops:Array Oper} {call:CallT} {π:List Nat} {st:Nat→St} {vs:Nat→V} {ef:Nat→Bool} {os:Nat→Oper}
theorem Tr.pi_inj (T:Tr P ops call π st vs ef os) {p q:Nat} (hp:p<π.length) (hq:q<π.length) (h:π.getD p 0=π.getD q 0):p=q:=by
 rw [List.getD_eq_getElem?_getD,List.getD_eq_getElem?_getD,List.getElem?_eq_getElem hp,List.getElem?_eq_getElem hq] at h
 exact (List.getElem_inj T.nd).1 h
theorem Tr.place (T:Tr P ops call π st vs ef os) {i:Nat} (hi:i<ops.size):∃ p,p<π.length∧π.getD p 0=i:=by
 obtain ⟨p,hp,h⟩:=List.getElem_of_mem (T.all i hi)
 exact ⟨p,hp,by rw [List.getD_eq_getElem?_getD,List.getElem?_eq_getElem hp];exact h⟩
theorem Tr.mono1 (T:Tr P ops call π st vs ef os) (hcall:jbh P call) {p:Nat} (hp:p<π.length):(st p).n≤(st (p+1)).n:=by
 rcases (T.plc p hp).how with ⟨_,_,_,h,_⟩ | ⟨_,c,_,h,_⟩ | ⟨_,_,_,h⟩
 ·rw [h];exact Nat.le_refl _
 ·exact evO_mono hcall h
 ·rw [h];exact Nat.le_refl _
theorem Tr.mono (T:Tr P ops call π st vs ef os) (hcall:jbh P call) {p:Nat}:∀ {q:Nat},p≤q→q≤π.length→(st p).n≤(st q).n
 | 0,h,_=>by
   have:p=0:=by omega
   rw [this];exact Nat.le_refl _
 | q+1,h,hq=>by
   by_cases e:p=q+1
   ·rw [e];exact Nat.le_refl _
   ·exact Nat.le_trans (T.mono hcall (q:=q) (by omega) (by omega)) (T.mono1 hcall (by omega))
theorem Tr.nt (T:Tr P ops call π st vs ef os):∀ {p:Nat},p≤π.length→(st p).cx.nt=(st 0).cx.nt
 | 0,_=>rfl
 | p+1,h=>(T.plc p (by omega)).nt.trans (T.nt (p:=p) (by omega))
theorem Tr.W (T:Tr P ops call π st vs ef os):∀ {p:Nat},p≤π.length→(st p).cx.W=(st 0).cx.W
 | 0,_=>rfl
 | p+1,h=>(T.plc p (by omega)).W.trans (T.W (p:=p) (by omega))
theorem Tr.mem_seen (T:Tr P ops call π st vs ef os) {p':Nat}:∀ {p:Nat},p'<p→p≤π.length→π.getD p' 0∈(st p).seen
 | 0,h,_=>by omega
 | p+1,h,hp=>by
   rw [(T.plc p (by omega)).seen]
   by_cases e:p'=p
   ·rw [e];exact List.mem_cons_self ..
   ·exact List.mem_cons_of_mem _ (T.mem_seen (by omega) (by omega))
theorem Tr.effs (T:Tr P ops call π st vs ef os):∀ {p:Nat},p≤π.length→(st p).effs=(EL ef p).map fun x=>π.getD x 0
 | 0,_=>T.effs0
 | p+1,h=>by
   rw [(T.plc p (by omega)).effs,T.effs (p:=p) (by omega)]
   rw [EL_s]
   cases ef p<;>rfl
theorem Tr.hs (T:Tr P ops call π st vs ef os):∀ {p:Nat},p≤π.length→(st p).hs=(EL ef p).map fun x=>(st x).H
 | 0,_=>T.hs0
 | p+1,h=>by
   rw [(T.plc p (by omega)).hs,T.hs (p:=p) (by omega)]
   rw [EL_s]
   cases ef p<;>rfl
theorem Tr.bef (T:Tr P ops call π st vs ef os) {p' p:Nat} (h:p'<p) (hp:p<π.length):Waits ops (π.getD p 0) (π.getD p' 0) ∨
 (ef p=false∧(∀ t,(os p').dst=some t→t∉jes ops (os p))∧(∀ t,(os p).dst=some t→t∉jes ops (os p'))∧(∀ t,(os p').dst=some t→(os p).dst≠some t)):=by
 rcases jjw (T.plc p hp).bef _ (T.mem_seen h (Nat.le_of_lt hp)) with q | ⟨q1,q2⟩
 ·exact .inl (pres_ok q)
 ·exact .inr ⟨q1,meet_no (q2 _ (T.plc p' (by omega)).op)⟩
theorem chkO_l {k:Nat} {x:LO} {ρ:RT} {hs:List HT} {v:V} (h:chkO k (.l x) ρ hs v=true):∀ j,j<k→∀ h,hs[j]? =some h→evL x ρ h=some v:=by
 cases k with
 | zero=>intro j hj;omega
 | succ k=>exact fun j hj=>same_ok (f:=evL x ρ) h j hj
theorem Tr.look (T:Tr P ops call π st vs ef os) {p e:Nat} (hp:p<π.length) (he:e<p) (hee:ef e=true) {x:LO}
 (hc:chkO (((st p).effs.filter fun e=>not (bit ((pres ops.toList).getD (π.getD p 0) 0) e)).length) (.l x) (st p).ρ (st p).hs (vs p)=true)
 (hn:∀ y,e≤y→y<p→ef y=true→¬Waits ops (π.getD p 0) (π.getD y 0)):evL x (st p).ρ (st e).H=some (vs p):=by
 obtain ⟨l1,l2,h1,h2⟩:=EL_at p e he hee
 have hb:∀ y,y∈l1++[e]→(not (bit ((pres ops.toList).getD (π.getD p 0) 0) (π.getD y 0)))=true:=by
  intro y hy
  rw [Bool.not_eq_true']
  cases q:bit ((pres ops.toList).getD (π.getD p 0) 0) (π.getD y 0) with
  | false=>rfl
  | true =>
    rcases List.mem_append.1 hy with hy | hy
    ·obtain ⟨a,b,c⟩:=h2 y hy
     exact absurd (pres_ok q) (hn y (by omega) b c)
    ·rw [List.mem_singleton] at hy
     subst hy
     exact absurd (pres_ok q) (hn y (Nat.le_refl _) he hee)
 refine chkO_l hc l1.length ?_ _ ?_
 ·rw [T.effs (Nat.le_of_lt hp),h1,show l1++e::l2=(l1++[e])++l2 from by simp,List.map_append,List.filter_append,List.length_append,List.filter_eq_self.2]
  ·simp;omega
  ·intro z hz
   obtain ⟨y,hy,rfl⟩:=List.mem_map.1 hz
   exact hb y hy
 ·rw [T.hs (Nat.le_of_lt hp),h1]
  simp
def tvs (os:Nat→Oper) (vs:Nat→V) (tv:Nat→Option V):Nat→Nat→Option V
 | 0=>tv
 | p+1=>tput (os p).dst (vs p) (tvs os vs tv p)
theorem Tr.regv (T:Tr P ops call π st vs ef os) {tv:Nat→Option V} (h0:RegV (st 0).cx (st 0).ρ tv):∀ {p:Nat},p≤π.length→RegV (st p).cx (st p).ρ (tvs os vs tv p)
 | 0,_=>h0
 | p+1,h=>(T.plc p (by omega)).reg _ (T.regv h0 (p:=p) (by omega))
theorem jka {tv:Nat→Option V} {t p:Nat}:∀ {q:Nat},p≤q→(∀ j,p≤j→j<q→(os j).dst≠some t)→tvs os vs tv q t=tvs os vs tv p t
 | 0,h,_=>by
   have:p=0:=by omega
   rw [this]
 | q+1,h,hn=>by
   by_cases e:p=q+1
   ·rw [e]
   ·have ih:=jka (tv:=tv) (t:=t) (p:=p) (q:=q) (by omega) fun j a b=>hn j a (by omega)
    rw [←ih]
    show tput (os q).dst (vs q) (tvs os vs tv q) t=_
    unfold tput
    rw [if_neg (hn q (by omega) (by omega))]
theorem tvs_put {tv:Nat→Option V} {t p:Nat} (h:(os p).dst=some t):tvs os vs tv (p+1) t=some (vs p):=by
 show tput (os p).dst (vs p) (tvs os vs tv p) t=_
 unfold tput
 rw [if_pos h]
theorem Tr.still (T:Tr P ops call π st vs ef os) {p:Nat} (hl:p<π.length) (he:ef p=false) (id:Nat) (hid:¬((st p).n≤id∧id<(st (p+1)).n)):hp (st (p+1)).H id=hp (st p).H id:=by
 rcases (T.plc p hl).how with ⟨_,_,h,_,_⟩ | ⟨_,c,_,h,h2,_⟩ | ⟨_,_,h,_⟩
 ·rw [h]
 ·rw [he] at h2
  cases c with
  | p x=>obtain ⟨_,h,_⟩:=jcb h;rw [h]
  | l x=>obtain ⟨_,h,_⟩:=jcb h;rw [h]
  | a x =>
    obtain ⟨ob,_,_,h3,h4⟩:=jfn h
    rw [h4]
    unfold upd
    rw [if_neg (by omega)]
  | e x=>cases h2
  | cs f l=>cases h2
  | cd f l=>cases h2
 ·rw [h]
theorem Tr.stills (T:Tr P ops call π st vs ef os) (hcall:jbh P call) {k:Nat}:∀ {p:Nat},k≤p→p≤π.length→(∀ j,k≤j→j<p→ef j=false)→∀ id,¬((st k).n≤id∧id<(st p).n)→hp (st p).H id=hp (st k).H id
 | 0,h,_,_,id,_=>by
   have:k=0:=by omega
   rw [this]
 | p+1,h,hl,hn,id,hid=>by
   by_cases e:k=p+1
   ·rw [e]
   ·have m1:=T.mono1 hcall (p:=p) (by omega)
    have m2:=T.mono hcall (p:=k) (q:=p) (by omega) (by omega)
    rw [T.still (by omega) (hn p (by omega) (by omega)) id (by omega)]
    exact T.stills hcall (p:=p) (by omega) (by omega) (fun j a b=>hn j a (by omega)) id (by omega)
theorem Tr.whose (T:Tr P ops call π st vs ef os) {k id:Nat}:∀ {p:Nat},k≤p→p≤π.length→(st k).n≤id→id<(st p).n→∃ j,k≤j∧j<p∧(st j).n≤id∧id<(st (j+1)).n
 | 0,h,_,h1,h2=>by
   have:k=0:=by omega
   subst this;omega
 | p+1,h,hp,h1,h2=>by
   by_cases e:k=p+1
   ·subst e;omega
   ·by_cases q:id<(st p).n
    ·obtain ⟨j,a,b,c⟩:=T.whose (p:=p) (by omega) (by omega) h1 q
     exact ⟨j,a,by omega,c⟩
    ·exact ⟨p,by omega,by omega,by omega,h2⟩
end
end
end Ev
end
section
namespace Ev
open Go.RowKit
noncomputable section
def cut (nE:Nat) (G:Gh) (c:Nat):Gh:=fun id=>if c≤id∧id<nE then none else G id
section
variable {nE c c':Nat} {G G':Gh}
theorem cut_mono (h:c≤c'):Gh.le (cut nE G c) (cut nE G c'):=fun id x hx=>by
 unfold cut at hx ⊢
 split at hx
 ·cases hx
 ·rename_i q
  rw [if_neg (by omega)];exact hx
theorem cut_le (h:Gh.le G G'):Gh.le (cut nE G c) (cut nE G' c):=fun id x hx=>by
 unfold cut at hx ⊢
 split at hx
 ·cases hx
 ·rename_i q
  rw [if_neg q];exact h _ _ hx
theorem jek {id:Nat} {x:Nat×Nat} (h:cut nE G c id=some x):¬(c≤id∧id<nE)∧G id=some x:=by
 unfold cut at h
 split at h
 ·cases h
 ·rename_i q;exact ⟨q,h⟩
theorem cut_in {id:Nat} (h1:c≤id) (h2:id<nE):cut nE G c id=none:=if_pos ⟨h1,h2⟩
theorem cut_out {id:Nat} (h:¬(c≤id∧id<nE)):cut nE G c id=G id:=if_neg h
end
structure RL (nE:Nat) (G:Gh) (lev:Nat→Nat) (Hx:Hp) (w:World):Prop where
 ob:∀ id,Hx id≠.no→∃ b sz o,G id=some (b,sz)∧w.heap[b]? =some o∧ObOk (cut nE G (lev id)) sz (Hx id) o
 inj:∀ i j b si sj,Hx i≠.no→Hx j≠.no→G i=some (b,si)→G j=some (b,sj)→i=j
section
variable {nE c q:Nat} {G G1:Gh} {lev:Nat→Nat} {Hx Hs Hs':Hp} {w w':World}
theorem RL.lt (h:RL nE G lev Hx w) {id b sz:Nat} (hi:Hx id≠.no) (hg:G id=some (b,sz)):b<w.heap.size:=by
 obtain ⟨b',sz',o,h1,h2,_⟩:=h.ob id hi
 rw [hg] at h1;cases h1
 rcases Nat.lt_or_ge b w.heap.size with q | q
 ·exact q
 ·rw [Array.getElem?_eq_none q] at h2;cases h2
theorem RL.r (h:RL nE G lev Hx w) (hs:∀ id,Hs id≠.no→Hs id=Hx id∧¬(c≤id∧id<nE)∧lev id≤c):R (cut nE G c) Hs w:=by
 refine ⟨fun id hi=>?_,fun i j b si sj hi hj gi gj=>?_⟩
 ·obtain ⟨e,h2,h3⟩:=hs id hi
  rw [e] at hi ⊢
  obtain ⟨b,sz,o,q1,q2,q3⟩:=h.ob id hi
  exact ⟨b,sz,o,by rw [cut_out h2];exact q1,q2,q3.le (cut_mono h3)⟩
 ·have hi':Hx i≠.no:=by rw [←(hs i hi).1];exact hi
  have hj':Hx j≠.no:=by rw [←(hs j hj).1];exact hj
  exact h.inj i j b si sj hi' hj' (jek gi).2 (jek gj).2
def mG (c q:Nat) (G G1:Gh):Gh:=fun id=>if c≤id∧id<q then G1 id else G id
open Classical in
def mH (Hx Hs Hs':Hp):Hp:=fun id=>if Hs' id≠.no then Hs' id else if Hs id≠.no then .no else Hx id
open Classical in
def mL (c q:Nat) (Hs':Hp) (lev:Nat→Nat):Nat→Nat:=fun id=>if (c≤id∧id<q)∨Hs' id≠.no then q else lev id
open Classical in
theorem merge (hx:RL nE G lev Hx w) (hcq:c≤q) (hq:q≤nE) (hs:∀ id,Hs id≠.no→Hs id=Hx id∧¬(c≤id∧id<nE)∧lev id≤c) (hG:∀ id,c≤id→id<q→G id=none) (s:Stp (cut nE G c) Hs c w G1 Hs' q w') :
 RL nE (mG c q G G1) (mL c q Hs' lev) (mH Hx Hs Hs') w'∧Gh.le G (mG c q G G1)∧Gh.le G1 (cut nE (mG c q G G1) q)∧(∀ b,Foot (mG c q G G1) (mH Hx Hs Hs') b→Foot G Hx b∨w.heap.size≤b)∧(∀ b,Foot (cut nE G c) Hs b→Foot G Hx b):=by
 have hle:Gh.le G (mG c q G G1):=fun id x h=>by
  unfold mG
  split
  ·rename_i e;rw [hG id e.1 e.2] at h;cases h
  ·exact h
 have h1in:∀ id x,G1 id=some x→mG c q G G1 id=some x∧¬(q≤id∧id<nE):=fun id x h=>by
  unfold mG
  by_cases e:c≤id∧id<q
  ·rw [if_pos e];exact ⟨h,by omega⟩
  ·rw [if_neg e]
   rw [s.ext.2 id (by omega)] at h
   obtain ⟨a,b⟩:=jek h
   exact ⟨b,by omega⟩
 have hle1:Gh.le G1 (cut nE (mG c q G G1) q):=fun id x h=>by
  obtain ⟨a,b⟩:=h1in id x h
  rw [cut_out b];exact a
 have hfoot:∀ b,Foot (cut nE G c) Hs b→Foot G Hx b:=by
  rintro b ⟨id,sz,h1,h2⟩
  exact ⟨id,sz,by rw [←(hs id h1).1];exact h1,(jek h2).2⟩
 have old:∀ id,Hs' id=.no→mH Hx Hs Hs' id≠.no→Hs id=.no∧Hx id≠.no∧mH Hx Hs Hs' id=Hx id∧¬(c≤id∧id<q):=by
  intro id h1 h2
  have e1:mH Hx Hs Hs' id=if Hs id≠.no then .no else Hx id:=by unfold mH;rw [if_neg (fun q=>q h1)]
  by_cases e:Hs id=.no
  ·rw [e1,if_neg (fun q=>q e)] at h2
   refine ⟨e,h2,by rw [e1,if_neg (fun q=>q e)],fun r=>?_⟩
   obtain ⟨b,sz,o,q1,_⟩:=hx.ob id h2
   rw [hG id r.1 r.2] at q1;cases q1
  ·rw [e1,if_pos e] at h2;exact absurd rfl h2
 have oldFoot:∀ id b sz,Hs id=.no→Hx id≠.no→G id=some (b,sz)→¬Foot (cut nE G c) Hs b:=by
  rintro id b sz h1 h2 h3 ⟨i,si,h4,h5⟩
  have:=hx.inj id i b sz si h2 (by rw [←(hs i h4).1];exact h4) h3 (jek h5).2
  rw [this] at h1;exact h4 h1
 have new:∀ id,Hs' id≠.no→mH Hx Hs Hs' id=Hs' id∧mL c q Hs' lev id=q:=fun id h=>by
  unfold mH mL
  rw [if_pos h,if_pos (.inr h)];exact ⟨rfl,rfl⟩
 refine ⟨⟨fun id hi=>?_,fun i j b si sj hi hj gi gj=>?_⟩,hle,hle1,fun b hb=>?_,hfoot⟩
 ·by_cases e:Hs' id=.no
  ·obtain ⟨a1,a2,a3,a4⟩:=old id e hi
   obtain ⟨b,sz,o,q1,q2,q3⟩:=hx.ob id a2
   refine ⟨b,sz,o,hle _ _ q1,?_,?_⟩
   ·rw [s.fr.block b (hx.lt a2 q1) (oldFoot id b sz a1 a2 q1)];exact q2
   ·rw [a3]
    have:mL c q Hs' lev id=lev id:=by unfold mL;rw [if_neg (fun r=>r.elim a4 (fun r=>r e))]
    rw [this]
    exact q3.le (cut_le hle)
  ·obtain ⟨a1,a2⟩:=new id e
   obtain ⟨b,sz,o,q1,q2,q3⟩:=s.r.1 id e
   rw [a1,a2]
   exact ⟨b,sz,o,(h1in _ _ q1).1,q2,q3.le hle1⟩
 ·have gnew:∀ i b si,Hs' i≠.no→mG c q G G1 i=some (b,si)→G1 i=some (b,si):=fun i b si h g=>by
   obtain ⟨b',sz',o,q1,_⟩:=s.r.1 i h
   rw [(h1in _ _ q1).1] at g;cases g;exact q1
  have gold:∀ i b si,Hs' i=.no→mH Hx Hs Hs' i≠.no→mG c q G G1 i=some (b,si)→Hx i≠.no∧G i=some (b,si)∧¬Foot (cut nE G c) Hs b:=fun i b si h h' g=>by
   obtain ⟨a1,a2,a3,a4⟩:=old i h h'
   unfold mG at g
   rw [if_neg a4] at g
   exact ⟨a2,g,oldFoot i b si a1 a2 g⟩
  by_cases e:Hs' i=.no
  ·obtain ⟨a1,a2,a3⟩:=gold i b si e hi gi
   by_cases e':Hs' j=.no
   ·obtain ⟨b1,b2,b3⟩:=gold j b sj e' hj gj
    exact hx.inj i j b si sj a1 b1 a2 b2
   ·rcases s.ft b ⟨j,sj,e',gnew j b sj e' gj⟩ with r | r
    ·exact absurd r a3
    ·exact absurd (hx.lt a1 a2) (by omega)
  ·by_cases e':Hs' j=.no
   ·obtain ⟨b1,b2,b3⟩:=gold j b sj e' hj gj
    rcases s.ft b ⟨i,si,e,gnew i b si e gi⟩ with r | r
    ·exact absurd r b3
    ·exact absurd (hx.lt b1 b2) (by omega)
   ·exact s.r.2 i j b si sj e e' (gnew i b si e gi) (gnew j b sj e' gj)
 ·obtain ⟨id,sz,h1,h2⟩:=hb
  by_cases e:Hs' id=.no
  ·obtain ⟨a1,a2,a3,a4⟩:=old id e h1
   unfold mG at h2
   rw [if_neg a4] at h2
   exact .inl ⟨id,sz,a2,h2⟩
  ·obtain ⟨b',sz',o,q1,_⟩:=s.r.1 id e
   rw [(h1in _ _ q1).1] at h2;cases h2
   rcases s.ft b ⟨id,sz,e,q1⟩ with r | r
   ·exact .inl (hfoot b r)
   ·exact .inr r
end
structure Inv (π:List Nat) (st:Nat→St) (vs:Nat→V) (ef:Nat→Bool) (os:Nat→Oper) (tv:Nat→Option V) (nE:Nat) (G0:Gh) (H0:Hp) (w0:World) (df:List Deferred) (D:Nat→Prop) (k:Nat) (G:Gh) (lev:Nat→Nat) (Hx:Hp) (a:Act) (w:World):Prop where
 hk:k≤π.length
 pre:∀ p,p<k→D (π.getD p 0)
 eff:∀ p,k≤p→p<π.length→ef p=true→¬D (π.getD p 0)
 emp:∀ id,(st k).n≤id→id<nE→hp (st k).H id=.no
 h1:∀ id,¬((st k).n≤id∧id<nE)→Hx id=hp (st k).H id∧lev id≤(st k).n
 h2:∀ p,k≤p→p<π.length→D (π.getD p 0)→∀ id,(st p).n≤id→id<(st (p+1)).n→Hx id=hp (st (p+1)).H id∧lev id≤(st (p+1)).n
 h3:∀ p,k≤p→p<π.length→¬D (π.getD p 0)→∀ id,(st p).n≤id→id<(st (p+1)).n→Hx id=.no∧G id=none
 ext:Ext G0 G (st 0).n nE
 r:RL nE G lev Hx w
 reg:∀ p,p≤π.length→∀ t,t<a.tmps.size→∀ v,tvs os vs tv p t=some v→(∀ j,j<p→(os j).dst=some t→D (π.getD j 0))→(∀ j,p≤j→j<π.length→(os j).dst=some t→¬D (π.getD j 0))→V.ok (cut nE G (st p).n) v (a.tmps.getD t undef)
 fr:Fr (Foot G0 H0) w0 w
 ft:∀ b,Foot G Hx b→Foot G0 H0 b∨w0.heap.size≤b
 sz:a.tmps.size=(st 0).cx.nt
 dfr:a.defers=df
end
end Ev
end
section
namespace Ev
open Go.RowKit
noncomputable section
section
variable {P:Program} {ops:Array Oper} {call:CallT} {π:List Nat} {st:Nat→St} {vs:Nat→V} {ef:Nat→Bool} {os:Nat→Oper} {tv:Nat→Option V} {nE:Nat} {G0:Gh} {H0:Hp} {w0:World} {df:List Deferred} {D:Nat→Prop} {k:Nat} {G:Gh} {lev:Nat→Nat} {Hx:Hp} {a:Act} {w:World}
abbrev Dp (D:Nat→Prop) (π:List Nat) (p:Nat):Nat→Prop:=fun i=>D i∨i=π.getD p 0
theorem Inv.put_reg (I:Inv π st vs ef os tv nE G0 H0 w0 df D k G lev Hx a w) (T:Tr P ops call π st vs ef os) (hcall:jbh P call) {p:Nat} (hp:p<π.length) (hD:¬D (π.getD p 0)) (hcl:Closed ops D) {G':Gh} (hG:Gh.le G G') {cv:Value} (hv:V.ok (cut nE G' (st (p+1)).n) (vs p) cv) :
 ∀ p1,p1≤π.length→∀ t,t<(a.put (os p).dst cv).tmps.size→∀ v,tvs os vs tv p1 t=some v→(∀ j,j<p1→(os j).dst=some t→Dp D π p (π.getD j 0))→(∀ j,p1≤j→j<π.length→(os j).dst=some t→¬Dp D π p (π.getD j 0))→V.ok (cut nE G' (st p1).n) v ((a.put (os p).dst cv).tmps.getD t undef):=by
 intro p1 hp1 t ht v hv1 hw1 hw2
 rw [jbs] at ht
 by_cases e:(os p).dst=some t
 ·have hlt:p<p1:=Nat.lt_of_not_le fun q=>hw2 p q hp e (.inr rfl)
  have hno:∀ j,p+1≤j→j<p1→(os j).dst≠some t:=by
   intro j h1 h2 hd
   have hdj:D (π.getD j 0):=(hw1 j h2 hd).resolve_right fun q=>by
    have:=T.pi_inj (by omega) hp q;omega
   rcases T.bef (p':=p) (p:=j) (by omega) (by omega) with q | ⟨_,_,_,q⟩
   ·exact hD (hcl _ _ hdj q)
   ·exact q t e hd
  rw [jka (p:=p+1) hlt hno,tvs_put e] at hv1
  cases hv1
  rw [e,jcx ht ht,if_pos rfl]
  exact V.ok_le (cut_mono (T.mono hcall hlt hp1)) hv
 ·have hk:(a.put (os p).dst cv).tmps.getD t undef=a.tmps.getD t undef:=by
   cases hd:(os p).dst with
   | none=>rfl
   | some d =>
     by_cases q:d<a.tmps.size
     ·rw [jcx q ht,if_neg (fun r=>e (by rw [hd,r]))]
     ·show (a.tmps.setIfInBounds d cv).getD t undef=_
      rw [Array.setIfInBounds_eq_of_size_le (Nat.not_lt.1 q)]
  rw [hk]
  refine V.ok_le (cut_le hG) (I.reg p1 hp1 t ht v hv1 (fun j h1 h2=>?_) (fun j h1 h2 h3 q=>hw2 j h1 h2 h3 (.inl q)))
  exact (hw1 j h1 h2).resolve_right fun q=>e (by rw [←T.pi_inj (p:=j) (q:=p) (by omega) hp q];exact h2)
theorem Inv.opnd (I:Inv π st vs ef os tv nE G0 H0 w0 df D k G lev Hx a w) (T:Tr P ops call π st vs ef os) {p:Nat} (hp:p<π.length) (hD:¬D (π.getD p 0)) (hcl:Closed ops D) (hw:∀ j,Waits ops (π.getD p 0) j→D j) (h0:RegV (st 0).cx (st 0).ρ tv) :
 RegOk (cxR (st p).cx (jes ops (os p))) (cut nE G (st p).n) (st p).ρ a:=by
 have hn:a.tmps.size=(st p).cx.nt:=I.sz.trans (T.nt (Nat.le_of_lt hp)).symm
 refine (T.regv h0 (Nat.le_of_lt hp)).reg hn fun t v ht h1 h2=>I.reg p (Nat.le_of_lt hp) t (by omega) v h2 (fun j h3 h4=>?_) (fun j h3 h4 h5 h6=>?_)
 ·rcases T.bef h3 hp with q | ⟨_,q,_,_⟩
  ·exact hw _ q
  ·exact absurd ht (q t h4)
 ·by_cases e:j=p
  ·subst e;exact hD h6
  ·rcases T.bef (p':=p) (p:=j) (by omega) h4 with q | ⟨_,_,q,_⟩
   ·exact hD (hcl _ _ h6 q)
   ·exact q t h5 ht
theorem Inv.kp (I:Inv π st vs ef os tv nE G0 H0 w0 df D k G lev Hx a w) {p:Nat} (hD:¬D (π.getD p 0)):k≤p:=Nat.le_of_not_lt fun q=>hD (I.pre p q)
theorem Inv.same (I:Inv π st vs ef os tv nE G0 H0 w0 df D k G lev Hx a w) (T:Tr P ops call π st vs ef os) (hcall:jbh P call) {p:Nat} (hp:p<π.length) (hD:¬D (π.getD p 0)) (hcl:Closed ops D) (he:ef p=false) (hn:(st (p+1)).n=(st p).n) {cv:Value} (hv:V.ok (cut nE G (st p).n) (vs p) cv) :
 Inv π st vs ef os tv nE G0 H0 w0 df (Dp D π p) k G lev Hx (a.put (os p).dst cv) w where
 hk:=I.hk
 pre:=fun j h=>.inl (I.pre j h)
 eff:=fun j h1 h2 h3 h4=>h4.elim (I.eff j h1 h2 h3) fun q=>by rw [T.pi_inj h2 hp q,he] at h3;cases h3
 emp:=I.emp
 h1:=I.h1
 h2:=fun j h1 h2 h3 id h4 h5=>by
  rcases h3 with h3 | h3
  ·exact I.h2 j h1 h2 h3 id h4 h5
  ·rw [T.pi_inj h2 hp h3,hn] at h5;rw [T.pi_inj h2 hp h3] at h4;omega
 h3:=fun j h1 h2 h3 id h4 h5=>I.h3 j h1 h2 (fun q=>h3 (.inl q)) id h4 h5
 ext:=I.ext
 r:=I.r
 reg:=I.put_reg T hcall hp hD hcl (Gh.le.refl G) (by rw [hn];exact hv)
 fr:=I.fr
 ft:=I.ft
 sz:=by rw [jbs];exact I.sz
 dfr:=(jch _ _).trans I.dfr
theorem Tr.apart (T:Tr P ops call π st vs ef os) (hcall:jbh P call) {p j id:Nat} (hp:p<π.length) (hj:j<π.length) (hne:j≠p) (h1:(st j).n≤id) (h2:id<(st (j+1)).n):¬((st p).n≤id∧id<(st (p+1)).n):=by
 rintro ⟨h3,h4⟩
 rcases Nat.lt_or_gt_of_ne hne with q | q
 ·have:=T.mono hcall (p:=j+1) (q:=p) q (by omega);omega
 ·have:=T.mono hcall (p:=p+1) (q:=j) q (by omega);omega
theorem Inv.made (I:Inv π st vs ef os tv nE G0 H0 w0 df D k G lev Hx a w) (T:Tr P ops call π st vs ef os) (hcall:jbh P call) (hE:nE=(st π.length).n) {p:Nat} (hp:p<π.length) (hD:¬D (π.getD p 0)) (hcl:Closed ops D) (he:ef p=false)
 {Hs':Hp} (h1:∀ id,((st p).n≤id∧id<(st (p+1)).n→Hs' id=Ev.hp (st (p+1)).H id)∧(¬((st p).n≤id∧id<(st (p+1)).n)→Hs' id=.no)) {G1:Gh} {w':World} (s:Stp (cut nE G (st p).n) (fun _=>.no) (st p).n w G1 Hs' (st (p+1)).n w') {cv:Value} (hv:V.ok G1 (vs p) cv) :
 ∃ G' lev' Hx',Inv π st vs ef os tv nE G0 H0 w0 df (Dp D π p) k G' lev' Hx' (a.put (os p).dst cv) w':=by
 have hkp:=I.kp hD
 have m1:=T.mono hcall (p:=k) (q:=p) hkp (Nat.le_of_lt hp)
 have m2:=T.mono1 hcall hp
 have m3:(st (p+1)).n≤nE:=by rw [hE];exact T.mono hcall hp (Nat.le_refl _)
 obtain ⟨r1,r2,r3,r4,r5⟩:=merge I.r m2 m3 (fun id q=>absurd rfl q) (fun id q1 q2=>(I.h3 p hkp hp hD id q1 q2).2) s
 have hout:∀ id,¬((st p).n≤id∧id<(st (p+1)).n)→mH Hx (fun _=>.no) Hs' id=Hx id∧mL (st p).n (st (p+1)).n Hs' lev id=lev id∧mG (st p).n (st (p+1)).n G G1 id=G id:=by
  intro id q
  have e:=(h1 id).2 q
  refine ⟨?_,?_,if_neg q⟩
  ·unfold mH;rw [if_neg (fun r=>r e),if_neg (fun r=>r rfl)]
  ·unfold mL;rw [if_neg (fun r=>r.elim q fun r=>r e)]
 refine ⟨mG (st p).n (st (p+1)).n G G1,mL (st p).n (st (p+1)).n Hs' lev,mH Hx (fun _=>.no) Hs',?_⟩
 exact
  { hk:=I.hk
    pre:=fun j h=>.inl (I.pre j h)
    eff:=fun j h1 h2 h3 h4=>h4.elim (I.eff j h1 h2 h3) fun q=>by rw [T.pi_inj h2 hp q,he] at h3;cases h3
    emp:=I.emp
    h1:=fun id q=>by
     obtain ⟨o1,o2,_⟩:=hout id (by omega)
     rw [o1,o2];exact I.h1 id q
    h2:=fun j j1 j2 j3 id j4 j5=>by
     by_cases e:j=p
     ·subst e
      refine ⟨?_,?_⟩
      ·unfold mH
       by_cases q:Hs' id=.no
       ·rw [if_neg (fun r=>r q),if_neg (fun r=>r rfl),(I.h3 j j1 j2 hD id j4 j5).1,←(h1 id).1 ⟨j4,j5⟩];exact q.symm
       ·rw [if_pos q];exact (h1 id).1 ⟨j4,j5⟩
      ·unfold mL;rw [if_pos (.inl ⟨j4,j5⟩)];exact Nat.le_refl _
     ·obtain ⟨o1,o2,_⟩:=hout id (T.apart hcall hp j2 e j4 j5)
      rw [o1,o2]
      exact I.h2 j j1 j2 (j3.resolve_right fun q=>e (T.pi_inj j2 hp q)) id j4 j5
    h3:=fun j j1 j2 j3 id j4 j5=>by
     have e:j≠p:=fun e=>j3 (.inr (by rw [e]))
     obtain ⟨o1,_,o3⟩:=hout id (T.apart hcall hp j2 e j4 j5)
     rw [o1,o3]
     exact I.h3 j j1 j2 (fun q=>j3 (.inl q)) id j4 j5
    ext:=⟨I.ext.1.trans r2,fun id q=>by
     have m0:=T.mono hcall (p:=0) (q:=p) (Nat.zero_le _) (Nat.le_of_lt hp)
     rw [(hout id (by omega)).2.2];exact I.ext.2 id q⟩
    r:=r1
    reg:=I.put_reg T hcall hp hD hcl r2 (V.ok_le r3 hv)
    fr:=I.fr.trans s.fr fun j q1 q2=>(I.ft j (r5 j q2)).resolve_right (by omega)
    ft:=fun b q=>by
     rcases r4 b q with q | q
     ·exact I.ft b q
     ·exact .inr (Nat.le_trans I.fr.size q)
    sz:=by rw [jbs];exact I.sz
    dfr:=(jch _ _).trans I.dfr }
theorem Inv.full (I:Inv π st vs ef os tv nE G0 H0 w0 df D k G lev Hx a w) (T:Tr P ops call π st vs ef os) (hcall:jbh P call) (hE:nE=(st π.length).n) {p:Nat} (hp:p≤π.length) (hkp:k≤p) (hne:∀ j,k≤j→j<p→ef j=false) (id:Nat) :
 ((st p).n≤id→id<nE→Ev.hp (st p).H id=.no) ∧
 (¬((st p).n≤id∧id<nE)→(Hx id=Ev.hp (st p).H id∧lev id≤(st p).n)∨(G id=none∧Hx id=.no∧∃ j,k≤j∧j<p∧¬D (π.getD j 0))):=by
 have m1:=T.mono hcall hkp hp
 have m3:(st p).n≤nE:=by rw [hE];exact T.mono hcall hp (Nat.le_refl _)
 refine ⟨fun q1 q2=>?_,fun q=>?_⟩
 ·rw [T.stills hcall hkp hp hne id (by omega)]
  exact I.emp id (by omega) q2
 ·by_cases q2:(st k).n≤id∧id<nE
  ·obtain ⟨j,j1,j2,j3,j4⟩:=T.whose (k:=k) (p:=p) hkp hp q2.1 (by omega)
   by_cases hd:D (π.getD j 0)
   ·obtain ⟨a1,a2⟩:=I.h2 j j1 (by omega) hd id j3 j4
    have m4:=T.mono hcall (p:=j+1) (q:=p) j2 hp
    refine .inl ⟨?_,by omega⟩
    rw [a1,T.stills hcall (k:=j+1) (p:=p) j2 hp (fun i a b=>hne i (by omega) b) id (by omega)]
   ·obtain ⟨a1,a2⟩:=I.h3 j j1 (by omega) hd id j3 j4
    exact .inr ⟨a2,a1,j,j1,j2,hd⟩
  ·obtain ⟨a1,a2⟩:=I.h1 id q2
   refine .inl ⟨?_,by omega⟩
   rw [a1,T.stills hcall hkp hp hne id (by omega)]
theorem Inv.eff' (I:Inv π st vs ef os tv nE G0 H0 w0 df D k G lev Hx a w) (T:Tr P ops call π st vs ef os) (hcall:jbh P call) (hE:nE=(st π.length).n) {p:Nat} (hp:p<π.length) (hD:¬D (π.getD p 0)) (hcl:Closed ops D) (hw:∀ j,Waits ops (π.getD p 0) j→D j) (he:ef p=true) :
 R (cut nE G (st p).n) (Ev.hp (st p).H) w∧∀ G1 w',Stp (cut nE G (st p).n) (Ev.hp (st p).H) (st p).n w G1 (Ev.hp (st (p+1)).H) (st (p+1)).n w'→∀ cv,V.ok G1 (vs p) cv →
  ∃ k' G' lev' Hx',Inv π st vs ef os tv nE G0 H0 w0 df (Dp D π p) k' G' lev' Hx' (a.put (os p).dst cv) w':=by
 have hkp:=I.kp hD
 have hall:∀ j,j<p→D (π.getD j 0):=fun j h=>by
  rcases T.bef h hp with q | ⟨q,_⟩
  ·exact hw _ q
  ·rw [he] at q;cases q
 have hne:∀ j,k≤j→j<p→ef j=false:=fun j h1 h2=>by
  cases q:ef j with
  | false=>rfl
  | true=>exact absurd (hall j h2) (I.eff j h1 (by omega) q)
 have m1:=T.mono hcall (p:=k) (q:=p) hkp (Nat.le_of_lt hp)
 have m2:=T.mono1 hcall hp
 have m3:(st (p+1)).n≤nE:=by rw [hE];exact T.mono hcall hp (Nat.le_refl _)
 have hf:=I.full T hcall hE (Nat.le_of_lt hp) hkp hne
 have hf1:∀ id,¬((st p).n≤id∧id<nE)→Hx id=Ev.hp (st p).H id∧lev id≤(st p).n:=fun id q=>by
  rcases (hf id).2 q with q | ⟨_,_,j,_,j2,j3⟩
  ·exact q
  ·exact absurd (hall j j2) j3
 have hs:∀ id,Ev.hp (st p).H id≠.no→Ev.hp (st p).H id=Hx id∧¬((st p).n≤id∧id<nE)∧lev id≤(st p).n:=fun id q=>by
  have h1:¬((st p).n≤id∧id<nE):=fun r=>q ((hf id).1 r.1 r.2)
  exact ⟨(hf1 id h1).1.symm,h1,(hf1 id h1).2⟩
 refine ⟨I.r.r hs,fun G1 w' s cv hv=>?_⟩
 obtain ⟨r1,r2,r3,r4,r5⟩:=merge I.r m2 m3 hs (fun id q1 q2=>(I.h3 p hkp hp hD id q1 q2).2) s
 have hemp:∀ id,(st (p+1)).n≤id→id<nE→Ev.hp (st (p+1)).H id=.no:=fun id q1 q2=>by
  refine Classical.byContradiction fun q=>?_
  obtain ⟨b,sz,o,g,_⟩:=s.r.1 id q
  rw [s.ext.2 id (.inr q1),cut_in (by omega) q2] at g
  cases g
 have hout:∀ id,(st (p+1)).n≤id→id<nE→mH Hx (Ev.hp (st p).H) (Ev.hp (st (p+1)).H) id=Hx id∧mL (st p).n (st (p+1)).n (Ev.hp (st (p+1)).H) lev id=lev id∧mG (st p).n (st (p+1)).n G G1 id=G id:=by
  intro id q1 q2
  have e:=hemp id q1 q2
  have e':=(hf id).1 (by omega) q2
  refine ⟨?_,?_,if_neg (by omega)⟩
  ·unfold mH;rw [if_neg (fun r=>r e),if_neg (fun r=>r e')]
  ·unfold mL;rw [if_neg (fun r=>r.elim (by omega) fun r=>r e)]
 refine ⟨p+1,mG (st p).n (st (p+1)).n G G1,mL (st p).n (st (p+1)).n (Ev.hp (st (p+1)).H) lev,mH Hx (Ev.hp (st p).H) (Ev.hp (st (p+1)).H),?_⟩
 exact
  { hk:=hp
    pre:=fun j h=>by
     by_cases e:j=p
     ·exact .inr (by rw [e])
     ·exact .inl (hall j (by omega))
    eff:=fun j h1 h2 h3 h4=>h4.elim (I.eff j (by omega) h2 h3) fun q=>by have:=T.pi_inj h2 hp q;omega
    emp:=hemp
    h1:=fun id q=>by
     refine ⟨?_,?_⟩
     ·unfold mH
      by_cases e:Ev.hp (st (p+1)).H id=.no
      ·rw [if_neg (fun r=>r e)]
       by_cases e':Ev.hp (st p).H id=.no
       ·rw [if_neg (fun r=>r e'),e]
        by_cases q3:(st p).n≤id∧id<nE
        ·exact (I.h3 p hkp hp hD id q3.1 (by omega)).1
        ·rw [(hf1 id q3).1];exact e'
       ·rw [if_pos e',e]
      ·rw [if_pos e]
     ·unfold mL
      by_cases e:((st p).n≤id∧id<(st (p+1)).n)∨Ev.hp (st (p+1)).H id≠.no
      ·rw [if_pos e];exact Nat.le_refl _
      ·rw [if_neg e]
       exact Nat.le_trans (hf1 id (fun r=>e (.inl (by omega)))).2 m2
    h2:=fun j j1 j2 j3 id j4 j5=>by
     have e:j≠p:=by omega
     have m4:=T.mono hcall (p:=p+1) (q:=j) j1 (Nat.le_of_lt j2)
     have m5:(st (j+1)).n≤nE:=by rw [hE];exact T.mono hcall j2 (Nat.le_refl _)
     obtain ⟨o1,o2,_⟩:=hout id (by omega) (by omega)
     rw [o1,o2]
     exact I.h2 j (by omega) j2 (j3.resolve_right fun q=>e (T.pi_inj j2 hp q)) id j4 j5
    h3:=fun j j1 j2 j3 id j4 j5=>by
     have m4:=T.mono hcall (p:=p+1) (q:=j) j1 (Nat.le_of_lt j2)
     have m5:(st (j+1)).n≤nE:=by rw [hE];exact T.mono hcall j2 (Nat.le_refl _)
     obtain ⟨o1,_,o3⟩:=hout id (by omega) (by omega)
     rw [o1,o3]
     exact I.h3 j (by omega) j2 (fun q=>j3 (.inl q)) id j4 j5
    ext:=⟨I.ext.1.trans r2,fun id q=>by
     have m0:=T.mono hcall (p:=0) (q:=p) (Nat.zero_le _) (Nat.le_of_lt hp)
     have:mG (st p).n (st (p+1)).n G G1 id=G id:=if_neg (by omega)
     rw [this];exact I.ext.2 id q⟩
    r:=r1
    reg:=I.put_reg T hcall hp hD hcl r2 (V.ok_le r3 hv)
    fr:=I.fr.trans s.fr fun j q1 q2=>(I.ft j (r5 j q2)).resolve_right (by omega)
    ft:=fun b q=>by
     rcases r4 b q with q | q
     ·exact I.ft b q
     ·exact .inr (Nat.le_trans I.fr.size q)
    sz:=by rw [jbs];exact I.sz
    dfr:=(jch _ _).trans I.dfr }
end
end
end Ev
end
section
namespace Ev
open Go.RowKit
noncomputable section
theorem cO_p {P:Program} {cx:Cx} {op:Op} {x:PO} (h:cO P cx op=some (.p x)):cP P cx op=some x:=by
 unfold cO at h
 split at h
 ·rename_i y hy;cases h;exact hy
 ·split at h
  ·cases h
  ·split at h
   ·cases h
   ·split at h
    ·cases h
    ·unfold cC at h
     split at h
     ·split at h<;>cases h
     ·split at h<;>cases h
     ·cases h
theorem cO_l {P:Program} {cx:Cx} {op:Op} {x:LO} (h:cO P cx op=some (.l x)):cL P cx op=some x:=by
 unfold cO at h
 split at h
 ·cases h
 ·split at h
  ·rename_i y hy;cases h;exact hy
  ·split at h
   ·cases h
   ·split at h
    ·cases h
    ·unfold cC at h
     split at h
     ·split at h<;>cases h
     ·split at h<;>cases h
     ·cases h
theorem least {Q:Nat→Prop}:∀ n,Q n→∃ e,e≤n∧Q e∧∀ j,j<e→¬Q j:=by
 intro n
 induction n using Nat.strongRecOn with
 | ind n ih =>
   intro hn
   by_cases h:∃ j,j<n∧Q j
   ·obtain ⟨j,h1,h2⟩:=h
    obtain ⟨e,a,b,c⟩:=ih j h1 h2
    exact ⟨e,by omega,b,c⟩
   ·exact ⟨n,Nat.le_refl _,hn,fun j h1 h2=>h ⟨j,h1,h2⟩⟩
theorem hp_z:hp .z=fun _=>.no:=by
 funext id
 unfold hp hget
 rw [jel];split<;>rfl
section
variable {P:Program} {ops:Array Oper} {call:CallT} {π:List Nat} {st:Nat→St} {vs:Nat→V} {ef:Nat→Bool} {os:Nat→Oper} {tv:Nat→Option V} {nE:Nat} {G0:Gh} {H0:Hp} {w0:World} {df:List Deferred} {D:Nat→Prop} {k:Nat} {G:Gh} {lev:Nat→Nat} {Hx:Hp} {a:Act} {w:World}
theorem Inv.looked (I:Inv π st vs ef os tv nE G0 H0 w0 df D k G lev Hx a w) (T:Tr P ops call π st vs ef os) (hcall:jbh P call) (hE:nE=(st π.length).n) {p:Nat} (hp:p<π.length) (hD:¬D (π.getD p 0)) (hw:∀ j,Waits ops (π.getD p 0) j→D j)
 (hr:RegOk (cxR (st p).cx (jes ops (os p))) (cut nE G (st p).n) (st p).ρ a) (hn:a.tmps.size=(st p).cx.nt) {x:LO} (hc:cO P (st p).cx (os p).op=some (.l x)) (hx:evL x (st p).ρ (st p).H=some (vs p))
 (hchk:chkO (((st p).effs.filter fun e=>not (bit ((pres ops.toList).getD (π.getD p 0) 0) e)).length) (.l x) (st p).ρ (st p).hs (vs p)=true) :
 ∃ cv,(execOp a.eval (os p)).run P w=.ok (.value cv) w∧V.ok (cut nE G (st p).n) (vs p) cv:=by
 have hkp:=I.kp hD
 have hc':cL P (cxR (st p).cx (jes ops (os p))) (os p).op=some x:=cO_l ((cO_keep (L:=jes ops (os p)) fun t ht=>List.mem_append_left _ ht).trans hc)
 obtain ⟨p',hp',hne,hev⟩:∃ p',p'≤p∧k≤p'∧(∀ j,k≤j→j<p'→ef j=false)∧evL x (st p).ρ (st p').H=some (vs p):=by
  by_cases h:∃ e,k≤e∧e<p∧ef e=true
  ·obtain ⟨n,hn⟩:=h
   obtain ⟨e,_,⟨e1,e2,e3⟩,e4⟩:=least (Q:=fun e=>k≤e∧e<p∧ef e=true) n hn
   refine ⟨e,by omega,e1,fun j j1 j2=>?_,T.look hp e2 e3 hchk fun y y1 y2 y3 y4=>I.eff y (by omega) (by omega) y3 (hw _ y4)⟩
   cases q:ef j with
   | false=>rfl
   | true=>exact absurd ⟨j1,by omega,q⟩ (e4 j j2)
  ·refine ⟨p,Nat.le_refl _,hkp,fun j j1 j2=>?_,hx⟩
   cases q:ef j with
   | false=>rfl
   | true=>exact absurd ⟨j,j1,j2,q⟩ h
 obtain ⟨hkp',hev⟩:k≤p'∧_:=⟨hne,hev⟩
 obtain ⟨hne,hev⟩:=hev
 have m1:=T.mono hcall (p:=p') (q:=p) hp' (Nat.le_of_lt hp)
 have hf:=I.full T hcall hE (p:=p') (by omega) hkp' hne
 obtain ⟨Hs,hHs⟩:=filt (fun id=>cut nE G (st p).n id≠none) (st p').H
 have hR:R (cut nE G (st p).n) (Ev.hp Hs) w:=by
  refine I.r.r fun id q=>?_
  rw [hHs id] at q ⊢
  by_cases hS:cut nE G (st p).n id≠none
  ·rw [if_pos hS] at q ⊢
   have hG:¬((st p).n≤id∧id<nE)∧G id≠none:=by
    cases hg:cut nE G (st p).n id with
    | none=>exact absurd hg hS
    | some y =>
      obtain ⟨a1,a2⟩:=jek hg
      exact ⟨a1,fun r=>by rw [r] at a2;cases a2⟩
   have h1:¬((st p').n≤id∧id<nE):=fun r=>q ((hf id).1 r.1 r.2)
   rcases (hf id).2 h1 with ⟨b1,b2⟩ | ⟨b1,_⟩
   ·exact ⟨b1.symm,hG.1,by omega⟩
   ·exact absurd b1 hG.2
  ·rw [if_neg hS] at q;exact absurd rfl q
 have hev':evL x (st p).ρ Hs=some (vs p):=by
  rcases evL_one hev with h | ⟨id,h1,h2,h3⟩
  ·exact h Hs
  ·refine h2 Hs ?_
   obtain ⟨y,y1,y2⟩:=cL_od hc'
   have hS:=h3 _ _ (jam y2 hr hn)
   have:=hHs id
   rw [if_pos hS,jas h1,jas h1] at this
   exact this
 exact okL hc' hev' hR hr hn
theorem Inv.unit_ok (G:Gh):V.ok G jhc undef:=V.undef_ok G
theorem Inv.step (I:Inv π st vs ef os tv nE G0 H0 w0 df D k G lev Hx a w) (T:Tr P ops call π st vs ef os) (hcall:jbh P call) (hE:nE=(st π.length).n) (h0:RegV (st 0).cx (st 0).ρ tv) {p:Nat} (hp:p<π.length) (hD:¬D (π.getD p 0)) (hcl:Closed ops D) (hw:∀ j,Waits ops (π.getD p 0) j→D j)
 {Q:Exit→Act→World→Prop} {K:Act→World→Prop} (hK:∀ a' w' k' G' lev' Hx',Inv π st vs ef os tv nE G0 H0 w0 df (Dp D π p) k' G' lev' Hx' a' w'→K a' w'):wpOp P ops Q (π.getD p 0) K a w:=by
 have hr:=I.opnd T hp hD hcl hw h0
 have hn:a.tmps.size=(st p).cx.nt:=I.sz.trans (T.nt (Nat.le_of_lt hp)).symm
 have X:=T.plc p hp
 have m2:=T.mono1 hcall hp
 have m3:(st (p+1)).n≤nE:=by rw [hE];exact T.mono hcall hp (Nat.le_refl _)
 have hsame:∀ {cv:Value},ef p=false→(st (p+1)).n=(st p).n→V.ok (cut nE G (st p).n) (vs p) cv→K (a.put (os p).dst cv) w:=fun he hn' hv=>hK _ _ _ _ _ _ (I.same T hcall hp hD hcl he hn' hv)
 have hguard:∀ r,Guard ops (st p) (os p) r→Region.wanted (os p) (yielded ops a.tmps)=r:=by
  rintro r (⟨h1,rfl⟩ | ⟨j,b,d,q,h1,h2,h3,h4,h5⟩)
  ·exact jdb h1 _
  ·refine jks (cx:=cxR (st p).cx (jes ops (os p))) h1 h2 h3 ?_ hr hn h5
   rw [cOr_keep ?_ h3];exact h4
   refine List.mem_append_right _ ?_
   rw [h1]
   show d∈((ops[j]?).bind (·.dst)).toList
   rw [h2];exact List.mem_singleton.2 rfl
 unfold wpOp
 rw [X.op]
 simp only []
 rcases X.how with ⟨h1,h2,h3,h4,x,q,h5,h6,h7⟩ | ⟨hg,c,hc,hev,hee,hchk⟩ | ⟨hg,hv,h3,h4⟩
 ·rw [if_pos (jdb h1 _)]
  refine .inl ?_
  unfold Oper.wp
  rw [run_mv h5 w]
  refine hsame h2 h4 ?_
  rw [h7]
  refine jam (cx:=cxR (st p).cx (jes ops (os p))) (x:=x) ?_ hr hn
  refine (cOd_keep (L:=jes ops (os p)) fun t e=>List.mem_append_left _ (operL_mem ?_)).trans h6
  ·rcases h5 with h5 | h5<;>(rw [h5,←e];simp [Op.operands])
 ·rw [if_pos (hguard _ hg)]
  refine .inl ?_
  have hck:cO P (cxR (st p).cx (jes ops (os p))) (os p).op=some c:=(cO_keep (L:=jes ops (os p)) fun t ht=>List.mem_append_left _ ht).trans hc
  have heff:isE c=true→Oper.wp P (os p) a w K Q:=by
   intro hic
   obtain ⟨r1,r2⟩:=I.eff' T hcall hE hp hD hcl hw (hee.trans hic)
   refine evO_ok hcall hck hev r1 hr hn (fun id q1 q2=>cut_in q1 (by omega)) fun cv G1 w1 s hv=>?_
   obtain ⟨k',G',lev',Hx',I'⟩:=r2 G1 w1 s cv hv
   exact hK _ _ _ _ _ _ I'
  cases c with
  | p x =>
    obtain ⟨h1,_,h3⟩:=jcb hev
    obtain ⟨cv,q1,q2⟩:=okP (cO_p hck) h1 hr hn w
    unfold Oper.wp
    rw [q1]
    exact hsame hee h3 q2
  | l x =>
    obtain ⟨h1,_,h3⟩:=jcb hev
    obtain ⟨cv,q1,q2⟩:=I.looked T hcall hE hp hD hw hr hn hc h1 hchk
    unfold Oper.wp
    rw [q1]
    exact hsame hee h3 q2
  | a x =>
    obtain ⟨ob,h1,h2,h3,h4⟩:=jfn hev
    have hev':evO (.a x) call (st p).ρ .z (st p).n=.ok (vs p) (hset .z (st p).n ob) (st (p+1)).n:=by
     show aRes .z (st p).n (evA x (st p).ρ (st p).n)=_
     rw [h1,h3]
     show cnd (Nat.blt (st p).n HB) (Rs.ok (vs p) (hset .z (st p).n ob) ((st p).n+1)) .no=_
     have:Nat.blt (st p).n HB=true:=by rw [jgi];exact decide_eq_true h2
     rw [this];rfl
    have hR:R (cut nE G (st p).n) (Ev.hp .z) w:=by
     rw [hp_z];exact ⟨fun id q=>absurd rfl q,fun i j b si sj q=>absurd rfl q⟩
    refine evO_ok hcall hck hev' hR hr hn (fun id q1 q2=>cut_in q1 (by omega)) fun cv G1 w1 s hv=>?_
    rw [hp_z] at s
    obtain ⟨G',lev',Hx',I'⟩:=I.made T hcall hE hp hD hcl hee (fun id=>by
     rw [jbv _ h2,h4]
     refine ⟨fun q=>?_,fun q=>?_⟩
     ·have e:id=(st p).n:=by omega
      unfold upd;rw [if_pos e,if_pos e]
     ·unfold upd;rw [if_neg (by omega),hp_z]) s hv
    exact hK _ _ _ _ _ _ I'
  | e x=>exact heff rfl
  | cs f l=>exact heff rfl
  | cd f l=>exact heff rfl
 ·rw [if_neg (by rw [hguard _ hg];exact Bool.false_ne_true)]
  cases he:ef p with
  | false=>exact hsame he h4 (by rw [hv];exact Inv.unit_ok _)
  | true =>
    obtain ⟨r1,r2⟩:=I.eff' T hcall hE hp hD hcl hw he
    obtain ⟨k',G',lev',Hx',I'⟩:=r2 _ w (by rw [h3,h4];exact Stp.refl r1) undef (by rw [hv];exact Inv.unit_ok _)
    exact hK _ _ _ _ _ _ I'
end
end
end Ev
end
end Go.Proofs.YtcchekmejnhlmaaGreat
