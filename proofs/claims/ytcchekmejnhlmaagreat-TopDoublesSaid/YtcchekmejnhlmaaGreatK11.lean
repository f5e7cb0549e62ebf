/- Joined texts. -/
import Derived.Test.YtcchekmejnhlmaaGreatK10
import Derived.Test.YtcchekmejnhlmaaGreatK5
import Derived.Test.YtcchekmejnhlmaaGreatK6
import Derived.Test.YtcchekmejnhlmaaGreatK9
import Derived.Test.YtcchekmejnhlmaaGreatKEvY
import Derived.KernelRfl
namespace Go.Proofs.YtcchekmejnhlmaaGreat
set_option linter.unusedVariables false
set_option maxHeartbeats 4000000
section
namespace Ev
open Go.RowKit
noncomputable section
def addS (fid:Nat) (f:List V→HT→Nat→Rs) (S:SumT):SumT:=fun i=>cnd (Nat.beq i fid) (some f) (S i)
def noSum:SumT:=fun _=>none
theorem noSum_ok {P:Program}:jis P noSum:=fun fid f h=>by cases h
theorem jbe {P:Program} {fid:Nat} {f:List V→HT→Nat→Rs} {S:SumT} (hf:FnOk P fid) (h:jbi P fid f) (hS:jis P S):jis P (addS fid f S):=by
 intro i g hi
 unfold addS at hi
 cases hb:Nat.beq i fid with
 | true =>
   rw [hb] at hi
   cases hi
   have e:=jae hb
   subst e
   intro args H n v H' n' hr
   exact ⟨hf,h args H n v H' n' hr⟩
 | false =>
   rw [hb] at hi
   exact hS i g hi
theorem follows:Tryz.prog.follows .mixedOrders=true:=by kernel_rfl
theorem noGor:Tryz.prog.funcs.all (fun fn=>!(fn.name== "runtime.NumGoroutine"))=true:=by kernel_rfl
theorem hgn:∀ (fid:Nat) (fn:Func),Tryz.prog.funcs[fid]? =some fn→fn.body.isNone=false→(fn.name== "runtime.NumGoroutine")=false:=fun fid fn h _=>by
 obtain ⟨h1,h2⟩:=Array.getElem?_eq_some_iff.1 h
 have:=Array.all_eq_true.1 noGor fid h1
 rw [h2] at this
 simpa using this
def S00:SumT:=addS 130 (sbW bT bU) <| addS 134 (sbS bT bU) <| addS 168 sSync <| addS 117 (sSort 181) <|
 addS 133 sHash <| addS 140 sPutNum <| addS 86 sBatch <| addS 144 jhk <| addS 87 sMayLog <| addS 324 sCmp <|
 addS 167 sPut8 <| addS 197 sPut8 <| addS 72 sRep noSum
theorem S00_ok:jis Tryz.prog S00 :=
 jbe ⟨_,Tryz.func130,by kernel_rfl,by kernel_rfl⟩ sbW_ok <|
 jbe ⟨_,Tryz.func134,by kernel_rfl,by kernel_rfl⟩ sbS_ok <|
 jbe ⟨_,Tryz.func168,by kernel_rfl,by kernel_rfl⟩ sSync_ok <|
 jbe ⟨_,Tryz.func117,by kernel_rfl,by kernel_rfl⟩ sSort_ok <|
 jbe ⟨_,Tryz.func133,by kernel_rfl,by kernel_rfl⟩ sHash_ok <|
 jbe ⟨_,Tryz.func140,by kernel_rfl,by kernel_rfl⟩ sPutNum_ok <|
 jbe ⟨_,Tryz.func86,by kernel_rfl,by kernel_rfl⟩ sBatch_ok <|
 jbe ⟨_,Tryz.func144,by kernel_rfl,by kernel_rfl⟩ sMayEntry_ok <|
 jbe ⟨_,Tryz.func87,by kernel_rfl,by kernel_rfl⟩ sMayLog_ok <|
 jbe ⟨_,Tryz.func324,by kernel_rfl,by kernel_rfl⟩ sCmp_ok <|
 jbe ⟨_,Tryz.func167,by kernel_rfl,by kernel_rfl⟩ sPut_ok <|
 jbe ⟨_,Tryz.func197,by kernel_rfl,by kernel_rfl⟩ sHigh_ok <|
 jbe ⟨_,Tryz.func72,by kernel_rfl,by kernel_rfl⟩ sRep_ok noSum_ok
theorem jcz {S:SumT} (hS:jis Tryz.prog S) (k:Nat):jbh Tryz.prog (jik kt S k):=callK_ok follows hgn kt_ok hS k
def okB (r:Rs):Bool:=Rs.rec false (fun v _ _=>V.rec (fun x=>Sc.rec false (fun b=>b) (fun _ _=>false) (fun _ _=>false) false (fun _ _=>false) false (fun _ _ _ _ _=>false) (fun _ _ _ _ _=>false) false false (fun _=>false) false (fun _ _=>false) false (fun _ _ _ _=>false) x) (fun _=>false) (fun _=>false) v) r
theorem okB_ok {r:Rs} (h:okB r=true):∃ H n,r=.ok (.c (.b true)) H n:=by
 cases r with
 | no=>cases h
 | ok v H n =>
   cases v with
   | c x =>
     cases x with
     | b b =>
       have h:b=true:=h
       subst h
       exact ⟨H,n,rfl⟩
     | _=>cases h
   | _=>cases h
def sTrue (args:List V) (H:HT) (n:Nat):Rs:=match args with
 | []=>.ok (.c (.b true)) H n
 | _=>.no
theorem sTrue_ok {P:Program} {call:CallT} (hcall:jbh P call) {fid n0 n1:Nat} {H1:HT} (h:call fid [] .z n0=.ok (.c (.b true)) H1 n1):jbi P fid sTrue:=by
 intro args H n v H' n' hr
 unfold sTrue at hr
 split at hr
 ·cases hr
  refine ⟨Nat.le_refl _,fun G w cargs hR ha hf=>?_⟩
  have ha':All2 (V.ok fun _=>none) [] cargs.toList:=by
   revert ha
   cases cargs.toList with
   | nil=>intro _;exact .nil
   | cons _ _=>intro q;cases q
  refine (drop_ok (n:=n) hcall h hR ha').mono ?_
  rintro e w' ⟨cv,G',rfl,hs,hv⟩
  exact ⟨cv,G,rfl,hs,hv⟩
 ·cases hr
end
end Ev
end
section
namespace Ev
open Go.RowKit
noncomputable section
def jig (k:Nat):List Nat:=[[6,7,12],[6,7,8,2],[7,9,11,2,10],[7,8,2,4],[0,2,3,5,6,7,12],[0,2],[0,2,3],[0],[0,1,3,13],[0,3,13],[0,2],[0,3,13],[0,4],[0,4],[2],[2],[2,14]].getD k []
theorem flds_N:∀ k,k<17→Mg.flds k=(jig k).map Int.ofNat:=by decide
def natsB:List Sc→List Nat→Bool
 | [],[]=>true
 | .i .i64 (.ofNat x)::xs,n::ns=>and (Nat.beq x n) (natsB xs ns)
 | _,_=>false
def fldR (ns:List Nat) (H:HT) (l:List E):Bool:=match l with
 | [.c (.sk id off len cap es),.c (.b true)]=>and (and (Nat.beq off 0) (and (Nat.beq len ns.length) (Nat.beq cap ns.length))) (match slRd 1 (.sk id off len cap es) H with | some xs=>natsB xs ns | none=>false)
 | _=>false
def fldC (ns:List Nat) (r:Rs):Bool:=match r with
 | .ok (.t l) H _=>fldR ns H l
 | _=>false
def fldK (k:Nat):Bool:=fldC (jig k) (jik kt noSum 20 81 [.c (.i .i64 (.ofNat k))] .z 0)
set_option maxRecDepth 100000 in
theorem fldK_all:((List.range 17).all fldK)=true:=by kernel_rfl
theorem natsB_ok {G:Gh}:∀ {xs:List Sc} {ns:List Nat} {vs:List Value},All2 (Sc.ok G) xs vs→natsB xs ns=true→vs=(ns.map Int.ofNat).map (Value.int .i64)
 | [],[],_,h,_=>by cases h;rfl
 | x::xs,[],_,h,hb=>by
   unfold natsB at hb
   split at hb
   ·cases ‹_::_=[]›
   ·cases ‹[]=_::_›
   ·cases hb
 | [],n::ns,_,h,hb=>by cases hb
 | x::xs,n::ns,_,.cons (b:=v) (m:=vs) h1 h2,hb=>by
   unfold natsB at hb
   split at hb
   ·rename_i e _;cases e
   ·rename_i x' xs' n' ns' e1 e2
    cases e1
    cases e2
    rw [Bool.and_eq_true] at hb
    rw [natsB_ok h2 hb.2,←jae hb.1]
    have h1:v=.int .i64 (.ofNat x'):=h1
    rw [h1];rfl
   ·cases hb
theorem jjp (k:Nat) (hk:k<17) (W:World):Calls Tryz.prog 81 #[.int .i64 (k:Int)] W (jjz W (Mg.flds k)):=by
 have hb:=List.all_eq_true.1 fldK_all k (List.mem_range.2 hk)
 unfold fldK fldC at hb
 split at hb
 ·rename_i l H n hc
  obtain ⟨_,_,hcall⟩:=jcz noSum_ok 20 _ _ _ _ _ _ _ hc
  refine (hcall (fun _=>none) W #[.int .i64 (k:Int)] (R_z _ _) (.cons rfl .nil) (fun _ _ _=>rfl)).mono ?_
  rintro e w' ⟨cv,G',rfl,s,hv⟩
  obtain ⟨⟨arr⟩,rfl,ha⟩:=hv
  unfold fldR at hb
  split at hb
  ·rename_i id off len cap es
   rw [Bool.and_eq_true,Bool.and_eq_true,Bool.and_eq_true] at hb
   obtain ⟨⟨b1,b2,b3⟩,b4⟩:=hb
   have b1:=jae b1
   have b2:=jae b2
   have b3:=jae b3
   subst b1
   split at b4
   ·rename_i xs hxs
    cases ha with
    | cons a1 ha =>
    cases ha with
    | cons a2 ha =>
    cases ha
    obtain ⟨b,sz,g1,g2,_⟩:∃ b sz,G' id=some (b,sz)∧_=Value.slice (some ⟨b,0,none⟩) len cap∧_:=a1
    have a2:_=Value.bool true:=a2
    obtain ⟨q1,q2⟩:=jab hxs
    obtain ⟨vs,k1,k2⟩:=jgr s.r (jaa q1) g1 q2
    have hvs:=natsB_ok k1 b4
    rw [g2,a2,b2,b3]
    refine ⟨b,?_,?_,⟨s.fr.os,s.fr.tape,s.fr.output,s.fr.size,fun j hj=>s.fr.block j hj foot_z⟩⟩
    ·rw [flds_N k hk,List.length_map]
    ·rw [flds_N k hk,List.length_map,←hvs,←b2];exact k2
   ·cases b4
  ·cases hb
 ·cases hb
def memN (j:Nat):List Nat→Bool
 | []=>false
 | x::xs=>cnd (Nat.beq x j) true (memN j xs)
theorem memN_iff {j:Nat}:∀ {l:List Nat},memN j l=true↔j∈l
 | []=>by simp [memN]
 | x::xs=>by
   unfold memN
   cases hb:Nat.beq x j with
   | true=>simp [jae hb]
   | false =>
     have:=Nat.ne_of_beq_eq_false hb
     simp only [cnd_false,List.mem_cons,memN_iff (l:=xs)]
     exact ⟨.inr,fun q=>q.resolve_left fun e=>this e.symm⟩
theorem jhv {k j:Nat} (hk:k<17):memN j (jig k)=true↔(j:Int)∈Mg.flds k:=by
 rw [memN_iff,flds_N k hk,List.mem_map]
 constructor
 ·intro h;exact ⟨j,h,rfl⟩
 ·rintro ⟨i,hi,e⟩
  have:i=j:=by have e:(i:Int)=(j:Int):=e;omega
  rw [←this];exact hi
def zI (x:Int):Bool:=Int.rec (fun n=>Nat.beq n 0) (fun _=>false) x
def cliB (x:Int):Bool:=Int.rec (fun n=>and (Nat.ble 100 n) (Nat.blt n 108)) (fun _=>false) x
def nodB (x:Int):Bool:=Int.rec (fun n=>Nat.blt n 7) (fun _=>false) x
def numJ (x:Int):Bool:=Int.rec (fun n=>Nat.ble n 2147483647) (fun n=>Nat.beq n 0) x
def codI (x:Int):Bool:=Int.rec (fun n=>Nat.ble n 9) (fun _=>false) x
def aggI (x:Int):Bool:=Int.rec (fun n=>Nat.ble n 4) (fun _=>false) x
theorem zI_ok {x:Int} (h:zI x=true):x=0:=by
 cases x with
 | ofNat n=>have:=jae (x:=n) (y:=0) h;rw [this];rfl
 | negSucc n=>cases h
theorem cliB_ok {x:Int} (h:cliB x=true):100≤x∧x<108:=by
 cases x with
 | ofNat n =>
   have h:and (Nat.ble 100 n) (Nat.blt n 108)=true:=h
   rw [Bool.and_eq_true] at h
   have h1:=jad h.1
   have h2:=jaa h.2
   rw [Int.ofNat_eq_natCast];omega
 | negSucc n=>cases h
theorem nodB_ok {x:Int} (h:nodB x=true):0≤x∧x<7:=by
 cases x with
 | ofNat n=>have:=jaa (a:=n) (b:=7) h;rw [Int.ofNat_eq_natCast];omega
 | negSucc n=>cases h
theorem numJ_ok {x:Int} (h:numJ x=true):-1≤x∧x≤2147483647:=by
 cases x with
 | ofNat n=>have:=jad (a:=n) (b:=2147483647) h;rw [Int.ofNat_eq_natCast];omega
 | negSucc n=>have:=jae (x:=n) (y:=0) h;rw [this];decide
theorem codI_ok {x:Int} (h:codI x=true):0≤x∧x≤9:=by
 cases x with
 | ofNat n=>have:=jad (a:=n) (b:=9) h;rw [Int.ofNat_eq_natCast];omega
 | negSucc n=>cases h
theorem aggI_ok {x:Int} (h:aggI x=true):0≤x∧x≤4:=by
 cases x with
 | ofNat n=>have:=jad (a:=n) (b:=4) h;rw [Int.ofNat_eq_natCast];omega
 | negSucc n=>cases h
def fldT (k j:Nat):Int→Bool:=cnd (memN j (jig k)) (cnd (Nat.beq j 8) codI (cnd (Nat.beq j 9) aggI (cnd (and (Nat.beq k 1) (Nat.beq j 2)) numJ (cnd (and (or (Nat.beq k 2) (Nat.beq k 3)) (or (Nat.beq j 2) (Nat.beq j 10))) smI numI)))) zI
theorem high_pos (j:Nat):0≤Tp.high j:=by unfold Tp.high;split<;>decide
theorem jko (k j:Nat):Mg.low k j≤0:=by unfold Mg.low;split<;>(try split)<;>decide
theorem fldT_ok {k j:Nat} (hk:k<17) {x:Int} (h:fldT k j x=true):((j:Int)∉Mg.flds k→x=0)∧Mg.low k j≤x∧x≤Tp.high j:=by
 unfold fldT at h
 cases hm:memN j (jig k) with
 | false =>
   rw [hm] at h
   have h0:=zI_ok h
   subst h0
   exact ⟨fun _=>rfl,jko k j,high_pos j⟩
 | true =>
   rw [hm] at h
   refine ⟨fun q=>absurd ((jhv hk).1 hm) q,?_⟩
   simp only [cnd_true] at h
   cases h8:Nat.beq j 8 with
   | true =>
     rw [h8] at h
     have e:=jae h8
     subst e
     have:=codI_ok h
     have l:=jko k 8
     exact ⟨by omega,this.2⟩
   | false =>
     rw [h8] at h
     simp only [cnd_false] at h
     cases h9:Nat.beq j 9 with
     | true =>
       rw [h9] at h
       have e:=jae h9
       subst e
       have:=aggI_ok h
       have l:=jko k 9
       exact ⟨by omega,this.2⟩
     | false =>
       rw [h9] at h
       simp only [cnd_false] at h
       rw [Tp.high_at j (Nat.ne_of_beq_eq_false h8) (Nat.ne_of_beq_eq_false h9)]
       cases hr:and (Nat.beq k 1) (Nat.beq j 2) with
       | true =>
         rw [hr] at h
         rw [Bool.and_eq_true] at hr
         have e1:=jae hr.1
         have e2:=jae hr.2
         subst e1
         subst e2
         exact numJ_ok h
       | false =>
         rw [hr] at h
         simp only [cnd_false] at h
         cases hs:and (or (Nat.beq k 2) (Nat.beq k 3)) (or (Nat.beq j 2) (Nat.beq j 10)) with
         | true =>
           rw [hs] at h
           have:=smI_ok h
           refine ⟨?_,this.2⟩
           unfold Mg.low
           split
           ·rename_i q
            rw [Bool.and_eq_false_iff] at hr
            rcases hr with hr | hr
            ·exact absurd q.1 (Nat.ne_of_beq_eq_false hr)
            ·exact absurd q.2 (Nat.ne_of_beq_eq_false hr)
           ·rw [Bool.and_eq_true,Bool.or_eq_true,Bool.or_eq_true] at hs
            rw [if_pos ⟨hs.1.imp jae jae,hs.2.imp jae jae⟩]
            exact this.1
         | false =>
           rw [hs] at h
           have:=jdk h
           have l:=jko k j
           exact ⟨by omega,this.2⟩
def fldL (k:Nat):Nat→List Sc→Bool
 | j,[]=>Nat.beq j 11
 | j,.i .i64 x::xs=>and (fldT k j x) (fldL k (Nat.add j 1) xs)
 | _,_=>false
theorem fldL_ok {G:Gh} {k:Nat}:∀ {xs:List Sc} {vs:List Value} {j:Nat},All2 (Sc.ok G) xs vs→fldL k j xs=true→∃ ns:List Int,vs=ns.map (Value.int .i64)∧ns.length+j=11∧∀ i (h:i<ns.length),fldT k (j+i) ns[i]=true
 | [],_,j,.nil,h=>⟨[],rfl,by have:=jae (x:=j) (y:=11) h;simp;exact this,fun i h=>by simp at h⟩
 | x::xs,_,j,.cons (b:=v) (m:=vs) h1 h2,h=>by
   have bad:fldL k j (x::xs)=false→∃ ns:List Int,v::vs=ns.map (Value.int .i64)∧ns.length+j=11∧∀ i (h:i<ns.length),fldT k (j+i) ns[i]=true:=fun q=>by rw [q] at h;cases h
   cases x with
   | i kk x' =>
     cases kk with
     | i64 =>
       have h:and (fldT k j x') (fldL k (Nat.add j 1) xs)=true:=h
       rw [Bool.and_eq_true] at h
       obtain ⟨ns,k1,k2,k3⟩:=fldL_ok h2 h.2
       have h1:v=.int .i64 x':=h1
       refine ⟨x'::ns,by rw [k1,h1];rfl,by have k2:ns.length+(j+1)=11:=k2;simp;omega,fun i hi=>?_⟩
       cases i with
       | zero=>exact h.1
       | succ i =>
         have hi':i<ns.length:=by simpa using hi
         have:=k3 i hi'
         show fldT k (j+(i+1)) ns[i]=true
         rw [show j+(i+1)=Nat.add j 1+i from by show _=j+1+i;omega]
         exact this
     | _=>exact bad rfl
   | _=>exact bad rfl
def nilO (x:Option (List Sc)):Bool:=match x with | some []=>true | _=>false
def mgS (k l m:Nat):Bool:=cnd (memN 11 (jig k)) (and (Nat.ble 1 l) (and (Nat.ble l 12) (nmB l m))) (Nat.beq l 0)
def mgBt (k:Nat) (x:Option (List Sc)):Bool:=match x with
 | some xs=>and (btB xs) (or (memN 12 (jig k)) (nilL xs))
 | none=>false
def mgR (k:Nat) (xs:List Sc) (H:HT):Bool:=match xs with
 | [.s l m,b,.i .i64 (.ofNat base),.s l2 m2,e,.s l3 m3]=>and (and (mgS k l m) (mgBt k (slRd 3 b H))) (and (and (lgB base l2 (slRd 5 e H) H) (or (memN 13 (jig k)) (and (Nat.beq base 0) (nilO (slRd 5 e H))))) (and (Nat.ble l3 65536) (or (memN 14 (jig k)) (Nat.beq l3 0))))
 | _=>false
def mgF (k:Nat):Int→Bool:=cnd (or (Nat.beq k 0) (Nat.beq k 2)) cliB nodB
def mgT (k:Nat):Int→Bool:=cnd (or (Nat.beq k 1) (Nat.beq k 3)) cliB nodB
def mgB (xs:List Sc) (H:HT):Bool:=match xs with
 | .i .i64 (.ofNat k)::.i .i64 fr::.i .i64 to::r=>and (and (Nat.blt k 17) (and (mgF k fr) (mgT k to))) (and (fldL k 0 (r.take 11)) (mgR k (r.drop 11) H))
 | _=>false
theorem who_ok {c d:Bool} (h:c=d) {x:Int} (hx:cnd c cliB nodB x=true):Tp.whoOk d x:=by
 subst h
 cases c with
 | true=>exact cliB_ok hx
 | false=>exact nodB_ok hx
theorem beqN (a b:Nat):Nat.beq a b=decide (a=b):=by
 cases h:Nat.beq a b with
 | true=>exact (decide_eq_true (jae h)).symm
 | false=>exact (decide_eq_false (Nat.ne_of_beq_eq_false h)).symm
theorem eleven_of (ns:List Int) (h:ns.length=11):∃ a b c d e f g h' i j k,ns=[a,b,c,d,e,f,g,h',i,j,k]:=by
 match ns,h with
 | [a,b,c,d,e,f,g,h',i,j,k],_=>exact ⟨a,b,c,d,e,f,g,h',i,j,k,rfl⟩
def sMayG (args:List V) (H:HT) (n:Nat):Rs:=match args with
 | [.a xs]=>cnd (mgB xs H) (.ok (.c (.b true)) H n) .no
 | _=>.no
theorem jgq {s:ByteArray} {l:Nat} (h:s.data.toList.length=l):s.size=l:=by rw [←h];exact (Array.length_toList (xs:=s.data)).symm
theorem str_empty {s:ByteArray} (h:s.data.toList.length=0):s=⟨#[]⟩:=by
 obtain ⟨⟨l⟩⟩:=s
 have:l=[]:=List.eq_nil_of_length_eq_zero h
 rw [this]
set_option maxHeartbeats 1000000 in
theorem sMayG_ok:jbi Tryz.prog 46 sMayG:=by
 intro args H n v H' n' h
 unfold sMayG at h
 split at h
 ·rename_i xs
  have q:=jai h
  clear h
  obtain ⟨hb,h⟩:=q
  cases h
  refine ⟨Nat.le_refl _,fun G w cargs hR ha hf=>?_⟩
  obtain ⟨c,rfl,⟨arr⟩,rfl,hc⟩:=jcp ha
  unfold mgB at hb
  split at hb
  ·rename_i k fr to r
   cases hc with
   | cons c1 hc =>
   cases hc with
   | cons c2 hc =>
   cases hc with
   | cons c3 hc =>
   rename_i v1 v2 v3 us
   obtain rfl:v1=Value.int .i64 (k:Int):=c1
   obtain rfl:v2=Value.int .i64 fr:=c2
   obtain rfl:v3=Value.int .i64 to:=c3
   rw [Bool.and_eq_true,Bool.and_eq_true,Bool.and_eq_true,Bool.and_eq_true] at hb
   obtain ⟨⟨b1,b2,b3⟩,b4,b5⟩:=hb
   have hk:=jaa b1
   obtain ⟨ns,n1,n2,n3⟩:=fldL_ok (hc.take 11) b4
   obtain ⟨f0,f1,f2,f3,f4,f5,f6,f7,f8,f9,f10,rfl⟩:=eleven_of ns (by omega)
   have hd:=hc.drop 11
   have hus:us=us.take 11++us.drop 11:=(List.take_append_drop ..).symm
   unfold mgR at b5
   split at b5
   ·rename_i l m b base l2 m2 e l3 m3 hr
    rw [hr] at hd
    generalize us.drop 11=ds at hd hus
    cases hd with
    | cons d1 hd =>
    cases hd with
    | cons d2 hd =>
    cases hd with
    | cons d3 hd =>
    cases hd with
    | cons d4 hd =>
    cases hd with
    | cons d5 hd =>
    cases hd with
    | cons d6 hd =>
    cases hd
    rename_i u1 u2 u3 u4 u5 u6
    rw [Bool.and_eq_true,Bool.and_eq_true,Bool.and_eq_true,Bool.and_eq_true,Bool.and_eq_true] at b5
    obtain ⟨⟨s1,s2⟩,⟨s3,s4⟩,s5,s6⟩:=b5
    obtain ⟨ser,rfl,ser1,ser2⟩:=d1
    obtain rfl:u3=Value.int .i64 (base:Int):=d3
    obtain ⟨snap,rfl,snap1,snap2⟩:=d4
    obtain ⟨txt,rfl,txt1,txt2⟩:=d6
    unfold mgBt at s2
    split at s2
    ·rename_i ys hys
     rw [Bool.and_eq_true] at s2
     obtain ⟨A,kk,cap,ws,rfl,w1,w2⟩:=jdf hR hys d2
     obtain ⟨ps,rfl,p1,p2,p3,p4⟩:=btB_ok w1 s2.1
     have hkk:kk=ps.length:=by have:=w2.1;rw [jcn] at this;omega
     subst hkk
     obtain ⟨A',cap',es,rfl,g1,g2,g3⟩:=lgB_ok hR (jgq snap1) s3 d5
     have hsn:snap.size≤65536:=by
      rw [jgq snap1]
      unfold lgB at s3
      split at s3
      ·simp only [Bool.and_eq_true] at s3;exact jad s3.1.2.1
      ·cases s3
     have hne:nilO (slRd 5 e H)=true→es.length=0:=fun q=>by
      unfold nilO at q
      split at q
      ·rename_i hz
       obtain ⟨A2,k2,cp2,zs,z1,z2,z3⟩:=jdf hR hz d5
       cases z2
       have h31:0=k2*5:=z3.1
       have e2:es.length=k2:=by injection z1
       omega
      ·cases q
     have hmem:∀ j:Nat,(j:Int)∉Mg.flds k→memN j (jig k)=false:=fun j q=>by
      cases hm:memN j (jig k) with
      | false=>rfl
      | true=>exact absurd ((jhv hk).1 hm) q
     have all:∀ j:Nat,j<11→((j:Int)∉Mg.flds k→Tp.Msg.fld ⟨(k:Int),fr,to,f0,f1,f2,f3,f4,f5,f6,f7,f8,f9,f10⟩ j=0)∧Mg.low k j≤Tp.Msg.fld ⟨(k:Int),fr,to,f0,f1,f2,f3,f4,f5,f6,f7,f8,f9,f10⟩ j∧Tp.Msg.fld ⟨(k:Int),fr,to,f0,f1,f2,f3,f4,f5,f6,f7,f8,f9,f10⟩ j≤Tp.high j:=by
      have at':∀ i (hi:i<11) (x:Int),[f0,f1,f2,f3,f4,f5,f6,f7,f8,f9,f10][i]'(by simpa using hi)=x→fldT k i x=true:=fun i hi x hx=>by
       have:=n3 i (by simpa using hi)
       rw [Nat.zero_add,hx] at this
       exact this
      intro j hj
      rcases (by omega:j=0∨j=1∨j=2∨j=3∨j=4∨j=5∨j=6∨j=7∨j=8∨j=9∨j=10) with rfl | rfl | rfl | rfl | rfl | rfl | rfl | rfl | rfl | rfl | rfl
      all_goals exact fldT_ok hk (at' _ (by omega) _ rfl)
     have hOk:Mg.Ok k ⟨(k:Int),fr,to,f0,f1,f2,f3,f4,f5,f6,f7,f8,f9,f10⟩ ser ps.length (base:Int) es.length txt:=by
      refine ⟨hk,rfl,who_ok ?_ b2,who_ok ?_ b3,fun j hj=>(all j hj).1,fun j hj=>(all j hj).2.1,fun j hj=>(all j hj).2.2,fun q=>?_,fun q=>?_,fun q=>?_,fun q=>?_,?_,fun q=>?_⟩
      ·unfold Mg.cliFrom;rw [beqN,beqN]
      ·unfold Mg.cliTo;rw [beqN,beqN]
      ·unfold mgS at s1
       rw [(jhv (j:=11) hk).2 q] at s1
       simp only [cnd_true,Bool.and_eq_true] at s1
       have g1:=jad s1.1
       have g2:=jad s1.2.1
       unfold Pt.nameB
       rw [Bool.and_eq_true,Bool.and_eq_true,decide_eq_true_eq,decide_eq_true_eq,jgq ser1]
       exact ⟨⟨g1,g2⟩,nmB_ok l _ ser1 (by rw [ser2];exact s1.2.2)⟩
      ·unfold mgS at s1
       rw [hmem 11 q] at s1
       have:=jae (x:=l) (y:=0) s1
       exact str_empty (by rw [ser1,this])
      ·rw [hmem 12 q] at s2
       have hn:nilL ys=true:=by simpa using s2.2
       unfold nilL at hn
       split at hn
       ·simp at p4;omega
       ·cases hn
      ·rw [hmem 13 q] at s4
       have hn:Nat.beq base 0=true∧nilO (slRd 5 e H)=true:=by simpa using s4
       refine ⟨by have:=jae hn.1;omega,hne hn.2⟩
      ·rw [jgq txt1];exact jad s5
      ·rw [hmem 14 q] at s6
       have hn:Nat.beq l3 0=true:=by simpa using s6
       exact str_empty (by rw [txt1];exact jae hn)
     have hus2:us=[f0,f1,f2,f3,f4,f5,f6,f7,f8,f9,f10].map (Value.int .i64)++[.string ser,.slice A ps.length cap,.int .i64 (base:Int),.string snap,.slice A' es.length cap',.string txt]:=by rw [hus,n1]
     rw [hus2]
     refine (jji (w:=w) k _ ser A cap ps (base:Int) snap A' cap' es txt hOk (jjp k hk) w2 p1 p2 (fun p hp=>(p3 p hp).2.2) g1 g2 (by unfold maxLen;omega) g3).mono ?_
     rintro e' w' ⟨rfl,hb'⟩
     exact ⟨_,G,rfl,jbj hR hb',rfl⟩
    ·cases s2
   ·cases b5
  ·cases hb
 ·cases h
def S0:SumT:=addS 46 sMayG S00
theorem S0_ok:jis Tryz.prog S0:=jbe ⟨_,Tryz.func46,by kernel_rfl,by kernel_rfl⟩ sMayG_ok S00_ok
end
end Ev
end
section
namespace Ev
open Go.RowKit
noncomputable section
set_option maxRecDepth 1000000
theorem awake_run:okB (jik kt S0 100 8 [] .z 0)=true:=by kernel_rfl
theorem awake_ok:jbi Tryz.prog 8 sTrue:=by
 obtain ⟨H,n,h⟩:=okB_ok awake_run
 exact sTrue_ok (jcz S0_ok 100) h
def S1:SumT:=addS 8 sTrue S0
theorem S1_ok:jis Tryz.prog S1:=jbe ⟨_,Tryz.func8,by kernel_rfl,by kernel_rfl⟩ awake_ok S0_ok
end
end Ev
end
section
namespace Ev
open Go.RowKit
noncomputable section
def kl (k:K):K:=K.rec .no (fun _=>.no) (fun _=>.no) (fun a _ _ _=>a) (fun _ _ _ _ _=>.no) (fun _ _ _=>.no) (fun _ _=>.no) (fun _=>.no) .no .no k
def kr (k:K):K:=K.rec .no (fun _=>.no) (fun _=>.no) (fun _ b _ _=>b) (fun _ _ _ _ _=>.no) (fun _ _ _=>.no) (fun _ _=>.no) (fun _=>.no) .no .no k
def kAt (j:Nat) (k:K):K:=kl (Nat.rec k (fun _ ih=>kr ih) j)
def kFrom (j:Nat) (k:K):K:=Nat.rec k (fun _ ih=>kr ih) j
end
end Ev
end
section
namespace Ev
open Go.RowKit
noncomputable section
section
variable {P:Program} {nt:Nat} {W:List Nat} {call:CallT} {H H':HT} {n n':Nat} {t t':T8 V} {ex:Ex}
theorem runs_k (hm:P.follows .mixedOrders=true) (hcall:jbh P call) (hlen:W.length≤64) (hnd:W.Nodup) {c:Code} {k:K} (hc:comp P nt W c=k) (h:runK call k t H n=.ok ex t' H' n'):Runs P nt W c t H n ex t' H' n':=by
 subst hc
 rw [runK_comp] at h
 exact run_ok hm hcall (drawn_ok hcall) hlen hnd c _ _ _ _ _ _ _ h
theorem sum_runs {wt:WT} {fid:Nat} {f:KF} (hf:jac P wt fid=some f) {args:List V} {t0:T8 V} {v:V} {H0:HT} {n0:Nat} (ha:Nat.ble args.length f.nt=true) (ht:jiq f.ar args .z=some t0) (hv:retE f.rs ex t' H' n'=.ok v H0 n0)
 (hq:∀ fn c,P.funcs[fid]? =some fn→fn.body=some c→comp P f.nt (tget 3 [] wt fid) c=f.body→(tget 3 [] wt fid).length≤64→(tget 3 [] wt fid).Nodup→Runs P f.nt (tget 3 [] wt fid) c t0 H n ex t' H' n') :
 n≤n0∧∀ G w (cargs:Array Value),R G (hp H) w→All2 (V.ok G) args cargs.toList→Free G n n0 →
  Calls P fid cargs w fun e w'=>∃ cv G',e=.returned cv∧Stp G (hp H) n w G' (hp H0) n0 w'∧V.ok G' v cv:=by
 unfold jac at hf
 split at hf
 ·rename_i g hg
  cases hf
  unfold cF at hg
  split at hg
  ·rename_i fn hfn
   split at hg
   ·rename_i c hc'
    generalize hW:tget 3 [] wt fid=W at hg hq
    unfold cFb at hg
    split at hg
    ·rename_i rs hrs
     cases hw:and (Nat.ble W.length 64) (noDup W) with
     | false=>rw [hw] at hg;cases hg
     | true =>
       rw [hw] at hg
       have hg:some _=some g:=hg
       cases hg
       rw [Bool.and_eq_true] at hw
       have hlen:W.length≤64:=Nat.le_of_ble_eq_true hw.1
       have hnd:=jkh hw.2
       have ha:args.length≤fn.ntmps:=Nat.le_of_ble_eq_true ha
       have ht0:jiq ((List.range (fn.params.size+fn.nfree)).map fun i=>ixW i W 0) args .z=some t0:=ht
       rw [List.range_eq_range'] at ht0
       obtain ⟨hal,hrg⟩:=jlc hlen hnd _ _ _ _ _ ht0
       obtain ⟨m,k⟩:=hq fn c hfn hc' rfl hlen hnd
       have hre:(∀ id,ex≠.ex id)∧retV rs ⟨t',[]⟩ H' n'=.ok v H0 n0:=by
        have h:retE rs ex t' H' n'=.ok v H0 n0:=hv
        cases ex with
        | ex id=>cases h
        | nx=>exact ⟨fun _ q=>(by cases q),h⟩
        | rt=>exact ⟨fun _ q=>(by cases q),h⟩
       have hn1:n0=n'∧H0=H':=by
        have h:=hre.2
        unfold retV at h
        split at h
        ·split at h
         ·cases h;exact ⟨rfl,rfl⟩
         ·cases h
        ·cases h
       obtain ⟨rfl,rfl⟩:=hn1
       refine ⟨m,fun G w cargs hR hca hfr=>calls_of_wp hfn hc' ?_⟩
       have hcs:cargs.size=args.length:=by rw [←Array.length_toList];exact hca.length.symm
       have hsz:(cargs++Array.replicate (fn.ntmps-cargs.size) undef).size=fn.ntmps:=by simp;omega
       refine k G _ w hR ⟨fun j h1 h2=>?_,fun t o q=>by cases q⟩ hsz hfr _ fun G' a' w' s r m' d=>?_
       ·have h1:j<W.length:=h1
        show V.ok G (rget ⟨t0,[]⟩ j) ((cargs++Array.replicate (fn.ntmps-cargs.size) undef).getD W[j] undef)
        rw [getD_app,hrg j h1,←Array.toArray_toList (xs:=cargs),Array.getD_eq_getD_getElem?,List.getElem?_toArray,←List.getD_eq_getElem?_getD]
        by_cases q:W[j]<args.length
        ·rw [if_pos (by omega)]
         exact jip hca W[j]
        ·rw [if_neg (by omega),List.getD_eq_getElem?_getD,List.getElem?_eq_none,Option.getD_none]
         ·rw [show rget ⟨T8.z,[]⟩ j=(V.t []) from jel _ _ _];exact V.undef_ok G
         ·rw [Array.length_toList];omega
       ·obtain ⟨_,_,cv,q1,q2⟩:=retV_ok (n:=n0) hrs hre.2 s.r r m'
        have hb:a'.defers=[]∧∃ v,(results fn a'.tmps).run P w'=.ok v w'∧∃ cv G',Ending.returned v=.returned cv∧Stp G (hp H) n w G' (hp H0) n0 w'∧V.ok G' _ cv:=⟨d,cv,q1,cv,G',rfl,s,q2⟩
        cases ex with
        | nx=>exact hb
        | rt=>exact hb
        | ex id=>exact absurd rfl (hre.1 id)
    ·cases hg
   ·cases hg
  ·cases hg
 ·cases hf
end
end
end Ev
end
end Go.Proofs.YtcchekmejnhlmaaGreat
