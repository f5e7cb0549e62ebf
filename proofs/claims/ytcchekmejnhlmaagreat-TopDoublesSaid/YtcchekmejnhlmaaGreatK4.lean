/- Joined texts. -/
import Derived.Test.YtcchekmejnhlmaaGreatK1
import Derived.Test.YtcchekmejnhlmaaGreatK3
import Derived.Test.YtcchekmejnhlmaaGreatKeys
import Derived.Test.YtcchekmejnhlmaaGreatProg
import Derived.Maps.RangeWalk
import Derived.Lib.FrozenHead2
import Derived.Laws.Externs
import Derived.Shelf.Strings.BuilderK
import Derived.Deep.RegionHeld3
import Derived.Laws.IdiomCopy
import Derived.Lib.AppendZerosOnto
import Derived.Lib.Overlaps
import Derived.Lib.SliceRun
import Derived.Deep.MidRow
import Derived.Laws.ResultCell
namespace Go.Proofs.YtcchekmejnhlmaaGreat
set_option linter.unusedVariables false
set_option maxHeartbeats 4000000
section
namespace Ev
open Go.RowKit
noncomputable section
theorem preOf_on {acc:List Nat} {o:Oper} {e:Edge} (he:e∈o.after) (hb:Region.binds .any e=true):bit (jiz acc o) e.on=true:=by
 unfold jiz
 have key:∀ (l:List Edge) (s:Nat),(bit s e.on=true∨e∈l)→bit (l.foldl (fun s e=>cnd (Region.binds .any e) (Nat.lor s (Nat.lor (Nat.pow 2 e.on) (acc.getD e.on 0))) s) s) e.on=true:=by
  intro l
  induction l with
  | nil=>intro s h;exact h.resolve_right fun q=>by cases q
  | cons x l ih =>
    intro s h
    refine ih _ ?_
    by_cases q:e∈l
    ·exact .inr q
    ·refine .inl ?_
     show bit (cnd (Region.binds .any x) (Nat.lor s (Nat.lor (Nat.pow 2 x.on) (acc.getD x.on 0))) s) e.on=true
     rcases h with h | h
     ·cases hx:Region.binds .any x with
      | false=>exact h
      | true =>
        rw [cnd_true,jgj]
        show (s ||| (2^x.on ||| acc.getD x.on 0)).testBit e.on=true
        rw [jgj] at h
        rw [Nat.testBit_or,h];rfl
     ·rcases List.mem_cons.1 h with h | h
      ·subst h
       rw [hb,cnd_true,jgj]
       show (s ||| (2^e.on ||| acc.getD e.on 0)).testBit e.on=true
       rw [Nat.testBit_or,Nat.testBit_or,Nat.testBit_two_pow_self]
       simp
      ·exact absurd h q
 exact key _ _ (.inr (Array.mem_toList_iff.2 he))
theorem pres_on {ops:Array Oper} {i:Nat} {o:Oper} (ho:ops[i]? =some o) {e:Edge} (he:e∈o.after) (hb:Region.binds .any e=true):bit ((pres ops.toList).getD i 0) e.on=true:=by
 have key:∀ (l done:List Oper) (acc:List Nat),done++l=ops.toList→acc.length=done.length→(∀ i o,i<acc.length→ops[i]? =some o→∀ e∈o.after,Region.binds .any e=true→bit (acc.getD i 0) e.on=true) →
  ∀ i o,i<ops.size→ops[i]? =some o→∀ e∈o.after,Region.binds .any e=true→bit ((l.foldl (fun acc o=>acc++[jiz acc o]) acc).getD i 0) e.on=true:=by
  intro l
  induction l with
  | nil =>
    intro done acc hd hl ha i o hi
    refine ha i o ?_
    rw [hl,←List.append_nil done,hd,Array.length_toList];exact hi
  | cons x l ih =>
    intro done acc hd hl ha
    refine ih (done++[x]) (acc++[jiz acc x]) (by simpa using hd) (by simp [hl]) fun k y hk hy e he hb=>?_
    have hx:ops[done.length]? =some x:=by
     rw [←Array.getElem?_toList,←hd];simp
    rw [List.getD_eq_getElem?_getD]
    by_cases q:k<acc.length
    ·rw [List.getElem?_append_left q,←List.getD_eq_getElem?_getD]
     exact ha k y q hy e he hb
    ·have hk':k=acc.length:=by simp at hk;omega
     subst hk'
     rw [hl,hx] at hy;cases hy
     rw [List.getElem?_append_right (Nat.le_refl _),Nat.sub_self]
     exact preOf_on he hb
 have hi:i<ops.size:=Nat.lt_of_not_le fun q=>by rw [Array.getElem?_eq_none q] at ho;cases ho
 exact key ops.toList [] [] rfl rfl (fun i o h=>by simp at h) i o hi ho e he hb
theorem preLt_ok:∀ {l:List Nat} {i:Nat},preLt l i=true→∀ k,k<l.length→l.getD k 0<2^(i+k)
 | [],i,_,k,hk=>by simp at hk
 | m::l,i,h,k,hk=>by
   have h:and (Nat.blt m (2^i)) (preLt l (i+1))=true:=h
   rw [Bool.and_eq_true] at h
   cases k with
   | zero=>exact jaa h.1
   | succ k =>
     have:=preLt_ok h.2 k (by simpa using hk)
     rw [show i+1+k=i+(k+1) from by omega] at this
     exact this
theorem bit_lt {m i j:Nat} (h:m<2^i) (hb:bit m j=true):j<i:=by
 refine Nat.lt_of_not_le fun q=>?_
 rw [jgj,Nat.testBit_lt_two_pow (Nat.lt_of_lt_of_le h (Nat.pow_le_pow_right (by decide) q))] at hb
 cases hb
theorem pres_len (l:List Oper):(pres l).length=l.length:=by
 have key:∀ (l:List Oper) (acc:List Nat),(l.foldl (fun acc o=>acc++[jiz acc o]) acc).length=acc.length+l.length:=by
  intro l
  induction l with
  | nil=>intro acc;rfl
  | cons o l ih=>intro acc;rw [List.foldl_cons,ih];simp;omega
 rw [pres,key];simp
theorem on_lt {ops:Array Oper} (h:preLt (pres ops.toList) 0=true) {i:Nat} {o:Oper} (ho:ops[i]? =some o) {e:Edge} (he:e∈o.after) (hb:Region.binds .any e=true):e.on<i:=by
 have hi:i<ops.size:=Nat.lt_of_not_le fun q=>by rw [Array.getElem?_eq_none q] at ho;cases ho
 have:=preLt_ok h i (by rw [pres_len,Array.length_toList];exact hi)
 rw [Nat.zero_add] at this
 exact bit_lt this (pres_on ho he hb)
theorem jht:∀ (n:Nat) (l:List Nat),l.Nodup→(∀ x∈l,x<n)→l.length≤n
 | 0,l,_,h=>by
   cases l with
   | nil=>exact Nat.le_refl _
   | cons x l=>exact absurd (h x (List.mem_cons_self ..)) (by omega)
 | n+1,l,hd,h=>by
   by_cases hn:n∈l
   ·have hp:=List.perm_cons_erase hn
    have hd':=(hp.nodup_iff.1 hd)
    rw [List.nodup_cons] at hd'
    have:=jht n (l.erase n) hd'.2 fun x hx=>by
     have h1:=h x (List.mem_of_mem_erase hx)
     have:x≠n:=fun e=>hd'.1 (e▸hx)
     omega
    rw [List.length_erase_of_mem hn] at this
    omega
   ·have:=jht n l hd fun x hx=>by
     have h1:=h x hx
     have:x≠n:=fun e=>hn (e▸hx)
     omega
    omega
def Don (listed:Array Bool) (i:Nat):Prop:=listed.getD i false=true
theorem don_lt {listed:Array Bool} {i:Nat} (h:Don listed i):i<listed.size:=Nat.lt_of_not_le fun q=>by
 unfold Don at h
 rw [Array.getD_eq_getD_getElem?,Array.getElem?_eq_none q] at h;cases h
theorem don_put {listed:Array Bool} {i:Nat} (hi:i<listed.size):Don (listed.setIfInBounds i true)=fun j=>Don listed j∨j=i:=by
 funext j
 unfold Don
 rw [Array.getD_eq_getD_getElem?,Array.getElem?_setIfInBounds,Array.getD_eq_getD_getElem?]
 by_cases e:i=j
 ·subst e;simp [hi]
 ·rw [if_neg e]
  exact propext ⟨.inl,fun h=>h.resolve_right fun q=>e q.symm⟩
theorem jho {ops:Array Oper} {listed:Array Bool} (hl:listed.size=ops.size) {i:Nat}:i∈Region.ready .any ops listed↔i<ops.size∧¬Don listed i∧∃ o,ops[i]? =some o∧∀ e∈o.after,Region.binds .any e=true→Don listed e.on:=by
 unfold Region.ready Don
 rw [List.mem_filter,List.mem_range,Bool.and_eq_true]
 refine and_congr_right fun hi=>and_congr ?_ ?_
 ·rw [Array.getD_eq_getD_getElem?,Array.getD_eq_getD_getElem?,Array.getElem?_eq_getElem (by omega)]
  simp
 ·rw [Array.getElem?_eq_getElem hi]
  simp only [Option.map_some,Option.getD_some,Option.some.injEq,exists_eq_left']
  rw [Array.all_eq_true']
  refine forall_congr' fun e=>forall_congr' fun _=>?_
  cases Region.binds .any e<;>simp
theorem cut_same {nE:Nat} {G:Gh} {c:Nat} (h:∀ id,c≤id→id<nE→G id=none):cut nE G c=G:=by
 funext id
 unfold cut
 split
 ·rename_i q;exact (h id q.1 q.2).symm
 ·rfl
theorem drawn_ok {P:Program} {call:CallT} (hcall:jbh P call):DrawnOk P call:=by
 intro ops cx l hc hx hen t H n t' H' n' he
 unfold cD at hc
 simp only [] at hc
 generalize hπ:sched (List.range ops.size) (pres ops.toList) (effIx ops.toList) 0 []=π at hc
 obtain ⟨hck,hc⟩:and (preLt (pres ops.toList) 0) (allIn ops.size π)=true∧cDs P ops (pres ops.toList) cx π [] []=some l:=by
  cases hb:and (preLt (pres ops.toList) 0) (allIn ops.size π) with
  | false=>rw [hb] at hc;cases hc
  | true=>rw [hb] at hc;exact ⟨rfl,hc⟩
 rw [Bool.and_eq_true] at hck
 obtain ⟨p1,p2,p3,p4⟩:=allIn_ok hck.2
 obtain ⟨st,vs,ef,os,q0,q1,q2,q3,q4⟩:=trace π ⟨cx,⟨t,[]⟩,H,n,[],[],[]⟩ l hc hx t' H' n' he
 have T:Tr P ops call π st vs ef os :=
  { plc:=fun p hp=>by
     rw [List.getD_eq_getElem?_getD,List.getElem?_eq_getElem hp]
     exact q4 p hp
    seen0:=by rw [q0]
    effs0:=by rw [q0]
    hs0:=by rw [q0]
    len:=p1
    nd:=p2
    all:=p4 }
 have e0n:(st 0).n=n:=by rw [q0]
 have e0H:(st 0).H=H:=by rw [q0]
 have e0c:(st 0).cx=cx:=by rw [q0]
 have e0r:(st 0).ρ=⟨t,[]⟩:=by rw [q0]
 have hnn:n≤n':=by rw [←e0n,←q3];exact T.mono hcall (Nat.zero_le _) (Nat.le_refl _)
 refine ⟨hnn,fun G a w hR hr hn hf Q hQ=>?_⟩
 have h0:RegV (st 0).cx (st 0).ρ (tv0 cx ⟨t,[]⟩):=by rw [e0c,e0r];exact RegV.start hx.nd hen
 have hemp:∀ id,n≤id→id<n'→hp H id=.no:=fun id h1 h2=>by
  refine Classical.byContradiction fun q=>?_
  obtain ⟨b,sz,o,g,_⟩:=hR.1 id q
  rw [hf id h1 h2] at g;cases g
 have hcut:∀ c,n≤c→cut n' G c=G:=fun c hc=>cut_same fun id h1 h2=>hf id (by omega) h2
 have hst:∀ p,p≤π.length→n≤(st p).n∧(st p).n≤n':=fun p hp=>by
  have a1:=T.mono hcall (p:=0) (q:=p) (Nat.zero_le _) hp
  have a2:=T.mono hcall (p:=p) (q:=π.length) hp (Nat.le_refl _)
  omega
 have I0:Inv π st vs ef os (tv0 cx ⟨t,[]⟩) n' G (hp H) w a.defers (Don (Array.replicate ops.size false)) 0 G (fun _=>n) (hp H) a w:=by
  have nod:∀ i,¬Don (Array.replicate ops.size false) i:=fun i h=>by
   unfold Don at h
   rw [Array.getD_eq_getD_getElem?,Array.getElem?_replicate] at h
   split at h<;>cases h
  exact
   { hk:=Nat.zero_le _
     pre:=fun p h=>by omega
     eff:=fun _ _ _ _=>nod _
     emp:=fun id h1 h2=>by rw [e0H];exact hemp id (by omega) h2
     h1:=fun id _=>by rw [e0H,e0n];exact ⟨rfl,Nat.le_refl _⟩
     h2:=fun p _ _ h=>absurd h (nod _)
     h3:=fun p _ hp _ id h1 h2=>by
      have a1:=hst p (Nat.le_of_lt hp)
      have a2:=hst (p+1) hp
      exact ⟨hemp id (by omega) (by omega),hf id (by omega) (by omega)⟩
     ext:=Ext.refl _ _ _
     r:=⟨fun id h=>by
      obtain ⟨b,sz,o,g1,g2,g3⟩:=hR.1 id h
      exact ⟨b,sz,o,g1,g2,by rw [hcut n (Nat.le_refl _)];exact g3⟩,hR.2⟩
     reg:=fun p hp t1 ht v hv hw _=>by
      rw [hcut _ (hst p hp).1]
      rw [jka (p:=0) (Nat.zero_le _) (fun j _ h1 h2=>nod _ (hw j h1 h2))] at hv
      exact tv0_ok hr ht hv
     fr:=Fr.refl _ _
     ft:=fun b=>.inl
     sz:=by rw [e0c];exact hn
     dfr:=rfl }
 have fin:∀ (D:Nat→Prop),(∀ i,i<ops.size→D i)→∀ k G1 lev Hx a1 w1,Inv π st vs ef os (tv0 cx ⟨t,[]⟩) n' G (hp H) w a.defers D k G1 lev Hx a1 w1→Q .normal a1 w1:=by
  intro D hD k G1 lev Hx a1 w1 I
  have hDp:∀ p,p<π.length→D (π.getD p 0):=fun p hp=>hD _ (by
   rw [List.getD_eq_getElem?_getD,List.getElem?_eq_getElem hp]
   exact p3 _ (List.getElem_mem hp))
  have hne:∀ j,k≤j→j<π.length→ef j=false:=fun j h1 h2=>by
   cases q:ef j with
   | false=>rfl
   | true=>exact absurd (hDp j h2) (I.eff j h1 h2 q)
  have hf':=I.full T hcall q3.symm (p:=π.length) (Nat.le_refl _) I.hk hne
  have hxe:∀ id,Hx id=hp (st π.length).H id∧lev id≤(st π.length).n:=fun id=>by
   rcases (hf' id).2 (by omega) with h | ⟨_,_,j,_,h2,h3⟩
   ·exact h
   ·exact absurd (hDp j h2) h3
  have hc0:∀ G2:Gh,cut n' G2 (st π.length).n=G2:=fun G2=>cut_same fun id h1 h2=>by omega
  have hRe:R G1 (hp H') w1:=by
   have:=I.r.r (c:=(st π.length).n) (Hs:=hp (st π.length).H) fun id _=>⟨(hxe id).1.symm,by omega,(hxe id).2⟩
   rw [hc0,q2] at this
   exact this
  refine hQ G1 a1 w1 ⟨?_,hRe,I.fr,fun b hb=>I.ft b ?_⟩ ⟨fun j h1 h2=>?_,fun _ _ h=>by cases h⟩ ?_ I.dfr
  ·have:=I.ext;rw [e0n] at this;exact this
  ·obtain ⟨id,sz,h1,h2⟩:=hb
   exact ⟨id,sz,by rw [(hxe id).1,q2];exact h1,h2⟩
  ·have hW:(st π.length).cx.W=cx.W:=by rw [T.W (Nat.le_refl _),e0c]
   have hnt:(st π.length).cx.nt=cx.nt:=by rw [T.nt (Nat.le_refl _),e0c]
   have hv:=T.regv h0 (p:=π.length) (Nat.le_refl _)
   have h1':j<(st π.length).cx.W.length:=by rw [hW];exact h1
   have eW:(st π.length).cx.W[j]=cx.W[j]:=by simp only [hW]
   have h2':cx.W[j]<a1.tmps.size:=h2
   have:=hv.w j h1' (by rw [eW,hnt];have:=I.sz;rw [e0c] at this;omega)
   rw [eW] at this
   have k1:=I.reg π.length (Nat.le_refl _) cx.W[j] h2' _ this (fun i hi _=>hDp i hi) (fun i h1 h2=>by omega)
   rw [hc0] at k1
   have e:rget (st π.length).ρ j=rget ⟨t',[]⟩ j:=by unfold rget;rw [q1]
   rw [e] at k1
   exact k1
  ·have:=I.sz;rw [e0c] at this;exact this
 have main:∀ fuel (listed:Array Bool) (a1:Act) (w1:World) (L:List Nat),listed.size=ops.size→L.Nodup→(∀ i,i∈L↔Don listed i)→L.length+fuel=ops.size→Closed ops (Don listed)→(∃ k G1 lev Hx,Inv π st vs ef os (tv0 cx ⟨t,[]⟩) n' G (hp H) w a.defers (Don listed) k G1 lev Hx a1 w1)→wpAny P .any ops Q fuel listed a1 w1:=by
  intro fuel
  induction fuel with
  | zero =>
    intro listed a1 w1 L hls hnd hmem hlen hcl ⟨k,G1,lev,Hx,I⟩
    have hall:∀ i,i<ops.size→Don listed i:=by
     intro i hi
     refine Classical.byContradiction fun q=>?_
     have h1:(i::L).Nodup:=List.nodup_cons.2 ⟨fun r=>q ((hmem i).1 r),hnd⟩
     have:=jht ops.size (i::L) h1 fun x hx=>by
      rcases List.mem_cons.1 hx with rfl | hx
      ·exact hi
      ·have:=don_lt ((hmem x).1 hx);omega
     simp at this;omega
    refine ⟨?_,fin _ hall _ _ _ _ _ _ I⟩
    refine List.eq_nil_iff_forall_not_mem.2 fun i hi=>?_
    obtain ⟨a2,a3,_⟩:=(jho hls).1 hi
    exact a3 (hall i a2)
  | succ fuel ih =>
    intro listed a1 w1 L hls hnd hmem hlen hcl ⟨k,G1,lev,Hx,I⟩
    refine ⟨fun hr0=>fin _ ?_ _ _ _ _ _ _ I,fun i hi=>?_⟩
    ·intro i
     induction i using Nat.strongRecOn with
     | ind i ihi =>
       intro hi
       refine Classical.byContradiction fun q=>?_
       have:i∈Region.ready .any ops listed:=(jho hls).2 ⟨hi,q,ops[i],Array.getElem?_eq_getElem hi,fun e he hb=>by
        have:=on_lt hck.1 (Array.getElem?_eq_getElem hi) he hb
        exact ihi _ this (by omega)⟩
       rw [hr0] at this;cases this
    ·obtain ⟨a2,a3,o,a4,a5⟩:=(jho hls).1 hi
     obtain ⟨p,hp,hpi⟩:=T.place a2
     subst hpi
     refine I.step T hcall q3.symm h0 hp a3 hcl (fun j hj=>jhb hcl a4 a5 hj) fun a' w' k' G' lev' Hx' I'=>?_
     have hi':π.getD p 0<listed.size:=by omega
     refine ih _ a' w' (π.getD p 0::L) (by rw [Array.size_setIfInBounds];exact hls) (List.nodup_cons.2 ⟨fun r=>a3 ((hmem _).1 r),hnd⟩) (fun j=>?_) (by simp;omega) ?_ ⟨k',G',lev',Hx',?_⟩
     ·rw [don_put hi',List.mem_cons,hmem j]
      exact or_comm
     ·rw [don_put hi']
      exact closed_put hcl a4 a5
     ·rw [don_put hi'];exact I'
 refine main ops.size _ a w [] (by simp) List.nodup_nil (fun i=>⟨fun h=>(by cases h),fun h=>?_⟩) (by simp) (fun i j h _=>?_) ⟨0,G,_,_,I0⟩
 ·exfalso
  unfold Don at h
  rw [Array.getD_eq_getD_getElem?,Array.getElem?_replicate] at h
  split at h<;>cases h
 ·exfalso
  unfold Don at h
  rw [Array.getD_eq_getD_getElem?,Array.getElem?_replicate] at h
  split at h<;>cases h
end
end Ev
end
section
namespace Ev
open Go.RowKit
noncomputable section
inductive K where
 | skip
 | s (l:List Ins)
 | d (l:List DIns)
 | seq (a b:K)
 | cond (o:Od) (a b:K)
 | blk (id:Nat) (a:K)
 | loop (a:K)
 | ex (id:Nat)
 | rt
 | no
def kReg (x:Option CR):K:=match x with | some (.s l)=>.s l | some (.d l)=>.d l | none=>.no
def kCond (x:Option Od) (a b:K):K:=match x with | some o=>.cond o a b | none=>.no
def comp (P:Program) (nt:Nat) (W:List Nat) (c:Code):K :=
 Code.rec (motive:=fun _=>K) .skip (fun _ ops draw=>kReg (cReg P nt W ops draw)) (fun _ _ a b=>.seq a b) (fun c _ _ a b=>kCond (cOd ⟨nt,W,[]⟩ c) a b) (fun id _ a=>.blk id a) (fun _ a=>.loop a)
  (fun _ _ _ _ _ _=>.no) (fun id=>.ex id) (fun _ a=>a) (fun _=>.skip) (fun _=>.no) .rt (fun _=>.no) c
def kCondR (o:Od) (x y:RunT) (t:T8 V) (H:HT) (n:Nat):Ot:=brV x y t H n (Od.get o ⟨t,[]⟩)
def runK (call:CallT) (k:K):RunT :=
 K.rec (motive:=fun _=>RunT) rSkip (rS call) (rD call) (fun _ _ a b=>rSeq a b) (fun o _ _ a b=>kCondR o a b) (fun id _ a=>rBlk id a) (fun _ a=>rLoop a) rEx rRt rNo k
theorem runK_comp (call:CallT) (P:Program) (nt:Nat) (W:List Nat) (c:Code):runK call (comp P nt W c)=run call P nt W c:=by
 induction c with
 | region id ops draw =>
   show runK call (kReg (cReg P nt W ops draw))=rReg' call (cReg P nt W ops draw)
   cases cReg P nt W ops draw with
   | none=>rfl
   | some x=>cases x<;>rfl
 | seq x y ihx ihy =>
   show rSeq (runK call (comp P nt W x)) (runK call (comp P nt W y))=rSeq (run call P nt W x) (run call P nt W y)
   rw [ihx,ihy]
 | cond c x y ihx ihy =>
   show runK call (kCond (cOd ⟨nt,W,[]⟩ c) (comp P nt W x) (comp P nt W y))=rCond' (cOd ⟨nt,W,[]⟩ c) (run call P nt W x) (run call P nt W y)
   rw [←ihx,←ihy]
   cases cOd ⟨nt,W,[]⟩ c<;>rfl
 | block id x ih =>
   show rBlk id (runK call (comp P nt W x))=rBlk id (run call P nt W x)
   rw [ih]
 | loop x ih =>
   show rLoop (runK call (comp P nt W x))=rLoop (run call P nt W x)
   rw [ih]
 | scope x ih=>exact ih
 | _=>rfl
structure KF where
 nt:Nat
 ar:List (Option Nat)
 rs:List RV
 body:K
def kF (P:Program) (f:CF):KF:=⟨f.nt,f.ar,f.rs,comp P f.nt f.W f.body⟩
def jac (P:Program) (wt:WT) (fid:Nat):Option KF:=match cF P wt fid with | some f=>some (kF P f) | none=>none
def callRK (call:CallT) (f:KF) (H:HT) (n:Nat) (t:Option (T8 V)):Rs:=match t with
 | some t=>Ot.rec Rs.no (retE f.rs) (runK call f.body t H n)
 | none=>.no
def callFK (call:CallT) (f:KF) (args:List V) (H:HT) (n:Nat):Rs :=
 cnd (Nat.ble args.length f.nt) (callRK call f H n (jiq f.ar args .z)) .no
theorem callFK_eq (call:CallT) (P:Program) (f:CF):callFK call (kF P f)=callF call P f:=by
 funext args H n
 unfold callFK callF kF callRK callR
 simp only [runK_comp]
 generalize jiq f.ar args .z=t
 cases t<;>rfl
abbrev KT:=T8 (Option KF)
def kGet (kt:KT) (fid:Nat):Option KF:=cnd (Nat.blt fid 512) (tget 3 none kt fid) none
def callMK (call:CallT) (kt:KT) (fid:Nat):List V→HT→Nat→Rs:=Option.rec noS (callFK call) (kGet kt fid)
def orR (x:Rs) (r:Rs):Rs:=Rs.rec x (fun v H n=>.ok v H n) r
def callSK (call:CallT) (kt:KT) (fid:Nat) (s:Option (List V→HT→Nat→Rs)):List V→HT→Nat→Rs :=
 Option.rec (callMK call kt fid) (fun f args H n=>orR (callMK call kt fid args H n) (f args H n)) s
def callBK (kt:KT) (S:SumT) (call:CallT):CallT:=fun fid=>callSK call kt fid (S fid)
def jik (kt:KT) (S:SumT) (k:Nat):CallT:=Nat.rec (motive:=fun _=>CallT) (fun _=>noS) (fun _ ih=>callBK kt S ih) k
def mkT (l:List (Nat×KF)):KT:=List.rec (motive:=fun _=>KT) .z (fun p _ ih=>tset 3 ih p.1 (some p.2)) l
def KOk (P:Program) (kt:KT):Prop:=∀ fid f,kGet kt fid=some f→∃ wt:WT,jac P wt fid=some f
theorem mkT_mem {fid:Nat} {f:KF} (hf:fid<512):∀ {l:List (Nat×KF)},(∀ p∈l,p.1<512)→tget 3 none (mkT l) fid=some f→(fid,f)∈l
 | [],_,h=>by
   have h:tget 3 none .z fid=some f:=h
   rw [jel] at h;cases h
 | (i,g)::l,hl,h=>by
   have h:tget 3 none (tset 3 (mkT l) i (some g)) fid=some f:=h
   have hi:=hl (i,g) (List.mem_cons_self ..)
   rw [jay (by simpa using hi) (by simpa using hf)] at h
   by_cases e:fid=i
   ·rw [if_pos e] at h
    cases h;rw [e];exact List.mem_cons_self ..
   ·rw [if_neg e] at h
    exact List.mem_cons_of_mem _ (mkT_mem hf (fun p q=>hl p (List.mem_cons_of_mem _ q)) h)
theorem mkT_ok {P:Program} {l:List (Nat×KF)} (hl:∀ p∈l,p.1<512) (h:∀ p∈l,∃ wt:WT,jac P wt p.1=some p.2):KOk P (mkT l):=by
 intro fid f hf
 unfold kGet at hf
 obtain ⟨h1,h2⟩:=jab hf
 exact h _ (mkT_mem (jaa h1) hl h2)
theorem callK_ok {P:Program} (hm:P.follows .mixedOrders=true) (hg:∀ (fid:Nat) (fn:Func),P.funcs[fid]? =some fn→fn.body.isNone=false→(fn.name== "runtime.NumGoroutine")=false) {kt:KT} (hk:KOk P kt) {S:SumT} (hS:jis P S):∀ k,jbh P (jik kt S k)
 | 0=>fun fid args H n v H' n' h=>by cases h
 | k+1=>fun fid args H n v H' n' h=>by
   have ih:=callK_ok hm hg hk hS k
   have h:callSK (jik kt S k) kt fid (S fid) args H n=.ok v H' n':=h
   have made:callMK (jik kt S k) kt fid args H n=.ok v H' n'→FnOk P fid∧n≤n'∧∀ G w (cargs:Array Value),R G (hp H) w→All2 (V.ok G) args cargs.toList→Free G n n' →
    Calls P fid cargs w fun e w'=>∃ cv G',e=.returned cv∧Stp G (hp H) n w G' (hp H') n' w'∧V.ok G' v cv:=by
    intro h
    unfold callMK at h
    cases hc:kGet kt fid with
    | none=>rw [hc] at h;cases h
    | some f =>
      rw [hc] at h
      obtain ⟨wt,hw⟩:=hk _ _ hc
      unfold jac at hw
      split at hw
      ·rename_i g hg'
       cases hw
       have h:callFK (jik kt S k) (kF P g) args H n=.ok v H' n':=h
       rw [callFK_eq] at h
       obtain ⟨⟨fn,h1,h2⟩,h3,h4⟩:=callF_ok hm ih (drawn_ok ih) hg' h
       exact ⟨⟨fn,h1,h2,hg fid fn h1 h2⟩,h3,h4⟩
      ·cases hw
   unfold callSK at h
   cases hs:S fid with
   | some f =>
     rw [hs] at h
     have h:orR (callMK (jik kt S k) kt fid args H n) (f args H n)=.ok v H' n':=h
     cases hr:f args H n with
     | no=>rw [hr] at h;exact made h
     | ok v1 H1 n1 =>
       rw [hr] at h
       have h:Rs.ok v1 H1 n1=.ok v H' n':=h
       cases h
       exact hS fid f hs _ _ _ _ _ _ hr
   | none =>
     rw [hs] at h
     exact made h
end
end Ev
end
section
namespace Ev
open Go.RowKit
noncomputable section
theorem foot_z {G:Gh} {b:Nat}:¬Foot G (hp .z) b:=by
 rintro ⟨id,sz,h,_⟩
 rw [hp_z] at h;exact h rfl
theorem R_z (G:Gh) (w:World):R G (hp .z) w:=by
 rw [hp_z];exact ⟨fun id q=>absurd rfl q,fun i j b si sj q=>absurd rfl q⟩
theorem drop_ok {P:Program} {call:CallT} (hcall:jbh P call) {fid n0 n':Nat} {args:List V} {v:V} {H':HT} (h:call fid args .z n0=.ok v H' n') {G:Gh} {H:Hp} {n:Nat} {w:World} (hR:R G H w) {cargs:Array Value} (ha:All2 (V.ok fun _=>none) args cargs.toList) :
 Calls P fid cargs w fun e w'=>∃ cv G',e=.returned cv∧Stp G H n w G H n w'∧V.ok G' v cv:=by
 obtain ⟨_,_,k⟩:=hcall _ _ _ _ _ _ _ h
 refine (k (fun _=>none) w cargs (R_z _ _) ha (fun _ _ _=>rfl)).mono ?_
 rintro e w' ⟨cv,G',rfl,s,hv⟩
 have hn:∀ b,¬Foot (fun _=>none) (hp .z) b:=fun b=>foot_z
 refine ⟨cv,G',rfl,⟨Ext.refl _ _ _,hR.fr s.fr fun b _=>hn b,?_,fun b=>.inl⟩,hv⟩
 exact ⟨s.fr.os,s.fr.tape,s.fr.output,s.fr.size,fun k hk _=>s.fr.block k hk (hn k)⟩
theorem jep {G G':Gh} {H H':Hp} {n n':Nat} {w w':World} (hR:R G H w) (hx:Ext G G' n n') {S:Nat→Prop} (hfr:Fr S w w') (hS:∀ b,S b→Foot G H b) (N:Nat→Prop)
 (hold:∀ id,¬N id→H' id≠.no→H' id=H id∧∀ b sz,G id=some (b,sz)→¬S b)
 (hnew:∀ id,N id→H' id≠.no→∃ b sz o,G' id=some (b,sz)∧w'.heap[b]? =some o∧ObOk G' sz (H' id) o∧(S b∨w.heap.size≤b))
 (hinj:∀ i j b si sj,N i→N j→H' i≠.no→H' j≠.no→G' i=some (b,si)→G' j=some (b,sj)→i=j):Stp G H n w G' H' n' w':=by
 have old:∀ id,¬N id→H' id≠.no→∃ b sz o,G id=some (b,sz)∧G' id=some (b,sz)∧b<w.heap.size∧¬S b∧w.heap[b]? =some o∧ObOk G sz (H' id) o∧H id≠.no:=by
  intro id h1 h2
  obtain ⟨e,h3⟩:=hold id h1 h2
  rw [e] at h2 ⊢
  obtain ⟨b,sz,o,q1,q2,q3⟩:=hR.1 id h2
  exact ⟨b,sz,o,q1,hx.1 _ _ q1,hR.lt h2 q1,h3 b sz q1,q2,q3,h2⟩
 refine ⟨hx,⟨fun id hi=>?_,fun i j b si sj hi hj gi gj=>?_⟩,⟨hfr.os,hfr.tape,hfr.output,hfr.size,fun k hk hn=>hfr.block k hk fun q=>hn (hS k q)⟩,fun b hb=>?_⟩
 ·by_cases e:N id
  ·obtain ⟨b,sz,o,q1,q2,q3,_⟩:=hnew id e hi
   exact ⟨b,sz,o,q1,q2,q3⟩
  ·obtain ⟨b,sz,o,_,q2,q3,q4,q5,q6,_⟩:=old id e hi
   exact ⟨b,sz,o,q2,(hfr.block b q3 q4).trans q5,q6.le hx.1⟩
 ·by_cases e:N i
  ·by_cases e':N j
   ·exact hinj i j b si sj e e' hi hj gi gj
   ·obtain ⟨b',sz,o,_,q2,q3,q4,_⟩:=old j e' hj
    rw [gj] at q2;cases q2
    obtain ⟨b2,s2,o2,p1,_,_,p4⟩:=hnew i e hi
    rw [gi] at p1;cases p1
    rcases p4 with p4 | p4
    ·exact absurd p4 q4
    ·omega
  ·obtain ⟨b',sz,o,q1,q2,q3,q4,_,_,q7⟩:=old i e hi
   rw [gi] at q2;cases q2
   by_cases e':N j
   ·obtain ⟨b2,s2,o2,p1,_,_,p4⟩:=hnew j e' hj
    rw [gj] at p1;cases p1
    rcases p4 with p4 | p4
    ·exact absurd p4 q4
    ·omega
   ·obtain ⟨b'',sz',o',p1,p2,_,_,_,_,p7⟩:=old j e' hj
    rw [gj] at p2;cases p2
    exact hR.2 i j b _ _ q7 p7 q1 p1
 ·obtain ⟨id,sz,h1,h2⟩:=hb
  by_cases e:N id
  ·obtain ⟨b2,s2,o2,p1,_,_,p4⟩:=hnew id e h1
   rw [h2] at p1;cases p1
   exact p4.imp (hS b) fun q=>q
  ·obtain ⟨b',sz',o',p1,p2,_,_,_,_,p7⟩:=old id e h1
   rw [h2] at p2;cases p2
   exact .inl ⟨id,_,p7,p1⟩
section
variable {call:CallT} {j:Nat}
end
end
end Ev
end
section
open Go.RowKit Go.ChangeMaps Go.MapKept
structure URng (w:World) (b r:Nat) (es:Array MapEntry) (clock:Nat) (seen:Array Nat):Prop where
 hb:w.heap[b]? =some (.map es clock)
 hr:w.heap[r]? =some (.mapIter (some b) clock seen clock)
 st:Stamped es clock
section
variable {P:Program} {ops:Array Oper} {rest:List Oper} {o:Oper} {a:Act} {w w':World} {Q:Exit→Act→World→Prop} {b r clock:Nat} {es:Array MapEntry} {seen:Array Nat}
theorem URng.ne (h:URng w b r es clock seen):r≠b:=fun e=>by
 have h1:=h.hr
 rw [e,h.hb] at h1;cases h1
theorem URng.lt (h:URng w b r es clock seen):r<w.heap.size:=(Array.getElem?_eq_some_iff.1 h.hr).1
theorem URng.ltm (h:URng w b r es clock seen):b<w.heap.size:=(Array.getElem?_eq_some_iff.1 h.hb).1
theorem URng.kept {row:Option Nat} (h:URng w b r es clock seen) (hg:w.grownBy w' row) (hb':some b≠row) (hr':some r≠row):URng w' b r es clock seen :=
 ⟨(hg.block b h.ltm hb').trans h.hb,(hg.block r h.lt hr').trans h.hr,h.st⟩
theorem u_range (hg:o.guard=none) (m:Operand) (t k e:TypeId) (hop:o.op=Op.range t m) (ht:P.underlying t=some (.map k e)) (hm:a.eval m=.map (some b)) (hb:w.heap[b]? =some (.map es clock)) (hs:Stamped es clock)
 (hK:∀ w',URng w' b w.heap.size es clock #[]→w.grownBy w' none→w'.heap.size=w.heap.size+1→wpList P ops Q rest (a.put o.dst (.pointer (some ⟨w.heap.size,0,none⟩))) w') :
 wpList P ops Q (o::rest) a w:=by
 refine wpList_plain hg fun K' hK'=>?_
 have hlt:b<w.heap.size:=(Array.getElem?_eq_some_iff.1 hb).1
 have hrun:=run_range_map w t k e b es clock ht hb
 unfold Oper.wp
 simp [execOp,hop,hm,hrun,Result.andThen]
 exact hK' _ _ (hK _ ⟨((MapKept.heap_alloc w _).2 b hlt).trans hb,(MapKept.heap_alloc w _).1,hs⟩ (World.grownBy_alloc w _ none) (by simp))
theorem u_next (hg:o.guard=none) (it:Operand) (hop:o.op=Op.next it false) (hit:a.eval it=.pointer (some ⟨r,0,none⟩)) (h:URng w b r es clock seen)
 (hDone:Hid ((∀ e∈es.toList,seen.contains e.born=true)→wpList P ops Q rest (a.put o.dst (.tuple #[.bool false])) w))
 (hMore:Hid (∀ (e:MapEntry) (w':World),e∈es.toList→seen.contains e.born=false→URng w' b r es clock (seen.push e.born)→(leftOf es (seen.push e.born)).size<(leftOf es seen).size→w.grownBy w' (some r)→w'.heap.size=w.heap.size →
   (Instr.entry (.pointer (some ⟨r,0,none⟩))).run P w'=.ok (.tuple #[e.key,e.val]) w'→wpList P ops Q rest (a.put o.dst (.tuple #[.bool true,e.key,e.val])) w')) :
 wpList P ops Q (o::rest) a w:=by
 refine wpList_plain hg fun K' hK'=>?_
 have hne:=h.ne
 have hst:=(stamped_iff es clock).1 h.st
 unfold Oper.wp
 rcases run_next_at (P:=P) w o.type r b clock clock seen es clock h.hr h.hb h.st.1 (Nat.le_refl _) with ⟨h0,hrun⟩ | ⟨e,he,w1,hal,hrun⟩
 ·simp [execOp,hop,hit,hrun,Result.andThen]
  exact hK' _ _ (hDone.out fun x hx=>all_seen es seen h0 x hx)
 ·obtain ⟨hem,hes⟩:=mem_left he
  have hr1:w1.heap[r]? =some (.mapIter (some b) clock seen clock):=by rcases hal with rfl | rfl<;>exact h.hr
  have hb1:w1.heap[b]? =some (.map es clock):=by rcases hal with rfl | rfl<;>exact h.hb
  have hset:=heap_set (o':=.mapIter (some b) clock (seen.push e.born) clock) hr1
  have hb':(setBlock w1 r (.mapIter (some b) clock (seen.push e.born) clock)).heap[b]? =some (.map es clock):=(hset.2 b (fun e1=>hne e1.symm)).trans hb1
  simp [execOp,hop,hit,hrun,Result.andThen]
  refine hK' _ _ (hMore.out e _ hem hes ⟨hb',hset.1,h.st⟩ (left_shrinks es seen e he) ?_ ?_ (run_entry_at _ r b clock seen es clock e hset.1 hb' hem hst.2.1))
  ·rcases hal with rfl | rfl<;>exact ⟨rfl,rfl,rfl,by simp [setBlock],fun i _ hi=>hset.2 i (fun e1=>hi (by rw [e1]))⟩
  ·rcases hal with rfl | rfl<;>simp [setBlock]
theorem URng.left_eq (h:URng w b r es clock seen):w.rangeLeft b r=(leftOf es seen).size:=by
 simp only [World.rangeLeft,h.hb,h.hr]
theorem jaq {x y:Nat}:(seen.push x).contains y=(seen.contains y||(y==x)):=by
 rw [Array.contains_push]
theorem URng.same (h:Stamped es clock) {x y:MapEntry} (hx:x∈es.toList) (hy:y∈es.toList) (hk:x.key=y.key):x=y :=
 entry_eq_of_key ((stamped_iff es clock).1 h).2.2 hx hy hk
theorem URng.born (h:Stamped es clock) {x y:MapEntry} (hx:x∈es.toList) (hy:y∈es.toList) (hk:x.born=y.born):x=y :=
 born_inj ((stamped_iff es clock).1 h).2.1 hx hy hk
end
end
section
open Go.RowKit Go.ChangeMaps Go.MapKept
theorem jgx {S:Nat→Prop} {w w':World} {row:Option Nat} (h:w.grownBy w' row) (hS:∀ k,row=some k→k<w.heap.size→S k):Ev.Fr S w w' :=
 ⟨h.os,h.tape,h.output,h.size,fun k hk hn=>h.block k hk fun e=>hn (hS k e.symm hk)⟩
theorem jdu (w:World) (g i:Nat) (u:Value):w.grownBy (w.setCell ⟨g,i,none⟩ u) (some g) :=
 ⟨rfl,rfl,rfl,by simp [World.setCell],fun j _ hj=>Below.heap_setCell w ⟨g,i,none⟩ u j (fun e=>hj (by rw [e]))⟩
def SyA (arr arr':Array Value) (ents:Array MapEntry) (seen:Array Nat):Prop :=
 arr'.size=arr.size∧∀ i,i<arr.size→((∃ e∈ents.toList,e.key=.int .i64 (i:Int)∧seen.contains e.born=true∧arr'.getD i undef=e.val)∨((∀ e∈ents.toList,e.key=.int .i64 (i:Int)→seen.contains e.born=false)∧arr'.getD i undef=arr.getD i undef))
theorem SyA.start (arr:Array Value) (ents:Array MapEntry):SyA arr arr ents #[]:=⟨rfl,fun i hi=>.inr ⟨fun e _ _=>by simp,rfl⟩⟩
theorem SyA.step {arr arr':Array Value} {ents:Array MapEntry} {clock:Nat} {seen:Array Nat} (h:SyA arr arr' ents seen) (hs:Stamped ents clock) {e:MapEntry} (he:e∈ents.toList) {j:Nat} (hk:e.key=.int .i64 (j:Int)) (hj:j<arr.size):SyA arr (arr'.setIfInBounds j e.val) ents (seen.push e.born):=by
 refine ⟨by simp [h.1],fun i hi=>?_⟩
 by_cases q:i=j
 ·subst q
  refine .inl ⟨e,he,hk,by rw [jaq];simp,?_⟩
  rw [Array.getD_eq_getD_getElem?,Array.getElem?_setIfInBounds_self_of_lt (by rw [h.1];exact hi)]
  rfl
 ·have hg:(arr'.setIfInBounds j e.val).getD i undef=arr'.getD i undef:=by
   rw [Array.getD_eq_getD_getElem?,Array.getD_eq_getD_getElem?,Array.getElem?_setIfInBounds_ne (fun r=>q r.symm)]
  rcases h.2 i hi with ⟨x,hx,h1,h2,h3⟩ | ⟨h1,h2⟩
  ·exact .inl ⟨x,hx,h1,by rw [jaq,h2];rfl,hg.trans h3⟩
  ·refine .inr ⟨fun x hx hxk=>?_,hg.trans h2⟩
   rw [jaq,h1 x hx hxk,Bool.false_or]
   rw [beq_eq_false_iff_ne]
   intro hb
   have:=URng.born hs hx he hb
   subst this
   rw [hk] at hxk
   have hxk:=(Value.int.inj hxk).2
   omega
theorem frz_of_heap {w:World} {b:Nat} {arr:Array Value} {el:TypeId} {fz:Nat×Nat} (h:w.heap[b]? =some (.cells arr el fz)) {i:Nat} (hf:¬(fz.1≤i∧i<fz.2)):w.frozen? ⟨b,i,none⟩=false:=by
 simp only [World.frozen?,h]
 simpa using hf
theorem jbl {w:World} {b:Nat} {arr:Array Value} {el:TypeId} {fz:Nat×Nat} (h:w.heap[b]? =some (.cells arr el fz)) {i:Nat} (hi:i<arr.size):w.cell? ⟨b,i,none⟩=some (arr.getD i undef):=by
 rw [Lib.cell_of_heap h,Array.getD_eq_getD_getElem?,Array.getElem?_eq_getElem hi]
 rfl
theorem setCell_heap {w:World} {b i:Nat} {arr:Array Value} {el:TypeId} {fz:Nat×Nat} (h:w.heap[b]? =some (.cells arr el fz)) (v:Value):(w.setCell ⟨b,i,none⟩ v).heap[b]? =some (.cells (arr.setIfInBounds i v) el fz):=by
 simp [World.setCell,Array.getElem?_modify,h]
theorem jhi {w:World} {b i k:Nat} (h:k≠b) (v:Value):(w.setCell ⟨b,i,none⟩ v).heap[k]? =w.heap[k]?:=Below.heap_setCell w ⟨b,i,none⟩ v k h
set_option maxRecDepth 100000 in
set_option maxHeartbeats 1000000 in
theorem u_sync (b bl bm len cap clock:Nat) (arr dr:Array Value) (el del:TypeId) (fz dfz:Nat×Nat) (ents:Array MapEntry) (w:World)
 (hd:w.heap[b]? =some (.cells dr del dfz)) (hds:3≤dr.size) (h0:dr.getD 0 undef=.slice (some ⟨bl,0,none⟩) len cap) (h1:dr.getD 1 undef=.map (some bm)) (h2:dr.getD 2 undef=.pointer none)
 (hl:w.heap[bl]? =some (.cells arr el fz)) (hfz:∀ i,i<arr.size→¬(fz.1≤i∧i<fz.2)) (hlen:len≤arr.size)
 (hm:w.heap[bm]? =some (.map ents clock)) (hst:Stamped ents clock) (hes:∀ e∈ents.toList,∃ (j:Nat) (s:ByteArray),e.key=.int .i64 (j:Int)∧e.val=.string s∧j<len) (hne:bl≠b) :
 Calls Tryz.prog 168 #[.pointer (some ⟨b,0,none⟩)] w fun e w'=>e=.returned (.int .i64 0)∧∃ (arr':Array Value) (seen:Array Nat),w'.heap[bl]? =some (.cells arr' el fz)∧SyA arr arr' ents seen∧(∀ e∈ents.toList,seen.contains e.born=true)∧w'.heap[bm]? =some (.map #[] clock)∧Ev.Fr (fun k=>k=bl∨k=bm) w w':=by
 have hbm:bm≠b:=fun e=>by rw [e,hd] at hm;cases hm
 have hbml:bm≠bl:=fun e=>by rw [e,hl] at hm;cases hm
 have hblt:b<w.heap.size:=(Array.getElem?_eq_some_iff.1 hd).1
 have hlt:bl<w.heap.size:=(Array.getElem?_eq_some_iff.1 hl).1
 have hmt:bm<w.heap.size:=(Array.getElem?_eq_some_iff.1 hm).1
 have cells:∀ W:World,W.heap[b]? =some (.cells dr del dfz)→W.cell? ⟨b,0,none⟩=some (.slice (some ⟨bl,0,none⟩) len cap)∧W.cell? ⟨b,1,none⟩=some (.map (some bm))∧W.cell? ⟨b,2,none⟩=some (.pointer none):=fun W h=>by
  refine ⟨?_,?_,?_⟩
  ·rw [jbl h (by omega),h0]
  ·rw [jbl h (by omega),h1]
  ·rw [jbl h (by omega),h2]
 obtain ⟨c0,c1,c2⟩:=cells w hd
 have HD:=Lib.hid hd
 have HL:=Lib.hid hl
 have HM:=Lib.hid hm
 have HC:=Lib.hid cells
 clear hd hl hm cells h0 h1 h2 hds
 go_enter Tryz.func168,Tryz.ntmps168
 go_wp2_with (at_range;refine u_range rfl _ 130 3 9 rfl Tryz.underlying130 rfl HM.out hst ?_;intro w2 hrg hgr hs2;refine Hid.out ?_)
 have HRg:=Lib.hid hrg
 have HD2:Hid (w2.heap[b]? =some (.cells dr del dfz)):=(hgr.block b hblt (by simp)).trans HD.out
 have HL2:Hid (w2.heap[bl]? =some (.cells arr el fz)):=(hgr.block bl hlt (by simp)).trans HL.out
 have HF2:Hid (Ev.Fr (fun k=>k=bl∨k=bm) w w2):=jgx hgr (fun k hk _=>by cases hk)
 clear hrg hgr
 refine Lib.hid ?_
 go_wp2_with fail
 go_loopw [3,4] (fun _ _ wr=>∃ (arr':Array Value) (seen:Array Nat),Hid (URng wr bm w.heap.size ents clock seen)∧Hid (wr.heap[b]? =some (.cells dr del dfz))∧Hid (wr.heap[bl]? =some (.cells arr' el fz))∧Hid (SyA arr arr' ents seen)∧Hid (Ev.Fr (fun k=>k=bl∨k=bm) w wr)) (fun _ _ wr=>wr.rangeLeft bm w.heap.size)
 case atStart=>exact ⟨arr,_,HRg,HD2,HL2,SyA.start _ _,HF2⟩
 case round =>
  obtain ⟨arr',seen,hrg,hd,hl,hsy,hfr⟩:=hrel
  go_wp2_with (at_next;refine u_next rfl _ rfl rfl hrg.out ?_ ?_)
  ·refine Lib.hid ?_
   intro hall
   obtain ⟨c0,c1,c2⟩:=HC.out wr hd.out
   have hall':=Lib.hid hall
   have hcl:(Builtin.clear_ #[130] 0 #[.map (some bm)]).run Tryz.prog wr=.ok (.tuple #[]) (setBlock wr bm (.map #[] clock)):=by
    simp [Builtin.clear_,run_underlying Tryz.underlying130,MapKept.run_getObj_map hrg.out.hb,MapKept.run_setObj_map _ hrg.out.hb,Result.andThen]
    rfl
   clear hall
   go_wp2_with fail
   go_ret
   refine ⟨rfl,arr',seen,?_,hsy.out,fun e he=>by simpa using hall'.out e (by simpa using he),heap_setBlock_same hrg.out.hb _,?_⟩
   ·rw [heap_setBlock_other hrg.out.hb _ (fun e=>hbml e.symm)];exact hl.out
   ·exact hfr.out.trans ⟨rfl,rfl,rfl,by simp [setBlock],fun k hk hn=>heap_setBlock_other hrg.out.hb _ (fun e=>hn (.inr e))⟩ fun _ _ h=>h
  ·refine Lib.hid ?_
   intro e wn he hse hrn hlt' hgn hsn hen
   have he:e∈ents.toList:=by simpa using he
   obtain ⟨j,s,hk,hv,hj⟩:=hes e he
   rw [hk,hv] at hen ⊢
   have hdn:wn.heap[b]? =some (.cells dr del dfz):=(hgn.block b (Nat.lt_of_lt_of_le hblt hfr.out.size) (fun q=>by injection q with q;omega)).trans hd.out
   have hln:wn.heap[bl]? =some (.cells arr' el fz):=(hgn.block bl (Nat.lt_of_lt_of_le hlt hfr.out.size) (fun q=>by injection q with q;omega)).trans hl.out
   have has:arr'.size=arr.size:=hsy.out.1
   obtain ⟨c0,c1,c2⟩:=HC.out wn hdn
   obtain ⟨v0,cj⟩:∃ v0,wn.cell? ⟨bl,j,none⟩=some v0:=⟨_,jbl hln (by omega)⟩
   have fj:wn.frozen? ⟨bl,j,none⟩=false:=frz_of_heap hln (hfz j (by omega))
   have hjl:((j:Nat):Int)<(len:Int):=by omega
   have hj0:(0:Int)≤(j:Int):=by omega
   have hsy':=Lib.hid (hsy.out.step hst he hk (j:=j) (by omega))
   rw [hv] at hsy'
   have hrn':=Lib.hid (hrn.kept (jdu wn bl j (.string s)) (by intro q;injection q with q;omega) (by intro q;injection q with q;omega))
   have hdn':Hid ((wn.setCell ⟨bl,j,none⟩ (.string s)).heap[b]? =some (.cells dr del dfz)):=(jhi (fun q=>hne q.symm) _).trans hdn
   have hln':Hid ((wn.setCell ⟨bl,j,none⟩ (.string s)).heap[bl]? =some (.cells (arr'.setIfInBounds j (.string s)) el fz)):=setCell_heap hln _
   have hfr':Hid (Ev.Fr (fun k=>k=bl∨k=bm) w (wn.setCell ⟨bl,j,none⟩ (.string s))):=(hfr.out.trans (jgx (S:=fun k=>k=w.heap.size) hgn (fun k hk _=>by injection hk with hk;exact hk.symm)) (fun k hk h=>by omega)).trans (jgx (S:=fun k=>k=bl) (jdu wn bl j (.string s)) (fun k hk _=>by injection hk with hk;exact hk.symm)) (fun k _ h=>.inl h)
   have hlc:=Lib.hid hlt'
   have hrg':=Lib.hid hrg.out.left_eq
   clear hdn hln hrn hgn hsn hk hv hse hsy hfr hd hl hlt'
   go_wp2_with fail
   go_roundw
   case rel=>exact ⟨_,_,hrn',hdn',hln',hsy',hfr'⟩
   case measure =>
    rw [hrg'.out,hrn'.out.left_eq]
    exact hlc.out
end
section
open Go.RowKit
theorem u_builder:(Tryz.prog.info? 203).map (·.size)=some 2:=by kernel_rfl
theorem u_lies:liesAt Tryz.prog Tryz.prog.depth 203 (2 / Tryz.prog.cellsOf 203) 0 203 1=true:=by kernel_rfl
theorem u_byte:(Tryz.prog.info? 5).map (fun i=>(i.zero,i.size,i.bytes))=some (some (.int .u8 0),1,1):=by kernel_rfl
set_option maxRecDepth 100000 in
theorem jgm (b:Nat) (w:World) (h0:w.cell? ⟨b,0,none⟩=some (.pointer (some ⟨b,0,none⟩))) :
 Calls Tryz.prog 192 #[.pointer (some ⟨b,0,none⟩)] w fun e w'=>e=.returned (.tuple #[])∧w'=w:=by
 obtain ⟨j,hj,_⟩:=Option.map_eq_some_iff.1 u_builder
 go_enter Tryz.func192,Tryz.ntmps192
 go_wp2
 rw [Lib.run_neq_ptr_same w _ Tryz.underlying201 hj]
 go_wp2
 go_end0
 exact ⟨rfl,rfl⟩
set_option maxRecDepth 100000 in
theorem jfp (b:Nat) (w:World) (h0:w.cell? ⟨b,0,none⟩=some (.pointer none)) (hsh:w.shape? b=some (203,2)) (hfz:w.frozen? ⟨b,0,none⟩=false) :
 Calls Tryz.prog 192 #[.pointer (some ⟨b,0,none⟩)] w fun e w'=>e=.returned (.tuple #[])∧w'=w.setCell ⟨b,0,none⟩ (.pointer (some ⟨b,0,none⟩)):=by
 obtain ⟨j,hj,hjs⟩:=Option.map_eq_some_iff.1 u_builder
 go_enter Tryz.func192,Tryz.ntmps192
 go_wp2
 rw [Lib.run_to_unsafe w ⟨b,0,none⟩ Tryz.underlying201 Tryz.underlying310 hj (by rw [hjs];decide) hsh (Nat.zero_lt_succ 1)]
 simp only [Result.andThen]
 rw [Oper.upon_value]
 go_wp2
 rw [run_callFunc_extern Tryz.func242 (by kernel_rfl) (by kernel_rfl) (by kernel_rfl) (e:=Extern.AbiNoEscape.same) (by kernel_rfl)]
 rw [Lib.run_noEscape]
 simp only [Result.andThen]
 rw [Oper.upon_value]
 go_wp2
 rw [Lib.run_from_unsafe w ⟨b,0,none⟩ Tryz.underlying310 Tryz.underlying201 hj hsh u_lies]
 simp only [Result.andThen]
 rw [Oper.upon_value]
 go_wp2
 go_end0
 exact ⟨rfl,rfl⟩
theorem jfd {P:Program} (w:World) (t u ty e:TypeId) (i:TypeInfo) (ht:P.underlying t=some (.slice e)) (hu:P.underlying u=some .string) (hi:P.info? e=some i) (hz:i.zero=some (.int .u8 0))
 (hsize:i.size=1) (hby:i.bytes=1) (v:Value) (n:Nat) (xs:List Value) (hown:w.ownsRowF 0 e 1 v n xs) (s:ByteArray) (h63:n+s.size≤maxLen) (hbytes:n+s.size≤140737488355328) :
 ∃ v' w',(Builtin.append_ #[t,u] ty #[v,.string s]).run P w=.ok v' w'∧w'.ownsRowF 0 e 1 v' (n+s.size) (xs++Lib.strCells s)∧w.grownBy w' v.ownBlock∧(v'=.slice none 0 0↔v=.slice none 0 0∧s.size=0)∧(∀ g,v'.ownBlock=some g→v.ownBlock=some g∨w.heap.size≤g):=by
 obtain ⟨v',w',h1,h2,h3,h4⟩:=Lib.run_append_own_stringF (P:=P) (w:=w) 0 t u ty e i ht hu hi hz hsize hby v n xs hown s h63 hbytes (Nat.zero_le _)
 refine ⟨v',w',h1,h2,h3,h4,fun g' hg'=>?_⟩
 rcases hown.2 with ⟨rfl,rfl⟩ | ⟨g,cap,cur,fz,rfl,hbg,hg,hfz,hnc,hcm,hcs,htake⟩
 ·obtain ⟨v2,w2,k1,k2,_,_⟩:=Lib.run_append_own_stringF (P:=P) (w:=w) w.heap.size t u ty e i ht hu hi hz hsize hby (.slice none 0 0) 0 xs ⟨hown.1,.inl ⟨rfl,rfl⟩⟩ s h63 hbytes (Nat.le_refl _)
  rw [h1] at k1
  cases k1
  exact .inr (k2.lt g' hg').1
 ·by_cases hroom:n+s.size≤cap
  ·have hr:=Lib.run_append_room_stringF (P:=P) w t u ty e i ht hu hi hsize g n cap cur fz hg (by simpa using hfz) s hroom (by simp at hcs;omega)
   rw [h1] at hr
   cases hr
   exact .inl hg'
  ·refine .inr ?_
   rcases Nat.lt_or_ge g' w.heap.size with q | q
   ·exfalso
    have hxl:xs.length=n:=by simpa using hown.1
    have holds:∀ j u,xs[j]? =some u→w.cell? ((⟨g,0,none⟩:Addr).add j)=some u:=hown.cells (g:=g) rfl
    have hr:=Lib.run_append_grow_string (P:=P) w t u ty e i (.int .u8 0) ht hu hi hz ⟨g,0,none⟩ n cap xs (by rw [hsize];simpa using hxl) holds s (by omega) (by omega) (by rw [hby];exact growslice_fits (by omega) (by omega))
    rw [h1] at hr
    cases hr
    simp [Value.ownBlock] at hg'
    omega
   ·exact q
theorem jdt {P:Program} {w:World} {ops:Array Oper} {rest:List Oper} {o:Oper} {a:Act} {Q:Exit→Act→World→Prop} (hgd:o.guard=none) (sl x:Operand) (t u:TypeId)
 (ho:o.op=.call { callee:=.builtin .append,args:=#[sl,x],argTypes:=#[t,u] })
 (e:TypeId) (i:TypeInfo) (ht:P.underlying t=some (.slice e)) (hu:P.underlying u=some .string) (hi:P.info? e=some i) (hz:i.zero=some (.int .u8 0))
 (hsize:i.size=1) (hby:i.bytes=1)
 (v:Value) (n:Nat) (xs:List Value) (hs:a.eval sl=v) (hown:w.ownsRowF 0 e 1 v n xs) (s:ByteArray) (hx:a.eval x=.string s)
 (h63:n+s.size≤maxLen) (hbytes:n+s.size≤140737488355328)
 (h:∀ v' w',w'.ownsRowF 0 e 1 v' (n+s.size) (xs++Lib.strCells s)→w.grownBy w' v.ownBlock→(v'=.slice none 0 0↔v=.slice none 0 0∧s.size=0)→(∀ g,v'.ownBlock=some g→v.ownBlock=some g∨w.heap.size≤g)→wpList P ops Q rest (a.put o.dst v') w'):wpList P ops Q (o::rest) a w:=by
 refine wpList_plain hgd fun K hK=>?_
 obtain ⟨v',w',hr,h2,h3,h4,h5⟩:=jfd (P:=P) w t u o.type e i ht hu hi hz hsize hby v n xs hown s h63 hbytes
 unfold Oper.wp execOp
 simp only [ho,resolve,invoke,builtin,Sem.run_bind,Sem.run_pure,Result.andThen_ok,List.map_toArray,List.map_cons,List.map_nil,hs,hx,hr]
 exact hK _ _ (h v' w' h2 h3 h4 h5)
def UBld (w:World) (b:Nat) (p v:Value) (bs:List Value):Prop:=w.heap[b]? =some (.cells #[p,v] 203 (0,0))∧w.ownsRowF 0 5 1 v bs.length bs∧v.ownBlock≠some b
theorem UBld.used {w:World} {b:Nat} {p v:Value} {bs:List Value} (h:UBld w b p v bs) (q:Value):UBld (w.setCell ⟨b,0,none⟩ q) b q v bs:=by
 obtain ⟨hb,hown,hne⟩:=h
 refine ⟨?_,?_,hne⟩
 ·simp [World.setCell,Array.getElem?_modify,hb]
 ·exact hown.kept (row:=some b) ⟨rfl,rfl,rfl,by simp [World.setCell],fun k _ hk=>Below.heap_setCell _ _ _ _ (fun e=>hk (by simp [e]))⟩ (Or.inr hne)
theorem UBld.put {w:World} {b:Nat} {p v v':Value} {bs':List Value} (hb:w.heap[b]? =some (.cells #[p,v] 203 (0,0))) (hown:w.ownsRowF 0 5 1 v' bs'.length bs'):UBld (w.setCell ⟨b,1,none⟩ v') b p v' bs':=by
 have hne:=Lib.ownBlock_neF hown hb (by decide)
 refine ⟨?_,?_,hne⟩
 ·simp [World.setCell,Array.getElem?_modify,hb]
 ·exact hown.kept (row:=some b) ⟨rfl,rfl,rfl,by simp [World.setCell],fun k _ hk=>Below.heap_setCell _ _ _ _ (fun e=>hk (by simp [e]))⟩ (Or.inr hne)
theorem jjn {S:Nat→Prop} (w:World) {b i:Nat} (hS:S b) (u:Value):Ev.Fr S w (w.setCell ⟨b,i,none⟩ u):=⟨rfl,rfl,rfl,by simp,fun k _ hk=>Below.heap_setCell _ _ _ _ (fun e=>hk (by have e:k=b:=e;rw [e];exact hS))⟩
set_option maxHeartbeats 1000000 in
set_option maxRecDepth 100000 in
theorem u_write (b:Nat) (p v:Value) (bs:List Value) (s:ByteArray) (w:World) (h:UBld w b p v bs) (hp:p=.pointer none∨p=.pointer (some ⟨b,0,none⟩)) (hlen:bs.length+s.size≤140737488355328) :
 Calls Tryz.prog 130 #[.pointer (some ⟨b,0,none⟩),.string s] w fun e w'=>e=.returned (.tuple #[.int .i64 s.size,.nilIface])∧∃ v',UBld w' b (.pointer (some ⟨b,0,none⟩)) v' (bs++Lib.strCells s)∧Ev.Fr (fun k=>k=b∨v.ownBlock=some k) w w'∧(v'=.slice none 0 0↔v=.slice none 0 0∧s.size=0)∧(∀ g,v'.ownBlock=some g→v.ownBlock=some g∨w.heap.size≤g):=by
 obtain ⟨i0,hi,hz0,hz1,hz2⟩:=info_parts u_byte
 obtain ⟨hbk0,hown0,hne0⟩:=h
 have hb0:b<w.heap.size:=by
  rcases Nat.lt_or_ge b w.heap.size with h' | h'
  ·exact h'
  ·simp [Array.getElem?_eq_none h'] at hbk0
 go_enter Tryz.func130,Tryz.ntmps130
 go_wp2_with fail
 have hcc:Calls Tryz.prog 192 #[.pointer (some ⟨b,0,none⟩)] w fun e w1=>e=.returned (.tuple #[])∧UBld w1 b (.pointer (some ⟨b,0,none⟩)) v bs∧Ev.Fr (fun k=>k=b∨v.ownBlock=some k) w w1:=by
  rcases hp with rfl | rfl
  ·refine (jfp b w (by rw [Lib.cell_of_heap hbk0];rfl) (by simp [World.shape?,hbk0]) (Lib.frozen_of_heap hbk0 0)).mono ?_
   rintro e w1 ⟨rfl,rfl⟩
   exact ⟨rfl,UBld.used ⟨hbk0,hown0,hne0⟩ _,jjn w (.inl rfl) _⟩
  ·refine (jgm b w (by rw [Lib.cell_of_heap hbk0];rfl)).mono ?_
   rintro e w1 ⟨rfl,rfl⟩
   exact ⟨rfl,⟨hbk0,hown0,hne0⟩,Ev.Fr.refl _ _⟩
 refine hcc.mono ?_
 rintro e w1 ⟨rfl,⟨hbk,hown,hne⟩,hf1⟩
 have c0:w1.cell? ⟨b,0,none⟩=some (.pointer (some ⟨b,0,none⟩)):=by rw [Lib.cell_of_heap hbk];rfl
 have c1:w1.cell? ⟨b,1,none⟩=some v:=by rw [Lib.cell_of_heap hbk];rfl
 go_wp2_with (at_builtin;refine jdt rfl _ _ 127 9 rfl 5 i0 Tryz.underlying127 Tryz.underlying9 hi hz0 hz1 hz2 _ _ _ rfl hown s rfl ?c3 ?c4 ?_)
 case c3=>unfold maxLen;omega
 case c4=>omega
 intro v' w2 hown' hgrow hnil hblk
 have hlt:b<w1.heap.size:=Nat.lt_of_lt_of_le hb0 hf1.size
 have hb2:w2.heap[b]? =some (.cells #[.pointer (some ⟨b,0,none⟩),v] 203 (0,0)):=by
  rw [hgrow.block b hlt (fun e=>hne e.symm)]
  exact hbk
 have d0:w2.cell? ⟨b,0,none⟩=some (.pointer (some ⟨b,0,none⟩)):=by rw [Lib.cell_of_heap hb2];rfl
 have d1:w2.cell? ⟨b,1,none⟩=some v:=by rw [Lib.cell_of_heap hb2];rfl
 have f1:w2.frozen? ⟨b,1,none⟩=false:=Lib.frozen_of_heap hb2 1
 obtain ⟨ao,n',cap,rfl⟩:∃ ao n' cap,v'=.slice ao n' cap:=by
  rcases hown'.2 with ⟨hv,_⟩ | ⟨g,cap,cur,fz,hv,_⟩
  ·exact ⟨_,_,_,hv⟩
  ·exact ⟨_,_,_,hv⟩
 go_wp2
 go_ret2
 refine ⟨rfl,_,UBld.put (bs':=bs++Lib.strCells s) hb2 (by simpa [Lib.strCells] using hown'),?_,by simpa using hnil,fun g' hg'=>(hblk g' hg').imp id fun q=>Nat.le_trans hf1.size q⟩
 have hg:Ev.Fr (fun k=>k=b∨v.ownBlock=some k) w1 w2:=⟨hgrow.os,hgrow.tape,hgrow.output,hgrow.size,fun k hk hs=>hgrow.block k hk (fun e=>hs (.inr e.symm))⟩
 exact (hf1.trans hg fun _ _ h=>h).trans (jjn w2 (S:=fun k=>k=b∨v.ownBlock=some k) (.inl rfl) _) fun _ _ h=>h
theorem heap_freeze (w:World) (g n:Nat) (cur:Array Value) (el:TypeId) (fz:Nat×Nat) (h:w.heap[g]? =some (.cells cur el fz)):∃ fz':Nat×Nat,(w.drew.freeze ⟨g,0,none⟩ n).heap[g]? =some (.cells cur el fz')∧(fz.2≤n→fz'.2≤n):=by
 unfold World.freeze
 split
 ·exact ⟨fz,h,fun q=>q⟩
 ·have h':w.drew.heap[g]? =some (.cells cur el fz):=h
  simp only [Array.getElem?_modify,if_pos,h']
  obtain ⟨lo,hi⟩:=fz
  refine ⟨_,rfl,fun q=>?_⟩
  have q:hi≤n:=q
  split
  ·show 0+n≤n
   omega
  ·show max hi (0+n)≤n
   omega
theorem fr_freeze (w:World) (g n:Nat):Ev.Fr (fun k=>k=g) w (w.drew.freeze ⟨g,0,none⟩ n):=by
 unfold World.freeze
 split
 ·exact ⟨rfl,rfl,rfl,Nat.le_refl _,fun _ _ _=>rfl⟩
 ·refine ⟨rfl,rfl,rfl,by simp,fun k hk hs=>?_⟩
  simp only [Array.getElem?_modify]
  rw [if_neg (fun e=>hs e.symm)]
  rfl
set_option maxHeartbeats 2000000 in
set_option maxRecDepth 100000 in
theorem u_string (b g cap:Nat) (p:Value) (l:List UInt8) (cur:Array Value) (fz:Nat×Nat) (w:World) (hbk:w.heap[b]? =some (.cells #[p,.slice (some ⟨g,0,none⟩) l.length cap] 203 (0,0))) (hg:w.heap[g]? =some (.cells cur 5 fz)) (h0:l≠[]) (hnc:l.length≤cap) (hcm:cap≤maxLen) (hcs:cur.size=cap) (htake:cur.toList.take l.length=Lib.byteCells l) :
 Calls Tryz.prog 134 #[.pointer (some ⟨b,0,none⟩)] w fun e w'=>e=.returned (.string ⟨l.toArray⟩)∧Ev.Fr (fun k=>k=g) w w'∧∃ fz':Nat×Nat,w'.heap[g]? =some (.cells cur 5 fz')∧(fz.2≤l.length→fz'.2≤l.length):=by
 have hl0:l.length≠0:=by simpa using h0
 have c1:w.drew.cell? ⟨b,1,none⟩=some (.slice (some ⟨g,0,none⟩) l.length cap):=by
  have:w.drew.heap[b]? =some (.cells #[p,.slice (some ⟨g,0,none⟩) l.length cap] 203 (0,0)):=hbk
  rw [Lib.cell_of_heap this];rfl
 have hSD:(Builtin.unsafeSliceData_ #[127] 262 #[.slice (some ⟨g,0,none⟩) l.length cap]).run Tryz.prog w.drew=.ok (.pointer (some ⟨g,0,none⟩)) w.drew :=
  Lib.run_unsafeSliceData_row _ _ _ _ _ _ (by omega)
 have hUS:(Builtin.unsafeString_ #[262,3] 9 #[.pointer (some ⟨g,0,none⟩),.int .i64 l.length]).run Tryz.prog w.drew=.ok (.string ⟨l.toArray⟩) (w.drew.freeze ⟨g,0,none⟩ l.length):=by
  refine Lib.run_unsafeString_row w.drew 262 3 9 5 Tryz.underlying262 (by kernel_rfl) g cur.size (by have hg':w.drew.heap[g]? =some (.cells cur 5 fz):=hg;simp [World.shape?,hg']) l h0 (by omega) (by unfold maxLen at hcm;omega) ?_
  intro j x hx
  have hj:j<l.length:=(List.getElem?_eq_some_iff.1 hx).1
  have h1:(cur.toList.take l.length)[j]? =some (.int .u8 x.toNat):=by rw [htake];simp [Lib.byteCells,hx]
  rw [List.getElem?_take,if_pos hj,Array.getElem?_toList] at h1
  have hg':w.drew.heap[g]? =some (.cells cur 5 fz):=hg
  rw [jds,Lib.cell_of_heap hg']
  simpa using h1
 have mixed:Tryz.prog.follows .mixedOrders=true:=by kernel_rfl
 go_enter Tryz.func134,Tryz.ntmps134
 go_wp2
 go_region_o
 all_goals (go_wp2;go_ret;exact ⟨rfl,fr_freeze w g l.length,heap_freeze w g l.length cur 5 fz hg⟩)
set_option maxHeartbeats 2000000 in
set_option maxRecDepth 100000 in
theorem u_string_nil (b:Nat) (p:Value) (w:World) (hbk:w.heap[b]? =some (.cells #[p,.slice none 0 0] 203 (0,0))) :
 Calls Tryz.prog 134 #[.pointer (some ⟨b,0,none⟩)] w fun e w'=>e=.returned (.string ⟨#[]⟩)∧Ev.Fr (fun _=>False) w w':=by
 have hUS:∀ (W:World) (q:Option Addr),(Builtin.unsafeString_ #[262,3] 9 #[.pointer q,.int .i64 0]).run Tryz.prog W=.ok (.string .empty) W:=fun W q=>Lib.run_unsafeString_none W _ _ _ q
 have c1:w.drew.cell? ⟨b,1,none⟩=some (.slice none 0 0):=by
  have:w.drew.heap[b]? =some (.cells #[p,.slice none 0 0] 203 (0,0)):=hbk
  rw [Lib.cell_of_heap this];rfl
 have hSD:(Builtin.unsafeSliceData_ #[127] 262 #[.slice none 0 0]).run Tryz.prog w.drew=.ok (.pointer none) w.drew:=rfl
 have mixed:Tryz.prog.follows .mixedOrders=true:=by kernel_rfl
 go_enter Tryz.func134,Tryz.ntmps134
 go_wp2
 go_region_o
 all_goals (go_wp2;go_ret;exact ⟨rfl,(Ev.Fr.refl _ w).drew _⟩)
end
section
namespace Ev
open Go.RowKit
noncomputable section
def jgo (T u8 id:Nat) (l m:Nat) (tot c:Nat) (H:HT) (n:Nat):Rs :=
 cnd (and (Nat.blt n HB) (and (Nat.blt 0 tot) (Nat.ble tot 1000000))) (.ok (.t [.c (.i .i64 (.ofNat l)),.c .ni]) (hset (hset H n (.by' u8 tot c)) id (.bd T (.p id 0) (.su n 0 tot tot 1))) (Nat.add n 1)) .no
def sbBuf (T u8 id l m:Nat) (buf:Sc) (H:HT) (n:Nat):Rs:=match buf with
 | .sn=>cnd (Nat.beq l 0) (.ok (.t [.c (.i .i64 0),.c .ni]) (hset H id (.bd T (.p id 0) .sn)) n) (jgo T u8 id l m l m H n)
 | .su gid off len lb es=>cnd (and (Nat.beq off 0) (and (Nat.beq es 1) (Nat.blt gid HB))) (match hget H gid with
  | .by' e len' c=>cnd (and (Nat.beq e u8) (Nat.beq len len')) (jgo T u8 id l m (Nat.add len l) (Nat.add (Nat.mul (Nat.pow 256 l) c) m) (hset H gid .no) n) .no
  | _=>.no) .no
 | _=>.no
def sbPtr (id:Nat) (a:Sc):Bool:=match a with
 | .pn=>true
 | .p id' off=>and (Nat.beq id' id) (Nat.beq off 0)
 | _=>false
def sbW (T u8:Nat) (args:List V) (H:HT) (n:Nat):Rs:=match args with
 | [.c (.p id off),.c (.s l m)]=>cnd (and (Nat.beq off 0) (Nat.blt id HB)) (match hget H id with
  | .bd e a buf=>cnd (and (Nat.beq e T) (sbPtr id a)) (sbBuf T u8 id l m buf H n) .no
  | _=>.no) .no
 | _=>.no
def sbStr (u8 id:Nat) (buf:Sc) (H:HT) (n:Nat):Rs:=match buf with
 | .sn=>.ok (.c (.s 0 0)) H n
 | .su gid off len lb es=>cnd (and (Nat.beq off 0) (and (Nat.beq es 1) (and (Nat.blt gid HB) (Nat.blt 0 len)))) (match hget H gid with
  | .by' e len' c=>cnd (and (Nat.beq e u8) (Nat.beq len len')) (.ok (.c (.s len c)) H n) .no
  | _=>.no) .no
 | _=>.no
def sbS (T u8:Nat) (args:List V) (H:HT) (n:Nat):Rs:=match args with
 | [.c (.p id off)]=>cnd (and (Nat.beq off 0) (Nat.blt id HB)) (match hget H id with
  | .bd e a buf=>cnd (Nat.beq e T) (sbStr u8 id buf H n) .no
  | _=>.no) .no
 | _=>.no
end
end Ev
end
section
namespace Ev
open Go.RowKit
noncomputable section
abbrev bT:Nat:=203
abbrev bU:Nat:=5
def jbi (P:Program) (fid:Nat) (f:List V→HT→Nat→Rs):Prop:=∀ args H n v H' n',f args H n=.ok v H' n'→n≤n'∧∀ G w (cargs:Array Value),R G (hp H) w→All2 (V.ok G) args cargs.toList→Free G n n' →
 Calls P fid cargs w fun e w'=>∃ cv G',e=.returned cv∧Stp G (hp H) n w G' (hp H') n' w'∧V.ok G' v cv
theorem jcp {G:Gh} {x:V} {cargs:Array Value} (h:All2 (V.ok G) [x] cargs.toList):∃ c,cargs=#[c]∧V.ok G x c:=by
 obtain ⟨l⟩:=cargs
 cases h with
 | cons h1 h2=>cases h2;exact ⟨_,rfl,h1⟩
theorem cargs2 {G:Gh} {x y:V} {cargs:Array Value} (h:All2 (V.ok G) [x,y] cargs.toList):∃ c d,cargs=#[c,d]∧V.ok G x c∧V.ok G y d:=by
 obtain ⟨l⟩:=cargs
 cases h with
 | cons h1 h2=>cases h2 with
   | cons h2 h3=>cases h3;exact ⟨_,_,rfl,h1,h2⟩
theorem jey (s:ByteArray):Lib.strCells s=Lib.byteCells s.data.toList:=rfl
theorem sbNew_ok {G:Gh} {H H1 Hh:HT} {n nn:Nat} {w w':World} {id b:Nat} {vv v':Value} {l0:List UInt8} {s:ByteArray} {lr mr tot c:Nat} {v:V}
 (hR:R G (hp H) w) (hid:id<HB) (hi:hp H id≠.no) (hg:G id=some (b,2)) (hGn:G n=none) (hH1:∀ j,hp H1 j≠.no→hp H1 j=hp H j)
 (hblk:∀ j,hp H1 j≠.no→j≠id→∀ b' sz,G j=some (b',sz)→¬(b'=b∨vv.ownBlock=some b')) (hS:∀ k,vv.ownBlock=some k→Foot G (hp H) k)
 (hU:UBld w' b (.pointer (some ⟨b,0,none⟩)) v' (Lib.byteCells l0++Lib.strCells s)) (hfr:Fr (fun k=>k=b∨vv.ownBlock=some k) w w') (hnew:∀ g,v'.ownBlock=some g→vv.ownBlock=some g∨w.heap.size≤g)
 (hnn:0<l0.length+s.data.toList.length) (htot:tot=l0.length+s.data.toList.length) (hc:c=pk (l0++s.data.toList)) (hlr:lr=s.data.toList.length) (h:jgo bT bU id lr mr tot c H1 n=.ok v Hh nn) :
 nn=n+1∧∃ G',Stp G (hp H) n w G' (hp Hh) nn w'∧V.ok G' v (.tuple #[.int .i64 s.size,.nilIface]):=by
 unfold jgo at h
 obtain ⟨hb,h⟩:=jai h
 rw [Bool.and_eq_true,Bool.and_eq_true] at hb
 have hnb:=jaa hb.1
 cases h
 refine ⟨rfl,?_⟩
 obtain ⟨hbk,hown,hne⟩:=hU
 have hlen:(Lib.byteCells l0++Lib.strCells s).length=tot:=by
  rw [htot,List.length_append,Lib.byteCells_length,jey,Lib.byteCells_length]
 rw [hlen] at hown
 rcases hown.2 with ⟨_,hz⟩ | ⟨g,cap,cur,fz,rfl,_,hgk,hfz,hnc,hcm,hcs,htake⟩
 ·omega
 have hidn:id≠n:=fun e=>by rw [e,hGn] at hg;cases hg
 have hle:Gh.le G (gset G n (g,cap)):=fun j y hy=>by
  unfold gset;split
  ·rename_i e;rw [e,hGn] at hy;cases hy
  ·exact hy
 have hgid:gset G n (g,cap) id=some (b,2):=hle _ _ hg
 have hgn:gset G n (g,cap) n=some (g,cap):=by simp [gset]
 refine ⟨gset G n (g,cap),?_,⟨#[.int .i64 s.size,.nilIface],rfl,.cons ?_ (.cons rfl .nil)⟩⟩
 ·rw [jbv _ hid,jbv _ hnb]
  have e1:∀ j,j≠id→j≠n→upd (upd (hp H1) n (.by' bU tot c)) id (.bd bT (.p id 0) (.su n 0 tot tot 1)) j=hp H1 j:=fun j a b=>by
   unfold upd;rw [if_neg a,if_neg b]
  have e2:upd (upd (hp H1) n (.by' bU tot c)) id (.bd bT (.p id 0) (.su n 0 tot tot 1)) id=.bd bT (.p id 0) (.su n 0 tot tot 1):=by
   unfold upd;rw [if_pos rfl]
  have e3:upd (upd (hp H1) n (.by' bU tot c)) id (.bd bT (.p id 0) (.su n 0 tot tot 1)) n=.by' bU tot c:=by
   unfold upd;rw [if_neg (fun e=>hidn e.symm),if_pos rfl]
  refine jep hR ⟨hle,fun j hj=>?_⟩ hfr (fun k hk=>?_) (fun j=>j=id∨j=n) (fun j h1 h2=>?_) (fun j h1 h2=>?_) (fun i j b' si sj hi' hj' _ _ gi gj=>?_)
  ·have hj:j<n∨n+1≤j:=hj
   unfold gset;rw [if_neg (by omega)]
  ·rcases hk with rfl | hk
   ·exact ⟨id,2,hi,hg⟩
   ·exact hS k hk
  ·have a1:j≠id:=fun e=>h1 (.inl e)
   have a2:j≠n:=fun e=>h1 (.inr e)
   rw [e1 j a1 a2] at h2 ⊢
   exact ⟨hH1 j h2,hblk j h2 a1⟩
  ·rcases h1 with rfl | rfl
   ·rw [e2]
    exact ⟨b,2,_,hgid,hbk,⟨rfl,_,_,rfl,⟨b,2,hgid,rfl⟩,⟨g,cap,cap,hgn,rfl,Nat.le_refl _,hnc,by omega⟩⟩,.inl (.inl rfl)⟩
   ·rw [e3]
    refine ⟨g,cap,_,hgn,hgk,⟨cur,l0++s.data.toList,fz,rfl,by omega,by omega,hcm,by rw [List.length_append,htot],hc.symm,hnc,?_⟩,?_⟩
    ·rw [Nat.mul_one] at htake
     rw [htake,jey]
     simp [Lib.byteCells]
    ·exact (hnew g rfl).imp .inr fun q=>q
  ·rcases hi' with rfl | rfl<;>rcases hj' with rfl | rfl
   ·rfl
   ·rw [hgid] at gi;rw [hgn] at gj
    cases gi;cases gj
    exact absurd rfl hne
   ·rw [hgn] at gi;rw [hgid] at gj
    cases gi;cases gj
    exact absurd rfl hne
   ·rfl
 ·show Value.int .i64 s.size=.int .i64 (.ofNat lr)
  rw [hlr];rfl
theorem sbW_ok:jbi Tryz.prog 130 (sbW bT bU):=by
 intro args H n v H' n' h
 unfold sbW at h
 split at h
 ·rename_i id off l m
  have q:=jai h
  clear h
  obtain ⟨hb,h⟩:=q
  rw [Bool.and_eq_true] at hb
  have hoff:=jae hb.1
  have hid:=jaa hb.2
  subst hoff
  split at h
  ·rename_i e a buf hob
   have q:=jai h
   clear h
   obtain ⟨hb2,h⟩:=q
   rw [Bool.and_eq_true] at hb2
   have he:=jae hb2.1
   subst he
   have hpid:hp H id=.bd bT a buf:=(jas hid).trans hob
   have hne:hp H id≠.no:=by rw [hpid];exact fun q=>by cases q
   have mono:n≤n':=by
    unfold sbBuf at h
    split at h
    ·rcases jfv h with h | h
     ·cases h;exact Nat.le_refl _
     ·unfold jgo at h;obtain ⟨_,h⟩:=jai h;cases h;exact Nat.le_succ _
    ·obtain ⟨_,h⟩:=jai h
     split at h
     ·obtain ⟨_,h⟩:=jai h
      unfold jgo at h;obtain ⟨_,h⟩:=jai h;cases h;exact Nat.le_succ _
     ·cases h
    ·cases h
   refine ⟨mono,fun G w cargs hR ha hf=>?_⟩
   obtain ⟨ca,cb,rfl,ha1,ha2⟩:=cargs2 ha
   obtain ⟨b,sz0,hg,rfl⟩:=ha1
   obtain ⟨s,rfl,hs1,hs2⟩:=ha2
   obtain ⟨b',sz,o,hg',hbk,hok⟩:=hR.1 id hne
   rw [hg] at hg';cases hg'
   rw [hpid] at hok
   obtain ⟨rfl,p,vv,rfl,hpa,hbuf⟩:=hok
   have hp':p=.pointer none∨p=.pointer (some ⟨b,0,none⟩):=by
    have hq:=hb2.2
    unfold sbPtr at hq
    split at hq
    ·exact .inl hpa
    ·rename_i id' off'
     rw [Bool.and_eq_true] at hq
     obtain ⟨b2,s2,k1,k2⟩:=hpa
     rw [jae hq.1,hg] at k1;cases k1
     rw [jae hq.2] at k2
     exact .inr k2
    ·cases hq
   have hsz:s.size=s.data.toList.length:=(Array.length_toList (xs:=s.data)).symm
   have hfn:n<n'→G n=none:=fun q=>hf n (Nat.le_refl _) q
   unfold sbBuf at h
   split at h
   ·
    have hbuf:vv=.slice none 0 0:=hbuf
    subst hbuf
    have hU0:UBld w b p (.slice none 0 0) []:=⟨hbk,World.ownsRowF_nil _ _ _ _,fun q=>by cases q⟩
    have hno:∀ k,¬((Value.slice none 0 0).ownBlock=some k):=fun k q=>by cases q
    have hinj:∀ j,hp H j≠.no→j≠id→∀ b' sz,G j=some (b',sz)→¬(b'=b∨(Value.slice none 0 0).ownBlock=some b'):=fun j j1 j2 b' sz j3 j4=>by
     rcases j4 with rfl | j4
     ·exact j2 (hR.2 j id b' sz 2 j1 hne j3 hg)
     ·exact hno _ j4
    cases hl:Nat.beq l 0 with
    | true =>
      rw [hl] at h
      have h:Rs.ok (.t [.c (.i .i64 0),.c .ni]) (hset H id (.bd bT (.p id 0) .sn)) n=.ok v H' n':=h
      cases h
      have hl0:=jae hl
      have hs0:s.size=0:=by omega
      refine (u_write b p _ [] s w hU0 hp' (by rw [List.length_nil];omega)).mono ?_
      rintro e w' ⟨rfl,v',hU,hfr,hnil,_⟩
      have hv':=hnil.2 ⟨rfl,hs0⟩
      subst hv'
      refine ⟨_,G,rfl,?_,⟨#[.int .i64 s.size,.nilIface],rfl,.cons (by rw [hs0];rfl) (.cons rfl .nil)⟩⟩
      rw [jbv _ hid]
      refine jep hR (Ext.refl _ _ _) hfr (fun k hk=>?_) (fun j=>j=id) (fun j h1 h2=>?_) (fun j h1 h2=>?_) (fun i j _ _ _ hi hj _ _ _ _=>hi.trans hj.symm)
      ·rcases hk with rfl | hk
       ·exact ⟨id,2,hne,hg⟩
       ·exact absurd hk (hno _)
      ·unfold upd at h2 ⊢
       rw [if_neg h1] at h2 ⊢
       exact ⟨rfl,hinj j h2 h1⟩
      ·have h1:j=id:=h1
       subst h1
       unfold upd
       rw [if_pos rfl]
       exact ⟨b,2,_,hg,hU.1,⟨rfl,_,_,rfl,⟨b,2,hg,rfl⟩,rfl⟩,.inl (.inl rfl)⟩
    | false =>
      rw [hl] at h
      have h:jgo bT bU id l m l m H n=.ok v H' n':=h
      have hl0:l≠0:=fun e=>by rw [e] at hl;cases hl
      have hlt:l≤1000000:=by
       have h:=h
       unfold jgo at h
       have q:=(jai h).1
       rw [Bool.and_eq_true,Bool.and_eq_true] at q
       exact Nat.le_of_ble_eq_true q.2.2
      have hnn:n'=n+1:=by
       have h:=h
       unfold jgo at h
       obtain ⟨_,h⟩:=jai h
       cases h;rfl
      refine (u_write b p _ [] s w hU0 hp' (by rw [List.length_nil];omega)).mono ?_
      rintro e w' ⟨rfl,v',hU,hfr,_,hnew⟩
      obtain ⟨_,G',k1,k2⟩:=sbNew_ok (l0:=[]) hR hid hne hg (hfn (by omega)) (fun j _=>rfl) hinj (fun k q=>absurd q (hno k)) (by simpa [Lib.byteCells] using hU) hfr hnew (by rw [List.length_nil];omega) (by rw [List.length_nil];omega) (by rw [List.nil_append];exact hs2.symm) hs1.symm h
      exact ⟨_,G',rfl,k1,k2⟩
   ·
    rename_i gid off len lb es
    have q:=jai h
    clear h
    obtain ⟨hb3,h⟩:=q
    rw [Bool.and_eq_true,Bool.and_eq_true] at hb3
    have e1:=jae hb3.1
    have e2:=jae hb3.2.1
    have hgid:=jaa hb3.2.2
    subst e1
    subst e2
    split at h
    ·rename_i e len' c hog
     have q:=jai h
     clear h
     obtain ⟨hb4,h⟩:=q
     rw [Bool.and_eq_true] at hb4
     have e3:=jae hb4.1
     have e4:=jae hb4.2
     subst e3
     subst e4
     have hpg:hp H gid=.by' bU len c:=(jas hgid).trans hog
     have hneg:hp H gid≠.no:=by rw [hpg];exact fun q=>by cases q
     obtain ⟨g,szg,og,hgg,hgk,hgo⟩:=hR.1 gid hneg
     rw [hpg] at hgo
     obtain ⟨arr,l0,fz,rfl,f1,f2,f3,f4,f5,f6,f7⟩:=hgo
     obtain ⟨g',sz',cc,hgg',rfl,f8,f9,f10⟩:=hbuf
     rw [hgg] at hgg';cases hgg'
     have hgi:gid≠id:=fun e=>by rw [e,hpid] at hpg;cases hpg
     have hgb:g≠b:=fun e=>by subst e;exact hgi (hR.2 gid id g _ 2 hneg hne hgg hg)
     have hbl:(Lib.byteCells l0).length=len:=by rw [Lib.byteCells_length];exact f4
     have hU0:UBld w b p (.slice (some ⟨g,0,none⟩) len cc) (Lib.byteCells l0):=by
      refine ⟨hbk,⟨by rw [Nat.mul_one],.inr ⟨g,cc,arr,fz,?_,Nat.zero_le _,hgk,by omega,by omega,by omega,by omega,?_⟩⟩,fun q=>hgb (by cases q;rfl)⟩
      ·rw [hbl]
      ·rw [hbl,Nat.mul_one];exact f7
     have hob':∀ k,(Value.slice (some ⟨g,0,none⟩) len cc).ownBlock=some k→k=g:=fun k q=>by cases q;rfl
     have htl:Nat.add len l≤1000000:=by
      have h:=h
      unfold jgo at h
      have q:=(jai h).1
      rw [Bool.and_eq_true,Bool.and_eq_true] at q
      exact Nat.le_of_ble_eq_true q.2.2
     have htz:0<len+l:=by
      have h:=h
      unfold jgo at h
      have q:=(jai h).1
      rw [Bool.and_eq_true,Bool.and_eq_true] at q
      exact jaa q.2.1
     have htl:len+l≤1000000:=htl
     have hnn:n'=n+1:=by
      have h:=h
      unfold jgo at h
      obtain ⟨_,h⟩:=jai h
      cases h;rfl
     by_cases hz:0<len+l
     ·refine (u_write b p _ _ s w hU0 hp' (by rw [hbl];omega)).mono ?_
      rintro e w' ⟨rfl,v',hU,hfr,_,hnew⟩
      have hH1:∀ j,hp (hset H gid .no) j≠.no→j≠gid∧hp (hset H gid .no) j=hp H j:=fun j hj=>by
       rw [jbv _ hgid] at hj ⊢
       unfold upd at hj ⊢
       by_cases q:j=gid
       ·rw [if_pos q] at hj;exact absurd rfl hj
       ·rw [if_neg q];exact ⟨q,rfl⟩
      obtain ⟨_,G',k1,k2⟩:=sbNew_ok (l0:=l0) hR hid hne hg (hfn (by omega)) (fun j hj=>(hH1 j hj).2) (fun j j1 j2 b' sz j3 j4=>by
       obtain ⟨m1,m2⟩:=hH1 j j1
       rw [m2] at j1
       rcases j4 with rfl | j4
       ·exact j2 (hR.2 j id b' sz 2 j1 hne j3 hg)
       ·have:=hob' b' j4
        subst this
        exact m1 (hR.2 j gid b' sz _ j1 hneg j3 hgg)) (fun k q=>by rw [hob' k q];exact ⟨gid,_,hneg,hgg⟩) hU hfr hnew (by omega) (by show len+l=_;omega) (by
       rw [pk_append,f5,hs2,hs1];rfl) hs1.symm h
      exact ⟨_,G',rfl,k1,k2⟩
     ·exact absurd htz hz
    ·cases h
   ·cases h
  ·cases h
 ·cases h
theorem sbS_ok:jbi Tryz.prog 134 (sbS bT bU):=by
 intro args H n v H' n' h
 unfold sbS at h
 split at h
 ·rename_i id off
  have q:=jai h
  clear h
  obtain ⟨hb,h⟩:=q
  rw [Bool.and_eq_true] at hb
  have hoff:=jae hb.1
  have hid:=jaa hb.2
  subst hoff
  split at h
  ·rename_i e a buf hob
   have q:=jai h
   clear h
   obtain ⟨hb2,h⟩:=q
   have he:=jae hb2
   subst he
   have hpid:hp H id=.bd bT a buf:=(jas hid).trans hob
   have hne:hp H id≠.no:=by rw [hpid];exact fun q=>by cases q
   have mono:n≤n':=by
    unfold sbStr at h
    split at h
    ·cases h;exact Nat.le_refl _
    ·obtain ⟨_,h⟩:=jai h
     split at h
     ·obtain ⟨_,h⟩:=jai h
      cases h;exact Nat.le_refl _
     ·cases h
    ·cases h
   refine ⟨mono,fun G w cargs hR ha hf=>?_⟩
   obtain ⟨ca,rfl,ha1⟩:=jcp ha
   obtain ⟨b,sz0,hg,rfl⟩:=ha1
   obtain ⟨b',sz,o,hg',hbk,hok⟩:=hR.1 id hne
   rw [hg] at hg';cases hg'
   rw [hpid] at hok
   obtain ⟨rfl,p,vv,rfl,hpa,hbuf⟩:=hok
   unfold sbStr at h
   split at h
   ·cases h
    have hbuf:vv=.slice none 0 0:=hbuf
    subst hbuf
    refine (u_string_nil b p w hbk).mono ?_
    rintro e w' ⟨rfl,hfr⟩
    refine ⟨_,G,rfl,jep hR (Ext.refl _ _ _) hfr (fun _ q=>q.elim) (fun _=>False) (fun j _ _=>⟨rfl,fun _ _ _ q=>q⟩) (fun j q=>q.elim) (fun i j _ _ _ q=>q.elim),?_⟩
    exact ⟨⟨#[]⟩,rfl,rfl,rfl⟩
   ·rename_i gid off len lb es
    have q:=jai h
    clear h
    obtain ⟨hb3,h⟩:=q
    rw [Bool.and_eq_true,Bool.and_eq_true,Bool.and_eq_true] at hb3
    have e1:=jae hb3.1
    have e2:=jae hb3.2.1
    have hgid:=jaa hb3.2.2.1
    have hl0:=jaa hb3.2.2.2
    subst e1
    subst e2
    split at h
    ·rename_i e len' c hog
     have q:=jai h
     clear h
     obtain ⟨hb4,h⟩:=q
     rw [Bool.and_eq_true] at hb4
     have e3:=jae hb4.1
     have e4:=jae hb4.2
     subst e3
     subst e4
     cases h
     have hpg:hp H gid=.by' bU len c:=(jas hgid).trans hog
     have hneg:hp H gid≠.no:=by rw [hpg];exact fun q=>by cases q
     obtain ⟨g,szg,og,hgg,hgk,hgo⟩:=hR.1 gid hneg
     rw [hpg] at hgo
     obtain ⟨arr,l0,fz,rfl,f1,f2,f3,f4,f5,f6,f7⟩:=hgo
     obtain ⟨g',sz',cc,hgg',rfl,f8,f9,f10⟩:=hbuf
     rw [hgg] at hgg';cases hgg'
     subst f4
     refine (u_string b g cc p l0 arr fz w hbk hgk (fun q=>by rw [q] at hl0;exact absurd hl0 (by decide)) (by omega) (by omega) (by omega) f7).mono ?_
     rintro e w' ⟨rfl,hfr,fz',hgk',hfz'⟩
     refine ⟨_,G,rfl,?_,?_⟩
     ·refine jep hR (Ext.refl _ _ _) hfr (fun k hk=>?_) (fun j=>j=gid) (fun j h1 h2=>⟨rfl,fun b' sz j3 j4=>h1 ?_⟩) (fun j q hj=>?_) (fun i j b1 s1 s2 h1 h2 _ _ _ _=>Eq.trans (b:=gid) h1 (Eq.symm h2))
      ·have hk:k=g:=hk
       rw [hk];exact ⟨gid,_,hneg,hgg⟩
      ·have j4:b'=g:=j4
       subst j4
       exact hR.2 j gid b' sz _ h2 hneg j3 hgg
      ·have q:j=gid:=q
       subst q
       refine ⟨g,_,_,hgg,hgk',?_,.inl rfl⟩
       rw [hpg]
       exact ⟨arr,l0,fz',rfl,hfz' f1,f2,f3,rfl,f5,f6,f7⟩
     ·exact ⟨⟨l0.toArray⟩,rfl,rfl,f5⟩
    ·cases h
   ·cases h
  ·cases h
 ·cases h
end
end Ev
end
section
namespace Ev
open Go.RowKit Go.ChangeMaps Go.MapKept
noncomputable section
def syT (len dep:Nat):List (Sc×E)→T8 Sc→Option (T8 Sc)
 | [],t=>some t
 | (.i .i64 (.ofNat k),.c (.s l m))::r,t=>cnd (Nat.blt k len) (T8.fc (tset dep t k (.s l m)) fun t=>syT len dep r t) none
 | _::_,_=>none
def syRow (n:Nat) (x:Bool) (dep:Nat) (d:Sc) (t:Option (T8 Sc)):Option Ob:=match t with
 | some t=>some (.row n x dep d t)
 | none=>none
def syOb (len:Nat) (es:List (Sc×E)) (o:Ob):Option Ob:=match o with
 | .row n x dep d t=>cnd (Nat.ble len n) (syRow n x dep d (syT len dep es t)) none
 | _=>none
def syPut (id lid len mid:Nat) (H:HT) (n:Nat):Rs :=
 cnd (and (and (Nat.blt lid HB) (Nat.blt mid HB)) (not (Nat.beq lid id))) (match hget H mid with
  | .mp es=>(match syOb len es (hget H lid) with
    | some o=>.ok (.c (.i .i64 0)) (hset (hset H lid o) mid (.mp [])) n
    | none=>.no)
  | _=>.no) .no
def syA (id:Nat) (a b c:Sc) (H:HT) (n:Nat):Rs:=match b,c with
 | .m mid,.pn=>(match a with
   | .sk lid off len cap es=>cnd (Nat.beq off 0) (syPut id lid len mid H n) .no
   | .su lid off len lb es=>cnd (Nat.beq off 0) (syPut id lid len mid H n) .no
   | _=>.no)
 | _,_=>.no
def sSync (args:List V) (H:HT) (n:Nat):Rs:=match args with
 | [.c (.p id off)]=>cnd (and (Nat.beq off 0) (Nat.blt id HB)) (match hget H id with
   | .row k x dep d t=>cnd (Nat.ble 3 k) (syA id (tget dep d t 0) (tget dep d t 1) (tget dep d t 2) H n) .no
   | _=>.no) .no
 | _=>.no
section
variable {G:Gh} {len dep:Nat} {d:Sc}
abbrev KvOk (G:Gh) (p:Sc×E) (e:MapEntry):Prop:=Sc.ok G p.1 e.key∧E.ok G p.2 e.val
theorem syT_keys:∀ {es:List (Sc×E)} {ents:List MapEntry} {t t':T8 Sc},All2 (KvOk G) es ents→syT len dep es t=some t'→∀ e∈ents,∃ (j:Nat) (s:ByteArray),e.key=.int .i64 (j:Int)∧e.val=.string s∧j<len
 | _,_,t,t',.nil,h,e,he=>by cases he
 | _::_,_::_,t,t',.cons (a:=p) (b:=e0) hp hr,h,e,he=>by
   unfold syT at h
   split at h
   ·cases ‹_::_=[]›
   ·rename_i k l m r heq
    cases heq
    obtain ⟨h1,h⟩:=jab h
    rw [T8.fc_eq] at h
    obtain ⟨s,hs,_⟩:∃ s:ByteArray,e0.val=.string s∧s.data.toList.length=l∧pk s.data.toList=m:=hp.2
    rcases List.mem_cons.1 he with rfl | he
    ·exact ⟨k,s,hp.1,hs,jaa h1⟩
    ·exact syT_keys hr h e he
   ·cases h
theorem syT_ok:∀ {es:List (Sc×E)} {ents:List MapEntry} {t t':T8 Sc},All2 (KvOk G) es ents→len≤8^dep→syT len dep es t=some t'→∀ i:Nat,i<8^dep →
 (∃ e∈ents,e.key=.int .i64 (i:Int)∧Sc.ok G (tget dep d t' i) e.val)∨((∀ e∈ents,e.key≠.int .i64 (i:Int))∧tget dep d t' i=tget dep d t i)
 | _,_,t,t',.nil,hl,h,i,hi=>by
   have h:some t=some t':=h
   cases h
   exact .inr ⟨fun e he=>(by cases he),rfl⟩
 | _::_,_::_,t,t',.cons (a:=p) (b:=e0) hp hr,hl,h,i,hi=>by
   unfold syT at h
   split at h
   ·cases ‹_::_=[]›
   ·rename_i k l m r heq
    cases heq
    obtain ⟨h1,h⟩:=jab h
    rw [T8.fc_eq] at h
    have hk:k<len:=jaa h1
    rcases syT_ok hr hl h i hi with ⟨e,he,h2,h3⟩ | ⟨h2,h3⟩
    ·exact .inl ⟨e,List.mem_cons_of_mem _ he,h2,h3⟩
    ·rw [jay (by omega) hi] at h3
     by_cases q:i=k
     ·rw [if_pos q] at h3
      refine .inl ⟨e0,List.mem_cons_self ..,?_,?_⟩
      ·rw [q];exact hp.1
      ·rw [h3];exact hp.2
     ·rw [if_neg q] at h3
      refine .inr ⟨fun e he hk'=>?_,h3⟩
      rcases List.mem_cons.1 he with rfl | he
      ·have h4:e.key=.int .i64 (k:Int):=hp.1
       rw [h4] at hk'
       have:=(Value.int.inj hk').2
       omega
      ·exact h2 e he hk'
   ·cases h
end
theorem syPut_ok {G:Gh} {H H':HT} {n n':Nat} {v:V} {id lid len mid b sz kk dep:Nat} {x:Bool} {d:Sc} {t:T8 Sc} {w:World} (hR:R G (hp H) w) (hid:id<HB) (hpid:hp H id=.row kk x dep d t) (hg:G id=some (b,sz)) (h3:3≤kk)
 (h0:∀ bl szl,G lid=some (bl,szl)→∀ dr del dfz,w.heap[b]? =some (.cells dr del dfz)→Sc.ok G (tget dep d t 0) (dr.getD 0 undef)→∃ cap,dr.getD 0 undef=.slice (some ⟨bl,0,none⟩) len cap)
 (hlG:∃ bl szl,G lid=some (bl,szl)) (hm1:tget dep d t 1=.m mid) (hm2:tget dep d t 2=.pn) (h:syPut id lid len mid H n=.ok v H' n') :
 n≤n'∧Calls Tryz.prog 168 #[.pointer (some ⟨b,0,none⟩)] w fun e w'=>∃ cv G',e=.returned cv∧Stp G (hp H) n w G' (hp H') n' w'∧V.ok G' v cv:=by
 unfold syPut at h
 have qq:=jai h
 clear h
 obtain ⟨hb,h⟩:=qq
 rw [Bool.and_eq_true,Bool.and_eq_true,Bool.not_eq_true'] at hb
 have hlid:=jaa hb.1.1
 have hmid:=jaa hb.1.2
 have hlne:lid≠id:=Nat.ne_of_beq_eq_false hb.2
 split at h
 ·rename_i es hes
  split at h
  ·rename_i o ho
   cases h
   refine ⟨Nat.le_refl _,?_⟩
   unfold syOb at ho
   split at ho
   ·rename_i nr xr depr dr0 tr hlo
    obtain ⟨hle,ho⟩:=jab ho
    have hle:=jad hle
    unfold syRow at ho
    split at ho
    ·rename_i t' hsy
     cases ho
     have hpl:hp H lid=.row nr xr depr dr0 tr:=(jas hlid).trans hlo
     have hpm:hp H mid=.mp es:=(jas hmid).trans hes
     have nid:hp H id≠.no:=by rw [hpid];exact fun q=>by cases q
     have nl:hp H lid≠.no:=by rw [hpl];exact fun q=>by cases q
     have nm:hp H mid≠.no:=by rw [hpm];exact fun q=>by cases q
     obtain ⟨b',sz',ob,g1,k1,o1⟩:=hR.1 id nid
     rw [hg] at g1;cases g1
     rw [hpid] at o1
     obtain ⟨drr,del,dfz,rfl,s1,s2,s3,s4,s5,s6⟩:=o1
     obtain ⟨bl,szl,ol,gl,kl,o2⟩:=hR.1 lid nl
     rw [hpl] at o2
     obtain ⟨arr,el,fz,rfl,r1,r2,r3,r4,r5,r6⟩:=o2
     obtain ⟨bm,szm,om,gm,km,o3⟩:=hR.1 mid nm
     rw [hpm] at o3
     obtain ⟨ents,clock,rfl,hst,hall⟩:=o3
     obtain ⟨cap,hc0⟩:=h0 bl szl gl drr del dfz k1 (s6 0 (by omega))
     have hc1:drr.getD 1 undef=.map (some bm):=by
      have:=s6 1 (by omega)
      rw [hm1] at this
      obtain ⟨b2,sz2,q1,q2⟩:=this
      rw [gm] at q1;cases q1
      exact q2
     have hc2:drr.getD 2 undef=.pointer none:=by
      have:=s6 2 (by omega)
      rw [hm2] at this
      exact this
     have hbl:bl≠b:=fun e=>by subst e;exact hlne (hR.2 lid id bl szl sz nl nid gl hg)
     have hkeys:=syT_keys hall hsy
     refine (u_sync b bl bm len cap clock arr drr el del fz dfz ents w k1 (by omega) hc0 hc1 hc2 kl (fun i hi=>r5 i (by omega)) (by omega) km hst hkeys hbl).mono ?_
     rintro e w' ⟨rfl,arr',seen,hw1,hsa,hseen,hw2,hfr⟩
     refine ⟨_,G,rfl,?_,rfl⟩
     have hml:mid≠lid:=fun e=>by rw [e,hpl] at hpm;cases hpm
     have e1:∀ j,j≠lid→j≠mid→upd (upd (hp H) lid (.row nr xr depr dr0 t')) mid (.mp []) j=hp H j:=fun j a b=>by
      unfold upd;rw [if_neg b,if_neg a]
     have e2:upd (upd (hp H) lid (.row nr xr depr dr0 t')) mid (.mp []) lid=.row nr xr depr dr0 t':=by
      unfold upd;rw [if_neg (fun e=>hml e.symm),if_pos rfl]
     have e3:upd (upd (hp H) lid (.row nr xr depr dr0 t')) mid (.mp []) mid=.mp []:=by
      unfold upd;rw [if_pos rfl]
     rw [jbv _ hmid,jbv _ hlid]
     refine jep hR (Ext.refl _ _ _) hfr (fun k hk=>?_) (fun j=>j=lid∨j=mid) (fun j h1 h2=>?_) (fun j h1 h2=>?_) (fun i j b' si sj hi' hj' _ _ gi gj=>?_)
     ·rcases hk with rfl | rfl
      ·exact ⟨lid,szl,nl,gl⟩
      ·exact ⟨mid,szm,nm,gm⟩
     ·have a1:j≠lid:=fun e=>h1 (.inl e)
      have a2:j≠mid:=fun e=>h1 (.inr e)
      rw [e1 j a1 a2] at h2 ⊢
      refine ⟨rfl,fun b' sz' g'=>?_⟩
      rintro (rfl | rfl)
      ·exact a1 (hR.2 j lid _ _ _ h2 nl g' gl)
      ·exact a2 (hR.2 j mid _ _ _ h2 nm g' gm)
     ·rcases h1 with rfl | rfl
      ·rw [e2]
       refine ⟨bl,szl,_,gl,hw1,⟨arr',el,fz,rfl,hsa.1.trans r1,r2,r3,r4,r5,fun i hi=>?_⟩,.inl (.inl rfl)⟩
       rcases syT_ok (d:=dr0) hall (by omega) hsy i (by omega) with ⟨e,he,hk,hv⟩ | ⟨hk,hv⟩
       ·rcases hsa.2 i (by omega) with ⟨e',he',hk',_,hv'⟩ | ⟨hk',_⟩
        ·have:=URng.same hst he he' (hk.trans hk'.symm)
         subst this
         rw [hv'];exact hv
        ·have:=hk' e he hk
         rw [hseen e he] at this;cases this
       ·rcases hsa.2 i (by omega) with ⟨e',he',hk',_⟩ | ⟨_,hv'⟩
        ·exact absurd hk' (hk e' he')
        ·rw [hv,hv'];exact r6 i hi
      ·rw [e3]
       exact ⟨bm,szm,_,gm,hw2,⟨#[],clock,rfl,stamped_empty clock,.nil⟩,.inl (.inr rfl)⟩
     ·rcases hi' with rfl | rfl<;>rcases hj' with rfl | rfl
      ·rfl
      ·rw [gl] at gi;rw [gm] at gj
       cases gi;cases gj
       exact absurd (hR.2 _ _ _ _ _ nm nl gm gl) hml
      ·rw [gm] at gi;rw [gl] at gj
       cases gi;cases gj
       exact absurd (hR.2 _ _ _ _ _ nm nl gm gl) hml
      ·rfl
    ·cases ho
   ·cases ho
  ·cases h
 ·cases h
theorem sSync_ok:jbi Tryz.prog 168 sSync:=by
 intro args H n v H' n' h
 unfold sSync at h
 split at h
 ·rename_i id off
  have qq:=jai h
  clear h
  obtain ⟨hb,h⟩:=qq
  rw [Bool.and_eq_true] at hb
  have hoff:=jae hb.1
  have hid:=jaa hb.2
  subst hoff
  split at h
  ·rename_i k x dep d t hob
   have qq:=jai h
   clear h
   obtain ⟨hk,h⟩:=qq
   have hk:=jad hk
   have hpid:hp H id=.row k x dep d t:=(jas hid).trans hob
   unfold syA at h
   split at h
   ·rename_i mid hm1 hm2
    split at h
    ·rename_i lid loff len cap es h0
     have qq:=jai h
     clear h
     obtain ⟨q,h⟩:=qq
     have q:=jae q
     subst q
     have mono:n≤n':=by
      unfold syPut at h
      have qq:=jai h
      clear h
      obtain ⟨_,h⟩:=qq
      split at h
      ·split at h
       ·cases h;exact Nat.le_refl _
       ·cases h
      ·cases h
     refine ⟨mono,fun G w cargs hR ha hf=>?_⟩
     obtain ⟨ca,rfl,ha1⟩:=jcp ha
     obtain ⟨b,sz,hg,rfl⟩:=ha1
     have nid:hp H id≠.no:=by rw [hpid];exact fun q=>by cases q
     obtain ⟨b',sz',ob,g1,k1,o1⟩:=hR.1 id nid
     rw [hg] at g1;cases g1
     rw [hpid] at o1
     obtain ⟨drr,del,dfz,rfl,s1,s2,s3,s4,s5,s6⟩:=o1
     have s60:=s6 0 (by omega)
     rw [h0] at s60
     obtain ⟨bl,szl,gl,q2,_⟩:=s60
     exact (syPut_ok hR hid hpid hg hk (fun bl' szl' gl' dr del' dfz' _ hs=>by
      rw [h0] at hs
      obtain ⟨b2,s2,g2,hv,_⟩:=hs
      rw [gl'] at g2;cases g2
      exact ⟨_,hv⟩) ⟨bl,szl,gl⟩ hm1 hm2 h).2
    ·rename_i lid loff len lb es h0
     have qq:=jai h
     clear h
     obtain ⟨q,h⟩:=qq
     have q:=jae q
     subst q
     have mono:n≤n':=by
      unfold syPut at h
      have qq:=jai h
      clear h
      obtain ⟨_,h⟩:=qq
      split at h
      ·split at h
       ·cases h;exact Nat.le_refl _
       ·cases h
      ·cases h
     refine ⟨mono,fun G w cargs hR ha hf=>?_⟩
     obtain ⟨ca,rfl,ha1⟩:=jcp ha
     obtain ⟨b,sz,hg,rfl⟩:=ha1
     have nid:hp H id≠.no:=by rw [hpid];exact fun q=>by cases q
     obtain ⟨b',sz',ob,g1,k1,o1⟩:=hR.1 id nid
     rw [hg] at g1;cases g1
     rw [hpid] at o1
     obtain ⟨drr,del,dfz,rfl,s1,s2,s3,s4,s5,s6⟩:=o1
     have s60:=s6 0 (by omega)
     rw [h0] at s60
     obtain ⟨bl,szl,cc,gl,q2,_⟩:=s60
     exact (syPut_ok hR hid hpid hg hk (fun bl' szl' gl' dr del' dfz' _ hs=>by
      rw [h0] at hs
      obtain ⟨b2,s2,c2,g2,hv,_⟩:=hs
      rw [gl'] at g2;cases g2
      exact ⟨_,hv⟩) ⟨bl,szl,gl⟩ hm1 hm2 h).2
    ·cases h
   ·cases h
  ·cases h
 ·cases h
end
end Ev
end
section
open Go.RowKit Go.ChangeMaps Go.MapKept Go.Maps
open Go.WideElems (Fit rg rg_of rd_key)
abbrev anyElem (v:Value):Option (DataW Nat×List MemPlace):=some (.nil,[])
theorem u_sortsIn (m:Nat):AnyZI.SortsIn Tryz.prog Tryz.sortedA_ren Fence.wide m :=
 ⟨fun blk off cap ss W hH hblk hsz=>callsIn_wide.2 (AnyM.slices_Sort_int Tryz.sortA blk off cap ss W hH hblk hsz),
  fun p cap W=>callsIn_wide.2 (AnyM.slices_Sort_int_none Tryz.sortA p cap W)⟩
theorem jfz (Bm:Nat) (S:List Int→Prop) (N:Nat) (hN:N≤1000000) (w:World) (hseq:SeqGives Fence.wide 2 Tryz.prog 181 #[.pointer (some ⟨Bm,0,none⟩)] encZ S N w) :
 Calls Tryz.prog 117 #[.func (.func 181) #[] #[.pointer (some ⟨Bm,0,none⟩)]] w fun e w'=>∃ (v:Value) (ss:List Int),e=.returned v∧S ss∧w'.ownsRow w.heap.size 3 1 v ss.length ((ss.mergeSort (fun x y=>decide (x≤y))).map encZ)∧(v=.slice none 0 0↔ss=[])∧Below w.heap.size w w':=by
 have cS:=AnyZI.sorted_in Tryz.sortedA Fence.wide 5 trivial trivial trivial trivial rfl (by omega) (u_sortsIn _) (enters_of Tryz.func180 (by kernel_rfl) rfl) 181 #[.pointer (some ⟨Bm,0,none⟩)] trivial (enters_of Tryz.func181 (by kernel_rfl) rfl) S N (by unfold maxLen;omega) (by omega) w hseq
 exact callsIn_wide.1 cS
set_option maxRecDepth 100000 in
theorem u_sorted (Bm bm clock:Nat) (ents:Array MapEntry) (ks:List Nat) (w:World) (hm:w.cell? ⟨Bm,0,none⟩=some (.map (some bm))) (hb:w.heap[bm]? =some (.map ents clock)) (hst:Stamped ents clock) (hk:ents.toList.map MapEntry.key=ks.map fun (k:Nat)=>Value.int .i64 (k:Int)) (hl:ks.length≤1000000) (hks:∀ k∈ks,k<9223372036854775808) :
 Calls Tryz.prog 117 #[.func (.func 181) #[] #[.pointer (some ⟨Bm,0,none⟩)]] w fun e w'=>∃ (v:Value),e=.returned v∧w'.ownsRow w.heap.size 3 1 v ks.length (((ks.map Int.ofNat).mergeSort leI).map encZ)∧(v=.slice none 0 0↔ks=[])∧Below w.heap.size w w':=by
 have hsz:ents.size=ks.length:=by rw [←Array.length_toList,←List.length_map (f:=MapEntry.key),hk,List.length_map]
 have hrd:∀ x∈ents.toList,∃ k∈ks,Go.WideElems.rd Tryz.prog 3 anyElem x=some (.int .i64 (k:Int),.nil):=fun x hx=>by
  have:x.key∈ents.toList.map MapEntry.key:=List.mem_map.2 ⟨x,hx,rfl⟩
  rw [hk] at this
  obtain ⟨k,hk1,hk2⟩:=List.mem_map.1 this
  refine ⟨k,hk1,?_⟩
  unfold Go.WideElems.rd
  rw [←hk2,keyOf_int_mk Tryz.underlying3 (by have:=hks k hk1;simp [Lit.wf,IntKind.min,IntKind.max,IntKind.bits,IntKind.signed];omega)]
  rfl
 have hF:Fit Tryz.prog 3 anyElem ents clock:=⟨by unfold maxLen;omega,hst,fun x hx=>by obtain ⟨k,_,h⟩:=hrd x hx;exact ⟨_,h⟩⟩
 have hown:w.ownsMap Tryz.prog 3 anyElem bm ents.size (.map ((ents.toList.map (rg Tryz.prog 3 anyElem)).foldr DataW.insert [])):=⟨ents,clock,hb,hF,Nat.le_refl _,rfl⟩
 have hmsz:Maps.size (DataW.map ((ents.toList.map (rg Tryz.prog 3 anyElem)).foldr DataW.insert []))=ks.length:=by
  simp [Maps.size,DataW.length_sorted,hsz]
 have hik:(intKeys (DataW.map ((ents.toList.map (rg Tryz.prog 3 anyElem)).foldr DataW.insert []))).Perm (ks.map Int.ofNat):=by
  show (((ents.toList.map (rg Tryz.prog 3 anyElem)).foldr DataW.insert []).map fun p=>_root_.Go.intOf p.1).Perm _
  refine ((Go.WideShapes.sorted_perm _).map _).trans (List.Perm.of_eq ?_)
  rw [List.map_map]
  have:∀ l:List MapEntry,(∀ x∈l,x∈ents.toList)→∀ ks':List Nat,l.map MapEntry.key=ks'.map (fun (k:Nat)=>Value.int .i64 (k:Int))→l.map ((fun p=>_root_.Go.intOf p.1)∘rg Tryz.prog 3 anyElem)=ks'.map Int.ofNat:=by
   intro l
   induction l with
   | nil=>intro _ ks' h;cases ks' with
     | nil=>rfl
     | cons _ _=>simp at h
   | cons x l ih=>intro hx ks' h;cases ks' with
     | nil=>simp at h
     | cons k ks' =>
       simp only [List.map_cons,List.cons.injEq] at h ⊢
       refine ⟨?_,ih (fun y hy=>hx y (List.mem_cons_of_mem _ hy)) ks' h.2⟩
       obtain ⟨k',_,hr⟩:=hrd x (hx x (List.mem_cons_self ..))
       show _root_.Go.intOf (rg Tryz.prog 3 anyElem x).1=_
       rw [rg_of hr]
       have h1:=rd_key hr
       rw [h.1] at h1
       obtain ⟨z,hz1,hz2,_⟩:=Maps.keyOf_i64 Tryz.underlying3 h1
       have hz2:Lit.int .i64 (k':Int)=.int .i64 z:=hz2
       have hz1:Value.int .i64 (k:Int)=.int .i64 z:=hz1
       have a1:=(Lit.int.inj hz2).2
       have a2:=(Value.int.inj hz1).2
       show (k':Int)=(k:Int)
       omega
  exact this _ (fun _ h=>h) ks hk
 have hBm:Bm<w.heap.size:=by
  rcases Nat.lt_or_ge Bm w.heap.size with q | q
  ·exact q
  ·simp [World.cell?,Array.getElem?_eq_none q] at hm
 have hseq:=AnyZI.keys_gives (ρ:=Tryz.keysA_ren) { Tryz.keysA with } Fence.wide 2 trivial rfl (by omega) Bm bm ents.size _ w hBm hm hown
 refine (jfz Bm _ _ (by rw [hmsz];exact hl) w hseq).mono ?_
 rintro e w' ⟨v,ss,rfl,hS,hrow,hnil,hb'⟩
 have hp:=hS.trans hik
 have hlen:ss.length=ks.length:=by rw [hp.length_eq,List.length_map]
 refine ⟨v,rfl,?_,hnil.trans ⟨fun h=>?_,fun h=>?_⟩,hb'⟩
 ·rw [←hlen,←mergeSort_of_perm_i hp];exact hrow
 ·subst h;simp at hlen;exact List.eq_nil_of_length_eq_zero hlen.symm
 ·subst h;simp at hlen;exact hlen
theorem u_sorted_nil (Bm:Nat) (w:World) (hm:w.cell? ⟨Bm,0,none⟩=some (.map none)) :
 Calls Tryz.prog 117 #[.func (.func 181) #[] #[.pointer (some ⟨Bm,0,none⟩)]] w fun e w'=>e=.returned (.slice none 0 0)∧Below w.heap.size w w':=by
 have hBm:Bm<w.heap.size:=by
  rcases Nat.lt_or_ge Bm w.heap.size with q | q
  ·exact q
  ·simp [World.cell?,Array.getElem?_eq_none q] at hm
 have hseq:=AnyZI.keys_gives_nil (ρ:=Tryz.keysA_ren) { Tryz.keysA with } Fence.wide 2 trivial rfl Bm w hBm hm
 refine (jfz Bm _ _ (Nat.zero_le _) w hseq).mono ?_
 rintro e w' ⟨v,ss,rfl,rfl,hrow,hnil,hb⟩
 obtain rfl:=hnil.2 rfl
 exact ⟨rfl,hb⟩
end
section
namespace Ev
open Go.RowKit
noncomputable section
section
variable {G:Gh} {H:Hp} {n:Nat} {w w':World}
theorem fr_below (h:Below w.heap.size w w'):Fr (fun _=>False) w w':=⟨h.os,h.tape,h.output,h.size,fun k hk _=>h.block k hk⟩
theorem jbj (hR:R G H w) (h:Below w.heap.size w w'):Stp G H n w G H n w' :=
 jep hR (Ext.refl _ _ _) (fr_below h) (fun _ q=>q.elim) (fun _=>False) (fun j _ _=>⟨rfl,fun _ _ _ q=>q⟩) (fun j q=>q.elim) (fun i j _ _ _ q=>q.elim)
theorem stp_one {H:HT} (hR:R G (hp H) w) (h:Below w.heap.size w w') (hn:n<HB) (hG:G n=none) {g sz:Nat} {o:Obj} (hg:w.heap.size≤g) (ho:w'.heap[g]? =some o) (x:Ob) (hx:ObOk (gset G n (g,sz)) sz x o) :
 Stp G (hp H) n w (gset G n (g,sz)) (hp (hset H n x)) (n+1) w':=by
 have hle:Gh.le G (gset G n (g,sz)):=fun j y hy=>by
  unfold gset;split
  ·rename_i e;rw [e,hG] at hy;cases hy
  ·exact hy
 rw [jbv _ hn]
 refine jep hR ⟨hle,fun j hj=>?_⟩ (fr_below h) (fun _ q=>q.elim) (fun j=>j=n) (fun j h1 h2=>?_) (fun j h1 h2=>?_) (fun i j _ _ _ hi hj _ _ _ _=>hi.trans hj.symm)
 ·unfold gset;rw [if_neg (by omega)]
 ·unfold upd at h2 ⊢;rw [if_neg h1] at h2 ⊢;exact ⟨rfl,fun _ _ _ q=>q⟩
 ·have h1:j=n:=h1
  subst h1
  refine ⟨g,sz,o,by simp [gset],ho,?_,.inr hg⟩
  unfold upd;rw [if_pos rfl];exact hx
theorem stp_own {H:HT} (hR:R G (hp H) w) (h:Below w.heap.size w w') (hn:n<HB) (hG:G n=none) {e:TypeId} {es len:Nat} {v:Value} {vs:List Value} {xs:List Sc} (hl:xs.length≤32768) (ho:w'.ownsRow w.heap.size e es v len vs) (h0:len≠0) (hx:∀ G',Gh.le G G'→All2 (Sc.ok G') xs vs) :
 ∃ G',Stp G (hp H) n w G' (hp (hset H n (jdn xs true))) (n+1) w'∧Gh.le G G'∧V.ok G' (.c (.su n 0 len len es)) v:=by
 obtain ⟨hlen,⟨_,hz⟩ | ⟨g,cap,cur,rfl,hg,hgk,hnc,hcm,hcs,htake⟩⟩:=ho
 ·exact absurd hz h0
 have hle:Gh.le G (gset G n (g,cap*es)):=fun j y hy=>by
  unfold gset;split
  ·rename_i e;rw [e,hG] at hy;cases hy
  ·exact hy
 have hx':=hx _ hle
 have hxl:xs.length=len*es:=by rw [hx'.length,hlen]
 refine ⟨gset G n (g,cap*es),stp_one hR h hn hG hg hgk (jdn xs true) ?_,hle,⟨g,cap*es,cap,by simp [gset],rfl,Nat.le_refl _,hnc,by omega⟩⟩
 have:=jhu (G:=gset G n (g,cap*es)) (xs:=xs) (arr:=cur) (by rw [hxl,htake];exact hx') hl e
 rw [hcs] at this
 exact this
end
def keyN:List (Sc×E)→Option (List Nat)
 | []=>some []
 | (.i .i64 (.ofNat k),_)::r=>cnd (Nat.blt k 9223372036854775808) (match keyN r with | some l=>some (k::l) | none=>none) none
 | _::_=>none
def insN (x:Nat):List Nat→List Nat
 | []=>[x]
 | y::ys=>cnd (Nat.ble x y) (x::y::ys) (y::insN x ys)
def sortN:List Nat→List Nat
 | []=>[]
 | x::l=>insN x (sortN l)
def scN (k:Nat):Sc:=.i .i64 (.ofNat k)
def soR (l:List Nat) (H:HT) (n:Nat):Rs:=match l with
 | []=>.ok (.c .sn) H n
 | k::l=>cnd (and (Nat.blt n HB) (Nat.ble (k::l).length 32768)) (.ok (.c (.su n 0 (k::l).length (k::l).length 1)) (hset H n (jdn ((k::l).map scN) true)) (Nat.add n 1)) .no
def soL (ks:Option (List Nat)) (H:HT) (n:Nat):Rs:=match ks with
 | some ks=>soR (sortN ks) H n
 | none=>.no
def soM (m:Sc) (H:HT) (n:Nat):Rs:=match m with
 | .mn=>.ok (.c .sn) H n
 | .m mid=>cnd (Nat.blt mid HB) (match hget H mid with
   | .mp es=>soL (keyN es) H n
   | _=>.no) .no
 | _=>.no
def sSort (kf:Nat) (args:List V) (H:HT) (n:Nat):Rs:=match args with
 | [.c (.f fid [(id,off)])]=>cnd (and (Nat.beq fid kf) (and (Nat.beq off 0) (Nat.blt id HB))) (match hget H id with
   | .row k x dep d t=>cnd (Nat.blt 0 k) (soM (tget dep d t 0) H n) .no
   | _=>.no) .no
 | _=>.no
theorem keyN_ok {G:Gh}:∀ {es:List (Sc×E)} {ents:List MapEntry} {ks:List Nat},All2 (KvOk G) es ents→keyN es=some ks→ents.map MapEntry.key=ks.map (fun (k:Nat)=>Value.int .i64 (k:Int))∧∀ k∈ks,k<9223372036854775808
 | _,_,ks,.nil,h=>by
   have h:some []=some ks:=h
   cases h;exact ⟨rfl,fun k hk=>by cases hk⟩
 | _::_,_::_,ks,.cons (a:=p) (b:=e0) hp hr,h=>by
   unfold keyN at h
   split at h
   ·cases ‹_::_=[]›
   ·rename_i k x r heq
    cases heq
    obtain ⟨h1,h⟩:=jab h
    split at h
    ·rename_i l hl
     cases h
     obtain ⟨i1,i2⟩:=keyN_ok hr hl
     refine ⟨?_,fun j hj=>?_⟩
     ·rw [List.map_cons,List.map_cons,i1]
      have:e0.key=.int .i64 (k:Int):=hp.1
      rw [this]
     ·rcases List.mem_cons.1 hj with rfl | hj
      ·exact jaa h1
      ·exact i2 j hj
    ·cases h
   ·cases h
theorem jic (x:Nat):∀ l,(insN x l).Perm (x::l)
 | []=>.refl _
 | y::ys=>by
   unfold insN
   cases Nat.ble x y with
   | true=>exact .refl _
   | false=>exact ((jic x ys).cons y).trans (.swap ..)
theorem jfq:∀ l,(sortN l).Perm l
 | []=>.refl _
 | x::l=>(jic x _).trans ((jfq l).cons x)
theorem jib (x:Nat):∀ {l:List Nat},l.Pairwise (·≤·)→(insN x l).Pairwise (·≤·)
 | [],_=>by unfold insN;simp
 | y::ys,h=>by
   obtain ⟨h1,h2⟩:=List.pairwise_cons.1 h
   unfold insN
   cases hb:Nat.ble x y with
   | true =>
     have hxy:=jad hb
     refine List.pairwise_cons.2 ⟨fun z hz=>?_,h⟩
     rcases List.mem_cons.1 hz with rfl | hz
     ·exact hxy
     ·exact Nat.le_trans hxy (h1 z hz)
   | false =>
     have hxy:y≤x:=by
      rcases Nat.le_total x y with q | q
      ·rw [Nat.ble_eq_true_of_le q] at hb;cases hb
      ·exact q
     refine List.pairwise_cons.2 ⟨fun z hz=>?_,jib x h2⟩
     rcases List.mem_cons.1 ((jic x ys).mem_iff.1 hz) with rfl | hz
     ·exact hxy
     ·exact h1 z hz
theorem jga:∀ l,(sortN l).Pairwise (·≤·)
 | []=>.nil
 | x::l=>jib x (jga l)
theorem sortN_merge (ks:List Nat):(ks.map Int.ofNat).mergeSort leI=(sortN ks).map Int.ofNat:=by
 have tr:∀ a b c:Int,leI a b=true→leI b c=true→leI a c=true:=fun a b c h1 h2=>by simp only [leI,decide_eq_true_eq] at *;exact Int.le_trans h1 h2
 have to:∀ a b:Int,(leI a b||leI b a)=true:=fun a b=>by simp only [leI,Bool.or_eq_true,decide_eq_true_eq];exact Int.le_total a b
 refine List.Perm.eq_of_pairwise (le:=fun a b=>leI a b=true) (fun a b _ _ h1 h2=>?_) (List.pairwise_mergeSort tr to _) ?_ ((List.mergeSort_perm _ leI).trans ((jfq ks).map _).symm)
 ·simp only [leI,decide_eq_true_eq] at h1 h2
  exact Int.le_antisymm h1 h2
 ·refine List.pairwise_map.2 ((jga ks).imp fun {a b} h=>?_)
  simp only [leI,decide_eq_true_eq]
  exact Int.ofNat_le.2 h
theorem soR_mono {l:List Nat} {H H':HT} {n n':Nat} {v:V} (h:soR l H n=.ok v H' n'):n≤n':=by
 unfold soR at h
 split at h
 ·cases h;exact Nat.le_refl _
 ·have q:=jai h
  clear h
  obtain ⟨_,h⟩:=q
  cases h;exact Nat.le_succ _
theorem sSort_ok:jbi Tryz.prog 117 (sSort 181):=by
 intro args H n v H' n' h
 unfold sSort at h
 split at h
 ·rename_i fid id off
  have q:=jai h
  clear h
  obtain ⟨hb,h⟩:=q
  rw [Bool.and_eq_true,Bool.and_eq_true] at hb
  have hfid:=jae hb.1
  have hoff:=jae hb.2.1
  have hid:=jaa hb.2.2
  subst hfid
  subst hoff
  split at h
  ·rename_i k x dep d t hob
   have q:=jai h
   clear h
   obtain ⟨hk,h⟩:=q
   have hk:=jaa hk
   have hpid:hp H id=.row k x dep d t:=(jas hid).trans hob
   have hne:hp H id≠.no:=by rw [hpid];exact fun q=>by cases q
   have start:∀ {G:Gh} {w:World} {cargs:Array Value},R G (hp H) w→All2 (V.ok G) [.c (.f 181 [(id,0)])] cargs.toList→∃ Bm c0,cargs=#[.func (.func 181) #[] #[.pointer (some ⟨Bm,0,none⟩)]]∧w.cell? ⟨Bm,0,none⟩=some c0∧Sc.ok G (tget dep d t 0) c0:=by
    intro G w cargs hR ha
    obtain ⟨ca,rfl,ha1⟩:=jcp ha
    obtain ⟨cs,rfl,hc⟩:=ha1
    obtain ⟨l⟩:=cs
    cases hc with
    | cons hc1 hc2 =>
      cases hc2
      obtain ⟨b,sz,hg,rfl⟩:=hc1
      obtain ⟨b',sz',o,hg',hbk,hok⟩:=hR.1 id hne
      rw [hg] at hg';cases hg'
      rw [hpid] at hok
      obtain ⟨arr,el,fz,rfl,s1,s2,s3,s4,s5,s6⟩:=hok
      exact ⟨b,_,rfl,jbl hbk (by omega),s6 0 hk⟩
   unfold soM at h
   split at h
   ·rename_i hm
    cases h
    refine ⟨Nat.le_refl _,fun G w cargs hR ha hf=>?_⟩
    obtain ⟨Bm,c0,rfl,hc,hs⟩:=start hR ha
    rw [hm] at hs
    have hs:c0=.map none:=hs
    subst hs
    refine (u_sorted_nil Bm w hc).mono ?_
    rintro e w' ⟨rfl,hb⟩
    exact ⟨_,G,rfl,jbj hR hb,rfl⟩
   ·rename_i mid hm
    have q:=jai h
    clear h
    obtain ⟨hmid,h⟩:=q
    have hmid:=jaa hmid
    split at h
    ·rename_i es hes
     have hpm:hp H mid=.mp es:=(jas hmid).trans hes
     have nm:hp H mid≠.no:=by rw [hpm];exact fun q=>by cases q
     unfold soL at h
     split at h
     ·rename_i ks hks
      refine ⟨soR_mono h,fun G w cargs hR ha hf=>?_⟩
      obtain ⟨Bm,c0,rfl,hc,hs⟩:=start hR ha
      rw [hm] at hs
      obtain ⟨bm,szm,gm,hs⟩:∃ b sz,G mid=some (b,sz)∧c0=.map (some b):=hs
      subst hs
      obtain ⟨bm',szm',om,gm',km,o3⟩:=hR.1 mid nm
      rw [gm] at gm';cases gm'
      rw [hpm] at o3
      obtain ⟨ents,clock,rfl,hst,hall⟩:=o3
      obtain ⟨k1,k2⟩:=keyN_ok hall hks
      have hlen:(sortN ks).length=ks.length:=(jfq ks).length_eq
      unfold soR at h
      split at h
      ·rename_i hsn
       cases h
       rw [hsn] at hlen
       have hk0:ks=[]:=List.eq_nil_of_length_eq_zero hlen.symm
       refine (u_sorted Bm bm clock ents ks w hc km hst k1 (by rw [hk0];simp) k2).mono ?_
       rintro e w' ⟨v,rfl,_,hnil,hb⟩
       obtain rfl:=hnil.2 hk0
       exact ⟨_,G,rfl,jbj hR hb,rfl⟩
      ·rename_i k0 l0 hsn
       have q:=jai h
       clear h
       obtain ⟨hb3,h⟩:=q
       rw [Bool.and_eq_true] at hb3
       have hn:=jaa hb3.1
       have hl:=jad hb3.2
       cases h
       rw [←hsn] at hl ⊢
       refine (u_sorted Bm bm clock ents ks w hc km hst k1 (by omega) k2).mono ?_
       rintro e w' ⟨v,rfl,hrow,hnil,hb⟩
       rw [sortN_merge,←hlen] at hrow
       obtain ⟨G',h1,h2,h3⟩:=stp_own (xs:=(sortN ks).map scN) hR hb hn (hf n (Nat.le_refl _) (Nat.lt_succ_self _)) (by simpa using hl) hrow (by rw [hsn];simp) (fun G' _=>by
        rw [List.map_map]
        exact All2.of_get _ _ (by simp) fun i h1 h2=>by simp;rfl)
       exact ⟨_,G',rfl,h1,h3⟩
     ·cases h
    ·cases h
   ·cases h
  ·cases h
 ·cases h
end
end Ev
end
section
open Go.RowKit
section
variable {P:Program} {ops:Array Oper} {Q:Exit→Act→World→Prop} {md:Region.Mode} {S:World→Prop} {L:List Nat}
def jdr (P:Program) (md:Region.Mode) (ops:Array Oper) (Q:Exit→Act→World→Prop) (S:World→Prop) (L:List Nat):Nat→Array Bool→Act→World→Prop
 | 0,listed,a,w=>Region.ready md ops listed=[]∧Q .normal a w
 | fuel+1,listed,a,w =>
   (Region.ready md ops listed=[]→Q .normal a w) ∧
   ∀ i∈Region.ready md ops listed,wpOp P ops Q i (fun a' w'=>(L.contains i=false→S w')∧jdr P md ops Q S L fuel (listed.setIfInBounds i true) a' w') a w
theorem jjd:∀ (fuel:Nat) (listed:Array Bool) (a:Act) (w:World),jdr P md ops Q S L fuel listed a w→wpAny P md ops Q fuel listed a w
 | 0,_,_,_,h=>h
 | fuel+1,_,_,_,h=>⟨h.1,fun i hi=>wpOp_mono (fun a' w' h'=>jjd fuel _ a' w' h'.2) (h.2 i hi)⟩
def waits (md:Region.Mode) (ops:Array Oper):Nat→Nat→Nat→Bool
 | 0,_,_=>false
 | n+1,m,i=>match ops[m]? with
   | none=>false
   | some o=>o.after.toList.any fun e=>Region.binds md e&&(e.on==i||waits md ops n e.on i)
def Closed (md:Region.Mode) (ops:Array Oper) (listed:Array Bool):Prop:=∀ (j:Nat) (o:Oper),ops[j]? =some o→listed.getD j false=true→∀ e∈o.after,Region.binds md e=true→listed.getD e.on false=true
def jky (md:Region.Mode) (ops:Array Oper) (listed:Array Bool):Bool:=(List.range ops.size).all fun j=>match ops[j]? with
 | none=>true
 | some o=>!listed.getD j false||o.after.toList.all fun e=>!Region.binds md e||listed.getD e.on false
theorem closed_of {listed:Array Bool} (h:jky md ops listed=true):Closed md ops listed:=by
 intro j o ho hl e he hb
 unfold jky at h
 rw [List.all_eq_true] at h
 have hj:j<ops.size:=by
  rcases Nat.lt_or_ge j ops.size with q | q
  ·exact q
  ·rw [Array.getElem?_eq_none q] at ho;cases ho
 have h1:=h j (List.mem_range.2 hj)
 rw [ho] at h1
 simp only at h1
 rw [hl,Bool.not_true,Bool.false_or,List.all_eq_true] at h1
 have h2:=h1 e (Array.mem_toList_iff.2 he)
 rwa [hb,Bool.not_true,Bool.false_or] at h2
theorem closed_set {listed:Array Bool} {j:Nat} (h:Closed md ops listed) (hj:j∈Region.ready md ops listed):Closed md ops (listed.setIfInBounds j true):=by
 intro m o ho hl e he hb
 by_cases hm:j=m
 ·subst hm
  obtain ⟨_,o',ho',hall⟩:=mem_ready.1 hj
  rw [ho] at ho'
  cases ho'
  exact getD_set_true (hall e he hb)
 ·rw [getD_set_ne false hm] at hl
  exact getD_set_true (h m o ho hl e he hb)
theorem waits_not {listed:Array Bool} {i:Nat} (hc:Closed md ops listed) (hi:listed.getD i false=false):∀ (n m:Nat) (o:Oper),ops[m]? =some o→(∀ e∈o.after,Region.binds md e=true→listed.getD e.on false=true)→waits md ops n m i=true→False
 | 0,_,_,_,_,h=>by cases h
 | n+1,m,o,ho,hall,h=>by
   unfold waits at h
   rw [ho] at h
   simp only [List.any_eq_true] at h
   obtain ⟨e,he,hb⟩:=h
   rw [Bool.and_eq_true,Bool.or_eq_true] at hb
   have hl:=hall e (Array.mem_toList_iff.1 he) hb.1
   rcases hb.2 with q | q
   ·rw [beq_iff_eq] at q
    rw [q,hi] at hl
    cases hl
   ·cases ho2:ops[e.on]? with
    | none=>cases n<;>simp [waits,ho2] at q
    | some o2=>exact waits_not hc hi n e.on o2 ho2 (hc e.on o2 ho2 hl) q
theorem wpAnyK_first {i:Nat} {oi:Oper} {v:Value} (hi:ops[i]? =some oi) (hsel:∀ (j:Nat) (o:Oper) cs b,ops[j]? =some o→o.op≠.select cs b)
 (hQ:∀ c a w,Q (.panic c) (a.put oi.dst v) w→Q (.panic c) a w) (hL:∀ k,L.contains k=true→waits md ops ops.size k i=true) :
 ∀ (fuel:Nat) (listed:Array Bool) (a:Act) (w:World),
  (∀ j oj,ops[j]? =some oj→j≠i→listed.getD j true=false→(∀ e∈oj.after,Region.binds md e=true→e.on≠i)→oi.apart ops oj=true) →
  Closed md ops listed→i∈Region.ready md ops listed→YieldsIf P ops S oi v a→S w →
  jdr P md ops Q S L fuel (listed.setIfInBounds i true) (a.put oi.dst v) w→jdr P md ops Q S L (fuel+1) listed a w:=by
 intro fuel
 induction fuel with
 | zero =>
   intro listed a w _ _ hr hy hS H
   refine ⟨fun h=>(by rw [h] at hr;cases hr),fun j hj=>?_⟩
   by_cases hji:j=i
   ·subst hji;exact hy.wpOp hi hS ⟨fun _=>hS,H⟩
   ·have:=ready_mono hj hji
    rw [H.1] at this
    cases this
 | succ fuel ih =>
   intro listed a w hfree hc hr hy hS H
   refine ⟨fun h=>(by rw [h] at hr;cases hr),fun j hj=>?_⟩
   by_cases hji:j=i
   ·subst hji;exact hy.wpOp hi hS ⟨fun _=>hS,H⟩
   ·have h1:=H.2 j (ready_mono hj hji)
    obtain ⟨hjun,oj,hoj,hall⟩:=mem_ready.1 hj
    have hif:listed.getD i false=false:=by
     have h0:=(mem_ready.1 hr).1
     rcases Nat.lt_or_ge i listed.size with h' | h'
     ·simp [h'] at h0 ⊢;exact h0
     ·simp [Array.getElem?_eq_none h']
    have hjL:L.contains j=false:=by
     cases hjc:L.contains j with
     | false=>rfl
     | true=>exact (waits_not hc hif _ j oj hoj hall (hL j hjc)).elim
    have hnot:∀ e∈oj.after,Region.binds md e=true→e.on≠i:=fun e he hb heq=>by
     have h1:=hall e he hb
     rw [heq,hif] at h1
     cases h1
    have h2:=wpOp_putIf hoj (hfree j oj hoj hji hjun hnot) (fun cs b=>hsel i oi cs b hi) (fun cs b=>hsel j oj cs b hoj) hQ hy h1
    have hfree':∀ k ok,ops[k]? =some ok→k≠i→(listed.setIfInBounds j true).getD k true=false →
     (∀ e∈ok.after,Region.binds md e=true→e.on≠i)→oi.apart ops ok=true:=fun k ok hk hki hun hno=>by
     refine hfree k ok hk hki ?_ hno
     by_cases hjk:j=k
     ·subst hjk;exact hjun
     ·rw [getD_set_ne true hjk] at hun;exact hun
    refine wpOp_mono (fun a' w' h3=>⟨h3.2.1,ih (listed.setIfInBounds j true) a' w' hfree' (closed_set hc hj) (ready_mono hr (Ne.symm hji)) h3.1 (h3.2.1 hjL) ?_⟩) h2
    rw [Array.setIfInBounds_comm _ _ hji]
    exact h3.2.2
theorem jaw {i:Nat} {oi:Oper} {v:Value} {fuel:Nat} {listed:Array Bool} {a:Act} {w:World} (hi:ops[i]? =some oi)
 (hs:(Region.noSelect ops&&Region.free md ops listed i&&(Region.ready md ops listed).contains i&&jky md ops listed&&L.all fun k=>waits md ops ops.size k i)=true)
 (hQ:∀ c a w,Q (.panic c) (a.put oi.dst v) w→Q (.panic c) a w) (hy:YieldsIf P ops S oi v a) (hS:S w)
 (h:jdr P md ops Q S L fuel (listed.setIfInBounds i true) (a.put oi.dst v) w):jdr P md ops Q S L (fuel+1) listed a w:=by
 simp only [Bool.and_eq_true] at hs
 obtain ⟨⟨⟨⟨h1,h2⟩,h3⟩,h4⟩,h5⟩:=hs
 exact wpAnyK_first hi (Region.noSelect_spec h1) hQ (fun k hk=>List.all_eq_true.1 h5 k (by simpa using hk)) fuel listed a w (Region.free_spec hi h2) (closed_of h4) (by simpa using h3) hy hS h
theorem tK (i d:Nat) {o t p af g} {v:Value} {fuel:Nat} {listed:Array Bool} {a:Act} {w:World} (hi:ops[i]? =some ⟨some d,o,t,p,af,g⟩)
 (hy:∀ w,S w→(execOp a.eval ⟨some d,o,t,p,af,g⟩).run P w=.ok (.value v) w)
 (h:jdr P md ops Q S L fuel (listed.setIfInBounds i true) (a.put (some d) v) w)
 (hg:Region.wanted ⟨some d,o,t,p,af,g⟩ (yielded ops a.tmps)=true:=by rfl) (hS:S w:=by assumption)
 (hs:(Region.noSelect ops&&Region.free md ops listed i&&(Region.ready md ops listed).contains i&&jky md ops listed&&L.all fun k=>waits md ops ops.size k i)=true:=by kernel_rfl)
 (hQ:∀ c a w,Q (.panic c) (a.put (some d) v) w→Q (.panic c) a w:=by exact fun _ _ _ h=>h):jdr P md ops Q S L (fuel+1) listed a w :=
 jaw hi hs hQ (Or.inl ⟨hg,hy⟩) hS h
theorem zsA {α:Type _} (l:List α) (i:Nat) (a:α):l.toArray.setIfInBounds i a=(l.set i a).toArray:=List.setIfInBounds_toArray l i a
theorem zsB {α:Type _} {x:α} {xs:List α} {a:α}:(x::xs).set 0 a=a::xs:=rfl
theorem zsC {α:Type _} {x:α} {xs:List α} {i:Nat} {a:α}:(x::xs).set (i+1) a=x::xs.set i a:=rfl
theorem jah {i:Nat} {o:Oper} {fuel:Nat} {listed:Array Bool} {a:Act} {w:World} (hr:Region.ready md ops listed=[i]) (ho:ops[i]? =some o)
 (h:∀ K':Act→World→Prop,Shut (∀ a w,(L.contains i=false→S w)→((L.contains i=false→S w)→jdr P md ops Q S L fuel (listed.setIfInBounds i true) a w)→K' a w)→if Region.wanted o (yielded ops a.tmps)=true then Oper.wp P o a w K' Q else K' (a.put o.dst undef) w):jdr P md ops Q S L (fuel+1) listed a w:=by
 refine ⟨fun h0=>(by rw [hr] at h0;cases h0),fun j hj=>?_⟩
 rw [hr] at hj
 obtain rfl:j=i:=by simpa using hj
 exact wpOp_step ho (fun K' hK=>h K' (fun a w hS hW=>hK a w ⟨hS,hW hS⟩))
theorem jao {listed:Array Bool} {a:Act} {w:World} (hr:Region.ready md ops listed=[]) (h:Q .normal a w) :
 ∀ fuel,jdr P md ops Q S L fuel listed a w
 | 0=>⟨hr,h⟩
 | _+1=>⟨fun _=>h,by rw [hr];simp⟩
theorem jan (L:List Nat) {id:Nat} {a:Act} {w:World} (hm:P.follows .mixedOrders=true) (hS:S w.drew)
 (h:S w.drew→jdr P .any ops Q S L ops.size (Array.replicate ops.size false) a w.drew):(Code.region id ops true).wp P Q a w :=
 wp_region_any hm (jjd _ _ _ _ (h hS))
end
end
section
open Go.RowKit
structure Only (S:Nat→Prop) (w w':World):Prop where
 os:w'.os=w.os
 tape:w'.tape=w.tape
 output:w'.output=w.output
 size:w.heap.size≤w'.heap.size
 block:∀ k,k<w.heap.size→¬S k→w'.heap[k]? =w.heap[k]?
section
variable {S S':Nat→Prop} {w w' w1 w2:World} {B:Nat}
theorem Only.refl (S:Nat→Prop) (w:World):Only S w w:=⟨rfl,rfl,rfl,Nat.le_refl _,fun _ _ _=>rfl⟩
theorem Only.trans (h:Only S w w1) (k:Only S' w1 w2) (hs:∀ j,j<w.heap.size→S' j→S j):Only S w w2 :=
 ⟨k.os.trans h.os,k.tape.trans h.tape,k.output.trans h.output,Nat.le_trans h.size k.size,
  fun j hj hn=>(k.block j (Nat.lt_of_lt_of_le hj h.size) (fun e=>hn (hs j hj e))).trans (h.block j hj hn)⟩
theorem Only.mono (h:Only S w w') (hs:∀ j,j<w.heap.size→S j→S' j):Only S' w w' :=
 ⟨h.os,h.tape,h.output,h.size,fun j hj hn=>h.block j hj (fun e=>hn (hs j hj e))⟩
theorem Only.drew (h:Only S w w1):Only S w w1.drew:=⟨h.os,h.tape,h.output,h.size,h.block⟩
theorem Only.alloc (h:Only S w w1) (o:Obj):Only S w (w1.alloc o) :=
 ⟨h.os,h.tape,h.output,by simp;exact Nat.le_succ_of_le h.size,fun k hk hn=>(Below.heap_alloc w1 o k (Nat.lt_of_lt_of_le hk h.size)).trans (h.block k hk hn)⟩
theorem Only.setCell (h:Only S w w1) {p:Addr} (hp:p.block<w.heap.size→S p.block) (u:Value):Only S w (w1.setCell p u) :=
 ⟨h.os,h.tape,h.output,by simpa [World.setCell] using h.size,fun k hk hn=>by
  refine (Below.heap_setCell w1 p u k ?_).trans (h.block k hk hn)
  rintro rfl
  exact hn (hp hk)⟩
theorem Only.of_below (hb:Below B w w') (hs:∀ k,B≤k→k<w.heap.size→S k):Only S w w' :=
 ⟨hb.os,hb.tape,hb.output,hb.size,fun k hk hn=>by
  rcases Nat.lt_or_ge k B with h | h
  ·exact hb.block k h
  ·exact absurd (hs k h hk) hn⟩
theorem Only.new (S:Nat→Prop) (hb:Below w.heap.size w w'):Only S w w':=Only.of_below hb fun k h1 h2=>absurd h1 (by omega)
theorem Only.below (h:Only S w w') (hs:∀ k,k<B→¬S k) (hB:B≤w.heap.size):Below B w w' :=
 ⟨h.os,h.tape,h.output,h.size,fun k hk=>h.block k (by omega) (hs k hk)⟩
theorem Only.of_grown {row:Option Nat} (h:w.grownBy w' row) (hs:∀ k,row=some k→k<w.heap.size→S k):Only S w w' :=
 ⟨h.os,h.tape,h.output,h.size,fun k hk hn=>h.block k hk (fun e=>hn (hs k e.symm hk))⟩
theorem Blk.only {g:Nat} {t:TypeId} {cs:Array Value} (h:Blk w g t cs) (ho:Only S w w') (hg:¬S g):Blk w' g t cs:=(ho.block g h.lt hg).trans h
theorem Only.cell (ho:Only S w w') {p:Addr} (hp:p.block<w.heap.size) (hs:¬S p.block):w'.cell? p=w.cell? p:=World.cell?_of_block (w:=w) (ho.block p.block hp hs)
theorem Reads.only {size n:Nat} {A:Option Addr} {xs:List Value} (h:Reads w B size A n xs) (ho:Only S w w') (hB:B≤w.heap.size) (hs:∀ k,k<B→¬S k):Reads w' B size A n xs :=
 h.keep fun p hp=>ho.cell (by omega) (hs _ hp)
theorem jbb {base:Nat} {e:TypeId} {size n:Nat} {v:Value} {xs:List Value} (h:w.ownsRow base e size v n xs) (ho:Only S w w') (hs:∀ g,v.ownBlock=some g→¬S g):w'.ownsRow base e size v n xs:=by
 refine ⟨h.1,?_⟩
 rcases h.2 with h0 | ⟨g,cap,cur,rfl,hg,hh,hr⟩
 ·exact .inl h0
 ·refine .inr ⟨g,cap,cur,rfl,hg,?_,hr⟩
  have hlt:g<w.heap.size:=Blk.lt (t:=e) hh
  exact (ho.block g hlt (hs g rfl)).trans hh
theorem jcf {base:Nat} {e:TypeId} {size n:Nat} {v:Value} {xs:List Value} (h:w.ownsRow base e size v n xs) {g:Nat} (hg:v.ownBlock=some g):base≤g∧g<w.heap.size:=h.lt g hg
end
end
section
open Go.RowKit
theorem own_set {w:World} {base g:Nat} {e:TypeId} {size n cap:Nat} {xs:List Value} (h:w.ownsRow base e size (.slice (some ⟨g,0,none⟩) n cap) n xs) (j:Nat) (u:Value) :
 (w.setCell ⟨g,j,none⟩ u).ownsRow base e size (.slice (some ⟨g,0,none⟩) n cap) n (xs.set j u):=by
 refine ⟨by rw [List.length_set];exact h.1,?_⟩
 rcases h.2 with ⟨hv,_⟩ | ⟨g',cap',cur,hv,hg,hh,hnc,hcm,hcs,hx⟩
 ·cases hv
 ·injection hv with e1 e2 e3
  injection e1 with e1
  injection e1 with e1
  subst e1;subst e3
  have hB:Blk w g e cur:=hh
  exact .inr ⟨g,cap,cur.setIfInBounds j u,rfl,hg,hB.set_ j u,hnc,hcm,by rw [Array.size_setIfInBounds];exact hcs,by rw [Array.toList_setIfInBounds,List.take_set,hx]⟩
theorem jeh {w:World} {base g:Nat} {e:TypeId} {size n cap:Nat} {xs:List Value} (h:w.ownsRow base e size (.slice (some ⟨g,0,none⟩) n cap) n xs) (j:Nat):w.frozen? ⟨g,j,none⟩=false:=by
 rcases h.2 with ⟨hv,_⟩ | ⟨g',cap',cur,hv,hg,hh,hnc,hcm,hcs,hx⟩
 ·cases hv
 ·injection hv with e1 e2 e3
  injection e1 with e1
  injection e1 with e1
  subst e1
  have hB:Blk w g e cur:=hh
  exact hB.frozen j
theorem jcr {w:World} {base:Nat} {e:TypeId} {size n cap:Nat} {A:Option Addr} {xs:List Value} (h:w.ownsRow base e size (.slice A n cap) n xs) (hn:0<n):∃ g,A=some ⟨g,0,none⟩∧base≤g∧g<w.heap.size:=by
 obtain ⟨g,c,hv,hg,hlt⟩:=h.form hn
 injection hv with e1 e2 e3
 exact ⟨g,e1,hg,hlt⟩
theorem jdj {w:World} {base g:Nat} {e:TypeId} {size n cap:Nat} {xs:List Value} (h:w.ownsRow base e size (.slice (some ⟨g,0,none⟩) n cap) n xs) {j:Nat} {u:Value} (hu:xs[j]? =some u):w.cell? ⟨g,j,none⟩=some u:=by
 have:=h.cells (g:=g) rfl j u hu
 rwa [jds,Nat.zero_add] at this
end
section
open Go.RowKit
section
variable {w:World} {base g:Nat} {e:TypeId} {size n cap:Nat} {xs:List Value}
theorem jff (h:w.ownsRow base e size (.slice (some ⟨g,0,none⟩) n cap) n xs):∃ cur,base≤g∧Blk w g e cur∧n≤cap∧cap≤maxLen∧cur.size=cap*size∧cur.toList.take (n*size)=xs:=by
 rcases h.2 with ⟨hv,_⟩ | ⟨g',cap',cur,hv,hg,hh,hnc,hcm,hcs,hx⟩
 ·cases hv
 ·injection hv with e1 e2 e3
  injection e1 with e1
  injection e1 with e1
  subst e1;subst e3
  exact ⟨cur,hg,hh,hnc,hcm,hcs,hx⟩
theorem own_of_parts {cur:Array Value} (hg:base≤g) (hh:Blk w g e cur) (hnc:n≤cap) (hcm:cap≤maxLen) (hcs:cur.size=cap*size) (hx:cur.toList.take (n*size)=xs):w.ownsRow base e size (.slice (some ⟨g,0,none⟩) n cap) n xs:=by
 refine ⟨?_,.inr ⟨g,cap,cur,rfl,hg,hh,hnc,hcm,hcs,hx⟩⟩
 rw [←hx,List.length_take,Array.length_toList,hcs]
 exact Nat.min_eq_left (Nat.mul_le_mul_right _ hnc)
theorem own_cut (h:w.ownsRow base e size (.slice (some ⟨g,0,none⟩) n cap) n xs) (i:Nat) (hi:i≤n):w.ownsRow base e size (.slice (some ⟨g,0,none⟩) i cap) i (xs.take (i*size)):=by
 obtain ⟨cur,hg,hh,hnc,hcm,hcs,hx⟩:=jff h
 refine own_of_parts hg hh (by omega) hcm hcs ?_
 rw [←hx,List.take_take,Nat.min_eq_left (Nat.mul_le_mul_right _ hi)]
theorem jfe (h:w.ownsRow base e size (.slice (some ⟨g,0,none⟩) n cap) n xs) (j:Nat) (hj:j<cap*size):(w.cell? ⟨g,j,none⟩).isSome=true:=by
 obtain ⟨cur,hg,hh,hnc,hcm,hcs,hx⟩:=jff h
 rw [hh.cell,Array.getElem?_eq_getElem (by omega)];rfl
def setL:List Value→Nat→List Value→List Value
 | xs,_,[]=>xs
 | xs,o,v::r=>setL (xs.set o v) (o+1) r
theorem setL_eq (vs:List Value) (xs:List Value) (o:Nat) (h:o+vs.length≤xs.length):setL xs o vs=xs.take o++vs++xs.drop (o+vs.length):=by
 induction vs generalizing xs o with
 | nil=>simp [setL]
 | cons v r ih =>
   rw [List.length_cons] at h
   rw [setL,ih _ _ (by rw [List.length_set];omega),List.length_cons,show o+(r.length+1)=o+1+r.length from by omega,
    List.drop_set_of_lt (by omega),List.take_succ_eq_append_getElem (by rw [List.length_set];omega),List.getElem_set_self,List.take_set_of_le (by omega)]
   simp
theorem setL_past (vs:List Value) (xs:List Value) (o:Nat) (h:xs.length≤o):setL xs o vs=xs:=by
 induction vs generalizing xs o with
 | nil=>rfl
 | cons v r ih=>rw [setL,List.set_eq_of_length_le h,ih _ _ (by omega)]
theorem del_cells (xs:List Value) (a K:Nat) (ha:a+K≤xs.length):(setL xs a (xs.drop (a+K))).take (xs.length-K)=xs.take a++xs.drop (a+K):=by
 have hl:(xs.take a).length=a:=by rw [List.length_take];omega
 rw [setL_eq _ _ _ (by rw [List.length_drop];omega)]
 refine List.take_left' ?_
 rw [List.length_append,hl,List.length_drop];omega
theorem jgf (vs:List Value) (o:Nat) (h:w.ownsRow base e size (.slice (some ⟨g,0,none⟩) n cap) n xs):(w.setCells g o vs).ownsRow base e size (.slice (some ⟨g,0,none⟩) n cap) n (setL xs o vs):=by
 induction vs generalizing w xs o with
 | nil=>exact h
 | cons v r ih=>exact ih (o+1) (own_set h o v)
theorem jdg (vs:List Value) (w:World) (o:Nat):(w.setCells g o vs).heap.size=w.heap.size:=by
 induction vs generalizing w o with
 | nil=>rfl
 | cons v r ih=>rw [World.setCells,ih];simp
theorem jbt (vs:List Value) (w:World) (o:Nat):Only (fun k=>k=g) w (w.setCells g o vs):=by
 induction vs generalizing w o with
 | nil=>exact Only.refl _ _
 | cons v r ih=>exact ((Only.refl (fun k=>k=g) w).setCell (fun _=>rfl) _).trans (ih _ _) (fun _ _ h=>h)
end
section
variable {P:Program}
theorem step_copy_at {ops:Array Oper} {o:Oper} {a:Act} {w:World} {K:Act→World→Prop} {Q:Exit→Act→World→Prop} {E:Prop}
 (hg:o.guard=none) (d x:Operand) (dT sT:TypeId) (hop:o.op=Op.call { callee:=Callee.builtin Builtin.copy,args:=#[d,x],argTypes:=#[dT,sT] })
 (v u:Value) (hd:a.eval d=v) (hx:a.eval x=u) {v':Value} {w':World} (hr:(Builtin.copy_ #[dT,sT] o.type #[v,u]).run P w=.ok v' w') (hK:K (a.put o.dst v') w') :
 if Region.wanted o (yielded ops a.tmps)=true then Oper.wp P o a w K Q else E:=by
 have hw:Region.wanted o (yielded ops a.tmps)=true:=by simp [Region.wanted,hg]
 rw [if_pos hw]
 unfold Oper.wp
 simp [execOp,hop,resolve,invoke,builtin,hd,hx,hr,Result.andThen]
 exact hK
theorem jct {ops:Array Oper} {o:Oper} {a:Act} {w:World} {K:Act→World→Prop} {Q:Exit→Act→World→Prop} {E:Prop}
 (hg:o.guard=none) (d x:Operand) (dT sT:TypeId) (hop:o.op=Op.call { callee:=Callee.builtin Builtin.append,args:=#[d,x],argTypes:=#[dT,sT] })
 (v u:Value) (hd:a.eval d=v) (hx:a.eval x=u) {v':Value} {w':World} (hr:(Builtin.append_ #[dT,sT] o.type #[v,u]).run P w=.ok v' w') (hK:K (a.put o.dst v') w') :
 if Region.wanted o (yielded ops a.tmps)=true then Oper.wp P o a w K Q else E:=by
 have hw:Region.wanted o (yielded ops a.tmps)=true:=by simp [Region.wanted,hg]
 rw [if_pos hw]
 unfold Oper.wp
 simp [execOp,hop,resolve,invoke,builtin,hd,hx,hr,Result.andThen]
 exact hK
theorem jhm (w:World) (t t' ty e:TypeId) (i:TypeInfo) (ht:P.underlying t=some (.slice e)) (ht':P.underlying t'=some (.slice e)) (hi:P.info? e=some i) (b n c:Nat) (a:Addr) (m mc:Nat) (cs:List Value)
 (hroom:n+m≤c) (hl:cs.length=m*i.size) (hsrc:∀ j v,cs[j]? =some v→w.cell? (a.add j)=some v) (hc:∀ j,j<cs.length→(w.cell? ⟨b,n*i.size+j,none⟩).isSome=true) (hf:∀ j,j<cs.length→w.frozen? ⟨b,n*i.size+j,none⟩=false) (h1:∀ v∈cs,v.oneCell'=true) :
 (Builtin.append_ #[t,t'] ty #[.slice (some ⟨b,0,none⟩) n c,.slice (some a) m mc]).run P w=.ok (.slice (some ⟨b,0,none⟩) (n+m) c) (w.setCells b (n*i.size) cs):=by
 have hld:=run_loadCells_list (P:=P) w a cs hsrc
 have hst:=run_storeCells_cells (P:=P) b (n*i.size) cs 0 w (by simpa using hc) (by simpa using hf) h1
 have hz:(⟨b,0,none⟩:Addr).add (n*i.size)=⟨b,n*i.size,none⟩:=by rw [jds,Nat.zero_add]
 rw [hl] at hld
 simp [Builtin.append_,run_underlying ht,run_underlying ht',sizeOf,typeInfo,hi,Builtin.lenOf,Builtin.firstCells,hroom,hld,hz,hst]
theorem run_clear_k (w:World) (t e ty:TypeId) (z:Value) (size:Nat) (ht:P.underlying t=some (.slice e)) (hv:∀ w,(zeroValue e).run P w=.ok z w) (hzs:z.cells.size=size) (h1:∀ v∈z.cells,v.oneCell'=true) (b o n c:Nat) (hn:0<n) (hsz:0<size)
 (hc:∀ j,j<n*size→(w.cell? ⟨b,o+j,none⟩).isSome=true) (hf:∀ j,j<n*size→w.frozen? ⟨b,o+j,none⟩=false) :
 (Builtin.clear_ #[t] ty #[.slice (some ⟨b,o,none⟩) n c]).run P w=.ok (.tuple #[]) (w.setCells b o (Builtin.zeroCells z.cells n).toList):=by
 have hlen:(Builtin.zeroCells z.cells n).toList.length=n*size:=by simp [Builtin.zeroCells,hzs]
 have hst:=run_storeCells_cells (P:=P) b o (Builtin.zeroCells z.cells n).toList 0 w (by rw [hlen];simpa using hc) (by rw [hlen];simpa using hf) (by
  intro v hv'
  unfold Builtin.zeroCells at hv'
  simp only [Array.toList_map,List.mem_map] at hv'
  obtain ⟨j,_,rfl⟩:=hv'
  have hlt:j % z.cells.size<z.cells.size:=Nat.mod_lt _ (by omega)
  rw [getElem!_pos z.cells _ hlt]
  exact h1 _ (Array.getElem_mem hlt))
 simp only [Nat.add_zero] at hst
 obtain ⟨m,rfl⟩:∃ m,n=m+1:=⟨n-1,by omega⟩
 simp [Builtin.clear_,run_underlying ht,hv,hst]
end
end
section
open Go.RowKit
section
variable {w w':World} {g g':Nat} {t t':TypeId} {cs cs':Array Value}
theorem Blk.rangeOf (h:Blk w g t cs) (o n:Nat) (vs:List Value) (hv:(cs.toList.drop o).take n=vs):w.rangeAt g o vs:=by
 intro j v hj
 subst hv
 rw [h.cell]
 have hjn:j<n:=by
  have:=(List.getElem?_eq_some_iff.1 hj).1
  rw [List.length_take] at this;omega
 rw [List.getElem?_take_of_lt hjn,List.getElem?_drop] at hj
 rw [←Array.getElem?_toList];exact hj
theorem Blk.thereOf (h:Blk w g t cs) (o n:Nat) (hn:o+n≤cs.size):w.there g o n:=fun j hj=>by
 refine ⟨?_,h.frozen _⟩
 rw [h.cell,Array.getElem?_eq_getElem (by omega)];rfl
theorem Blk.setCells (vs:List Value):∀ {w:World} {cs:Array Value} (h:Blk w g t cs) (o:Nat),Blk (w.setCells g o vs) g t (setL cs.toList o vs).toArray:=by
 induction vs with
 | nil=>intro w cs h o;simpa [World.setCells,setL] using h
 | cons v r ih =>
   intro w cs h o
   have:=ih (h.set_ o v) (o+1)
   simpa [World.setCells,setL] using this
theorem jhr {w:World} {base:Nat} {e:TypeId} {size n:Nat} {v:Value} {xs:List Value} (h:w.ownsRow base e size v n xs):w.drew.ownsRow base e size v n xs:=h
end
section
variable {P:Program} {ops:Array Oper} {rest:List Oper} {o:Oper} {a:Act} {w:World} {Q:Exit→Act→World→Prop} {K:Act→World→Prop} {S:World→Prop}
theorem jba (hgd:o.guard=none) (ty:TypeId) (x:Operand) (ho:o.op=.load ty x)
 (g:Nat) (hx:a.eval x=.pointer (some ⟨g,0,none⟩)) (t:TypeId) (cs:Array Value) (d:TypeDesc) (hg:Blk w g t cs)
 (hu:P.underlying ty=some d) (hd:(match d with | .struct _ | .array _ _=>true | _=>false)=true) (hi:(P.info? ty).map (·.size)=some cs.size)
 (h:wpList P ops Q rest (a.put o.dst (.agg cs)) w):wpList P ops Q (o::rest) a w :=
 wpList_load_row hgd ty x ho g hx t cs (0,0) d hg hu hd hi h
theorem jgk (hgd:o.guard=none) (ty:TypeId) (x:Operand) (ho:o.op=.load ty x)
 (g off:Nat) (hx:a.eval x=.pointer (some ⟨g,off,none⟩)) (t:TypeId) (cs:Array Value) (vs:List Value) (d:TypeDesc) (hg:Blk w g t cs) (hv:(cs.toList.drop off).take vs.length=vs)
 (hu:P.underlying ty=some d) (hd:d.isRow=true) (hi:(P.info? ty).map (·.size)=some vs.length)
 (h:wpList P ops Q rest (a.put o.dst (.agg vs.toArray)) w):wpList P ops Q (o::rest) a w :=
 wpList_load_mid hgd ty x ho g off hx vs d (hg.rangeOf off _ vs hv) hu hd hi h
theorem jdq (hgd:o.guard=none) (ty:TypeId) (x y:Operand) (ho:o.op=.store ty x y)
 (g off:Nat) (cells:Array Value) (hx:a.eval x=.pointer (some ⟨g,off,none⟩)) (hy:a.eval y=.agg cells) (t:TypeId) (cs:Array Value) (hg:Blk w g t cs)
 (hn:off+cells.size≤cs.size) (hi:(P.info? ty).map (·.size)=some cells.size) (h1:cells.all (·.oneCell')=true)
 (h:∀ w',Blk w' g t (setL cs.toList off cells.toList).toArray→Only (fun k=>k=g) w w'→w'.heap.size=w.heap.size→wpList P ops Q rest (a.put o.dst undef) w'):wpList P ops Q (o::rest) a w :=
 wpList_store_mid hgd ty x y ho g off cells hx hy (hg.thereOf off _ hn) hi h1 (h _ (hg.setCells cells.toList off) (jbt _ _ _) (jdg _ _ _))
theorem jap (hgd:o.guard=none) (ty:TypeId) (x y:Operand) (ho:o.op=.store ty x y)
 (g:Nat) (cells:Array Value) (hx:a.eval x=.pointer (some ⟨g,0,none⟩)) (hy:a.eval y=.agg cells) (t:TypeId) (cs:Array Value) (hg:Blk w g t cs)
 (hn:cells.size=cs.size) (hi:(P.info? ty).map (·.size)=some cells.size) (h1:cells.all (·.oneCell')=true)
 (h:∀ w',Blk w' g t cells→Only (fun k=>k=g) w w'→w'.heap.size=w.heap.size→wpList P ops Q rest (a.put o.dst undef) w'):wpList P ops Q (o::rest) a w :=
 jdq hgd ty x y ho g 0 cells hx hy t cs hg (by omega) hi h1 fun w' hB=>h w' (by
  have e:setL cs.toList 0 cells.toList=cells.toList:=by
   rw [setL_eq _ _ _ (by simp;omega)]
   simp [hn]
  rw [e] at hB
  simpa using hB)
theorem jaz (hw:Region.wanted o (yielded ops a.tmps)=true) (ty:TypeId) (x:Operand) (ho:o.op=.load ty x)
 (g off:Nat) (hx:a.eval x=.pointer (some ⟨g,off,none⟩)) (t:TypeId) (cs:Array Value) (vs:List Value) (d:TypeDesc) (hS:∀ w,S w→Blk w g t cs) (hv:(cs.toList.drop off).take vs.length=vs)
 (hu:P.underlying ty=some d) (hd:d.isRow=true) (hi:(P.info? ty).map (·.size)=some vs.length):YieldsIf P ops S o (.agg vs.toArray) a :=
 yieldsIf_load_mid hw ty x ho g off hx vs d (fun w h=>(hS w h).rangeOf off _ vs hv) hu hd hi
theorem setL_all {cs cells:Array Value} (hn:cells.size=cs.size):(setL cs.toList 0 cells.toList).toArray=cells:=by
 have e:setL cs.toList 0 cells.toList=cells.toList:=by
  rw [setL_eq _ _ _ (by simp;omega)]
  simp [hn]
 rw [e]
theorem results_blk {fn:Func} {p:Tmp} {ty:TypeId} (h:fn.results=#[.cell p ty]) {tmps:Array Value} {g:Nat} {t:TypeId} {cs:Array Value} (hg:Blk w g t cs)
 (hp:tmps.getD p undef=.pointer (some ⟨g,0,none⟩)) (d:TypeDesc)
 (hu:P.underlying ty=some d) (hd:(match d with | .struct _ | .array _ _=>true | _=>false)=true) (hi:(P.info? ty).map (·.size)=some cs.size) :
 (results fn tmps).run P w=.ok (.agg cs) w:=results_cell_row h tmps w g t cs (0,0) d hp hg hu hd hi
theorem jea {fn:Func} {p u:Tmp} {ty:TypeId} (h:fn.results=#[.cell p ty,.tmp u]) {tmps:Array Value} {g:Nat} {t:TypeId} {cs:Array Value} (hg:Blk w g t cs)
 (hp:tmps.getD p undef=.pointer (some ⟨g,0,none⟩)) (v:Value) (hv:tmps.getD u undef=v) (d:TypeDesc)
 (hu:P.underlying ty=some d) (hd:(match d with | .struct _ | .array _ _=>true | _=>false)=true) (hi:(P.info? ty).map (·.size)=some cs.size) :
 (results fn tmps).run P w=.ok (.tuple #[.agg cs,v]) w:=by
 rw [results_cell_tmp h,hp,hv]
 simp [asAddr,run_loadVar_row w g t ty cs (0,0) d hg hu hd hi]
end
end
end Go.Proofs.YtcchekmejnhlmaaGreat
