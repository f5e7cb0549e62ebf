/- Joined texts. -/
import Derived.Test.YtcchekmejnhlmaaGreatK18
import Derived.KernelRfl
namespace Go.Proofs.YtcchekmejnhlmaaGreat
set_option linter.unusedVariables false
set_option maxHeartbeats 4000000
section
namespace Db
open Ev
noncomputable section
abbrev Sg:=Nat×Nat×Nat
def rcs (i s t:Nat):Option (Nat×List Nat):=(((([rc0,rc1,rc2]:List (List (List (Nat×Nat×List Nat)))).getD i []).getD s []).find? fun e=>Nat.beq e.1 t).map (·.2)
def dst (t:Nat):Nat:=dsts.getD t 0
def wt (t:Nat):Nat:=wts.getD t 0
def wsum (l:List Nat):Nat:=(l.map wt).sum
def dOne (s:Sg) (t:Nat):Option (Sg×List Nat) :=
 cnd (Nat.beq (dst t) 0) ((rcs 0 s.1 t).map fun p=>((p.1,s.2.1,s.2.2),p.2)) <|
 cnd (Nat.beq (dst t) 1) ((rcs 1 s.2.1 t).map fun p=>((s.1,p.1,s.2.2),p.2)) <|
 cnd (Nat.beq (dst t) 2) ((rcs 2 s.2.2 t).map fun p=>((s.1,s.2.1,p.1),p.2)) (some (s,[]))
abbrev Rw:=Sg×List Nat×List Nat
def mem (t:Nat) (l:List Nat):Bool:=l.any fun u=>Nat.beq u t
def sgB (a b:Sg):Bool:=and (Nat.beq a.1 b.1) (and (Nat.beq a.2.1 b.2.1) (Nat.beq a.2.2 b.2.2))
def step1 (R:List Rw) (r:Rw) (t:Nat):Bool:=Option.rec false (fun p=>Option.rec false (fun q=>and (q.2.1.all fun u=>or (mem u p.2) (and (mem u r.2.1) (not (Nat.beq u t)))) (and (r.2.2.all fun u=>mem u q.2.2) (and (p.2.all fun u=>mem u q.2.2) (Nat.blt (wsum p.2) (wt t)))))
 (R.find? fun q=>sgB q.1 p.1)) (dOne r.1 t)
def chk (R:List Rw):Bool:=R.all fun r=>r.2.2.all fun t=>step1 R r t
theorem mem_iff {t:Nat} {l:List Nat}:mem t l=true↔t∈l:=by
 unfold mem
 rw [List.any_eq_true]
 exact ⟨fun ⟨u,h,e⟩=>by rw [←Nat.eq_of_beq_eq_true e];exact h,fun h=>⟨t,h,Nat.beq_refl t⟩⟩
theorem sgB_eq {a b:Sg} (h:sgB a b=true):a=b:=by
 unfold sgB at h
 rw [Bool.and_eq_true,Bool.and_eq_true] at h
 obtain ⟨a1,a2,a3⟩:=a
 obtain ⟨b1,b2,b3⟩:=b
 have h1:=Nat.eq_of_beq_eq_true h.1
 have h2:=Nat.eq_of_beq_eq_true h.2.1
 have h3:=Nat.eq_of_beq_eq_true h.2.2
 simp only at h1 h2 h3
 rw [h1,h2,h3]
def Inv (R:List Rw) (s:Sg) (bag:List Nat):Prop:=∃ r∈R,r.1=s∧(∀ t∈r.2.1,t∈bag)∧∀ t∈bag,t∈r.2.2
theorem mem_erase {l:List Nat} {k:Nat} (hk:k<l.length) {u:Nat} (hu:u∈l) (hne:u≠l[k]):u∈l.eraseIdx k:=by
 rw [List.mem_eraseIdx_iff_getElem]
 obtain ⟨j,hj,e⟩:=List.getElem_of_mem hu
 exact ⟨j,hj,fun q=>hne (by subst q;exact e.symm),e⟩
theorem jkq {R:List Rw} (hR:chk R=true) {s:Sg} {bag:List Nat} (h:Inv R s bag) {k:Nat} (hk:k<bag.length):∃ s' os,dOne s bag[k]=some (s',os)∧Inv R s' (bag.eraseIdx k++os)∧wsum os<wt bag[k]:=by
 obtain ⟨r,hr,rfl,h1,h2⟩:=h
 unfold chk at hR
 have h3:=List.all_eq_true.1 (List.all_eq_true.1 hR r hr) bag[k] (h2 _ (List.getElem_mem hk))
 unfold step1 at h3
 cases hd:dOne r.1 bag[k] with
 | none=>rw [hd] at h3;cases h3
 | some p =>
   rw [hd] at h3
   cases hf:R.find? fun q=>sgB q.1 p.1 with
   | none=>simp only [hf] at h3;cases h3
   | some q =>
     simp only [hf] at h3
     simp only [Bool.and_eq_true] at h3
     obtain ⟨a1,a2,a3,a4⟩:=h3
     refine ⟨p.1,p.2,rfl,⟨q,List.mem_of_find?_eq_some hf,sgB_eq (List.find?_some (p:=fun q:Rw=>sgB q.1 p.1) hf),fun u hu=>?_,fun u hu=>?_⟩,Nat.le_of_ble_eq_true a4⟩
     ·have:=List.all_eq_true.1 a1 u hu
      rw [Bool.or_eq_true,Bool.and_eq_true,Bool.not_eq_true'] at this
      rcases this with q | ⟨q1,q2⟩
      ·exact List.mem_append.2 (.inr (mem_iff.1 q))
      ·exact List.mem_append.2 (.inl (mem_erase hk (h1 u (mem_iff.1 q1)) (Nat.ne_of_beq_eq_false q2)))
     ·rcases List.mem_append.1 hu with q | q
      ·exact mem_iff.1 (List.all_eq_true.1 a2 u (h2 u (List.mem_of_mem_eraseIdx q)))
      ·exact mem_iff.1 (List.all_eq_true.1 a3 u q)
theorem inv_double {R:List Rw} {s:Sg} {bag:List Nat} (h:Inv R s bag) {k:Nat} (hk:k<bag.length):Inv R s (bag++[bag[k]]):=by
 obtain ⟨r,hr,e,h1,h2⟩:=h
 refine ⟨r,hr,e,fun t ht=>List.mem_append.2 (.inl (h1 t ht)),fun t ht=>?_⟩
 rcases List.mem_append.1 ht with q | q
 ·exact h2 t q
 ·rw [List.mem_singleton.1 q];exact h2 _ (List.getElem_mem hk)
theorem jen (a b:List Nat):wsum (a++b)=wsum a+wsum b:=by unfold wsum;rw [List.map_append,List.sum_append]
theorem wsum_erase {l:List Nat}:∀ {k:Nat} (hk:k<l.length),wsum (l.eraseIdx k)+wt l[k]=wsum l:=by
 induction l with
 | nil=>intro k hk;simp at hk
 | cons a l ih =>
   intro k hk
   cases k with
   | zero=>show wsum l+wt a=(wt a+wsum l);omega
   | succ k =>
     have:=ih (k:=k) (by simpa using hk)
     show (wt a+wsum (l.eraseIdx k))+wt (l[k]'(by simpa using hk))=wt a+wsum l
     omega
inductive Drain:Nat→Sg→List Nat→Sg→List Nat→Prop
 | nil {n s}:Drain n s [] s []
 | cons {n s t r s1 os s' g}:dOne s t=some (s1,os)→Drain n s1 (r++os) s' g→Drain (n+1) s (t::r) s' (cnd (Nat.beq (dst t) 3) (t::g) g)
theorem drain_inv {R:List Rw} (hR:chk R=true):∀ (n:Nat) {s:Sg} {bag:List Nat},Inv R s bag→wsum bag≤n→∃ s' g,Drain n s bag s' g∧Inv R s' []
 | n,s,[],h,_=>⟨s,[],.nil,h⟩
 | n,s,t::r,h,hn=>by
   obtain ⟨s1,os,h1,h2,h3⟩:=jkq hR h (k:=0) (by simp)
   have h3:wsum os<wt t:=h3
   have hn:wt t+wsum r≤n:=hn
   cases n with
   | zero=>omega
   | succ n =>
     obtain ⟨s',g,k1,k2⟩:=drain_inv hR n (bag:=r++os) h2 (by rw [jen];omega)
     exact ⟨s',_,.cons h1 k1,k2⟩
def drF:Nat→Sg→List Nat→Option (Sg×List Nat)
 | _,s,[]=>some (s,[])
 | 0,_,_::_=>none
 | n+1,s,t::r=>Option.rec none (fun p=>(drF n p.1 (r++p.2)).map fun q=>(q.1,cnd (Nat.beq (dst t) 3) (t::q.2) q.2)) (dOne s t)
theorem drF_ok:∀ (n:Nat) {s s':Sg} {bag g:List Nat},drF n s bag=some (s',g)→Drain n s bag s' g
 | n,s,s',[],g,h=>by
   have h:some (s,[])=some (s',g):=by cases n<;>exact h
   cases h;exact .nil
 | 0,s,s',t::r,g,h=>by cases h
 | n+1,s,s',t::r,g,h=>by
   have h:(Option.rec none (fun p=>(drF n p.1 (r++p.2)).map fun q=>(q.1,cnd (Nat.beq (dst t) 3) (t::q.2) q.2)) (dOne s t):Option (Sg×List Nat))=some (s',g):=h
   cases hd:dOne s t with
   | none=>rw [hd] at h;cases h
   | some p =>
     rw [hd] at h
     have h:(drF n p.1 (r++p.2)).map (fun q=>(q.1,cnd (Nat.beq (dst t) 3) (t::q.2) q.2))=some (s',g):=h
     cases hq:drF n p.1 (r++p.2) with
     | none=>rw [hq] at h;cases h
     | some q =>
       rw [hq] at h
       cases h
       exact .cons hd (drF_ok n hq)
theorem Drain.mono {n n':Nat} {s s':Sg} {bag g:List Nat} (h:Drain n s bag s' g) (hn:n≤n'):Drain n' s bag s' g:=by
 induction h generalizing n' with
 | nil=>exact .nil
 | cons h1 _ ih =>
   cases n' with
   | zero=>omega
   | succ n'=>exact .cons h1 (ih (by omega))
def rws:List (List Rw):=[rw0,rw1,rw2,rw3,rw4,rw5,rw6,rw7]
def rwN (r:Nat):List Rw:=rws.getD r []
def reqN (r:Nat):Nat:=reqs.getD r 0
def jdx (r:Nat):Sg:=starts.getD r (0,0,0)
def finN (r:Nat):Sg:=fins.getD r (0,0,0)
def ansN (r:Nat):Nat:=answers.getD r 0
theorem chk0:chk rw0=true:=by kernel_rfl
theorem chk1:chk rw1=true:=by kernel_rfl
theorem chk2:chk rw2=true:=by kernel_rfl
theorem chk3:chk rw3=true:=by kernel_rfl
theorem chk4:chk rw4=true:=by kernel_rfl
theorem chk5:chk rw5=true:=by kernel_rfl
theorem chk6:chk rw6=true:=by kernel_rfl
theorem chk7:chk rw7=true:=by kernel_rfl
theorem chkN (r:Nat) (hr:r<8):chk (rwN r)=true:=by
 have:r=0∨r=1∨r=2∨r=3∨r=4∨r=5∨r=6∨r=7:=by omega
 rcases this with rfl | rfl | rfl | rfl | rfl | rfl | rfl | rfl
 ·exact chk0
 ·exact chk1
 ·exact chk2
 ·exact chk3
 ·exact chk4
 ·exact chk5
 ·exact chk6
 ·exact chk7
def edge (r:Nat):Bool:=and ((rwN r).any fun w=>and (sgB w.1 (jdx r)) (and (w.2.1.all fun t=>Nat.beq t (reqN r)) (mem (reqN r) w.2.2))) ((rwN r).all fun w=>or (not w.2.1.isEmpty) (sgB w.1 (finN r)))
theorem edges:(List.range 8).all edge=true:=by kernel_rfl
theorem inv_start (r:Nat) (hr:r<8):Inv (rwN r) (jdx r) [reqN r]:=by
 have h:=List.all_eq_true.1 edges r (List.mem_range.2 hr)
 unfold edge at h
 rw [Bool.and_eq_true,List.any_eq_true] at h
 obtain ⟨⟨w,h1,h2⟩,_⟩:=h
 rw [Bool.and_eq_true,Bool.and_eq_true] at h2
 refine ⟨w,h1,sgB_eq h2.1,fun t ht=>?_,fun t ht=>?_⟩
 ·rw [Nat.eq_of_beq_eq_true (List.all_eq_true.1 h2.2.1 t ht)];exact List.mem_singleton_self _
 ·rw [List.mem_singleton.1 ht];exact mem_iff.1 h2.2.2
theorem inv_fin (r:Nat) (hr:r<8) {s:Sg} (h:Inv (rwN r) s []):s=finN r:=by
 have he:=List.all_eq_true.1 edges r (List.mem_range.2 hr)
 unfold edge at he
 rw [Bool.and_eq_true] at he
 obtain ⟨w,h1,rfl,h3,_⟩:=h
 have:=List.all_eq_true.1 he.2 w h1
 rw [Bool.or_eq_true,Bool.not_eq_true'] at this
 rcases this with q | q
 ·cases hw:w.2.1 with
  | nil=>rw [hw] at q;cases q
  | cons a l=>have:=h3 a (by rw [hw];exact List.mem_cons_self ..);cases this
 ·exact sgB_eq q
theorem wt_le:wts.all (fun x=>Nat.ble x 11)=true:=by kernel_rfl
theorem wt_11 (t:Nat):wt t≤11:=by
 unfold wt
 rw [List.getD_eq_getElem?_getD]
 cases h:wts[t]? with
 | none=>exact Nat.zero_le _
 | some x=>exact Nat.le_of_ble_eq_true (List.all_eq_true.1 wt_le x (List.mem_of_getElem? h))
def ok1 (t:Nat):Bool:=and (Nat.blt 0 (wt t)) (Nat.blt t tms.length)
def allowB:Bool:=rws.all fun R=>R.all fun r=>r.2.2.all ok1
theorem allow_ok:allowB=true:=by kernel_rfl
theorem len_wsum {l:List Nat} (h:∀ t∈l,0<wt t):l.length≤wsum l:=by
 induction l with
 | nil=>exact Nat.zero_le _
 | cons a l ih =>
   have:=h a (List.mem_cons_self ..)
   have:=ih fun t ht=>h t (List.mem_cons_of_mem _ ht)
   show l.length+1≤wt a+wsum l
   omega
theorem inv_wt (r:Nat) (hr:r<8) {s:Sg} {bag:List Nat} (h:Inv (rwN r) s bag):∀ t∈bag,0<wt t:=by
 obtain ⟨w,h1,_,_,h4⟩:=h
 intro t ht
 have hm:rwN r∈rws:=by
  unfold rwN
  rw [List.getD_eq_getElem?_getD,List.getElem?_eq_getElem (show r<rws.length from hr)]
  exact List.getElem_mem _
 have:=List.all_eq_true.1 (List.all_eq_true.1 (List.all_eq_true.1 allow_ok _ hm) w h1) t (h4 t ht)
 unfold ok1 at this
 rw [Bool.and_eq_true] at this
 exact Nat.le_of_ble_eq_true this.1
def btF (s:Nat):Option (Nat×List Nat):=(bts.find? fun e=>Nat.beq e.1 s).map (·.2)
theorem open_run:drF 100 (0,0,0) [tOpen]=some (sOpen,[tRe1]):=by kernel_rfl
theorem wr_run:drF 100 sOpen [tWr]=some (jdx 0,[tRe2]):=by kernel_rfl
def lb (l:List Nat) (a:Nat):Bool:=match l with | [x]=>Nat.beq x a | _=>false
def endF (r:Nat):Option Unit:=oB (btF (finN r).1) fun p=>oB (drF 100 (p.1,(finN r).2.1,(finN r).2.2) p.2) fun q=>oB (drF 100 q.1 [jgn]) fun q2=>oB (btF q2.1.1) fun _=>cnd (and q.2.isEmpty (lb q2.2 (ansN r))) (some ()) none
theorem ends_ok:((List.range 8).all fun r=>(endF r).isSome)=true:=by kernel_rfl
theorem end_of (r:Nat) (hr:r<8):∃ b os m n b2 os2,btF (finN r).1=some (b,os)∧Drain 100 (b,(finN r).2.1,(finN r).2.2) os m []∧Drain 100 m [jgn] n [ansN r]∧btF n.1=some (b2,os2):=by
 have h:=List.all_eq_true.1 ends_ok r (List.mem_range.2 hr)
 obtain ⟨u,h⟩:=Option.isSome_iff_exists.1 h
 unfold endF at h
 obtain ⟨p,h1,h⟩:=jag h
 obtain ⟨q,h2,h⟩:=jag h
 obtain ⟨q2,h3,h⟩:=jag h
 obtain ⟨b2,h4,h⟩:=jag h
 obtain ⟨h5,_⟩:=jab h
 rw [Bool.and_eq_true] at h5
 have e1:q.2=[]:=List.isEmpty_iff.1 h5.1
 have e2:q2.2=[ansN r]:=by
  have h6:=h5.2
  unfold lb at h6
  split at h6
  ·rename_i x hx
   rw [hx,Nat.eq_of_beq_eq_true h6]
  ·cases h6
 refine ⟨p.1,p.2,q.1,q2.1,b2.1,b2.2,h1,?_,?_,h4⟩
 ·have:=drF_ok 100 (s':=q.1) (g:=q.2) h2
  rwa [e1] at this
 ·have:=drF_ok 100 (s':=q2.1) (g:=q2.2) h3
  rwa [e2] at this
theorem jdc:tmN tOpen=tM 0 100 0 0 0 0 0 0 1 false none:=by kernel_rfl
theorem jiv:tmN tWr=tM 0 100 0 0 0 0 0 1 2 false (some (0,1)):=by kernel_rfl
theorem jdv:tmN jgn=tM 2 100 0 1 0 0 0 0 3 true none:=by kernel_rfl
theorem tm_re1:tmN tRe1=tM 1 0 100 1 0 0 0 1 1 false none:=by kernel_rfl
theorem tm_re2:tmN tRe2=tM 1 0 100 2 0 0 0 1 2 false none:=by kernel_rfl
theorem i8 {p:Nat→Prop} (h:p 0∧p 1∧p 2∧p 3∧p 4∧p 5∧p 6∧p 7) (r:Nat) (hr:r<8):p r:=by
 obtain ⟨h0,h1,h2,h3,h4,h5,h6,h7⟩:=h
 have:r=0∨r=1∨r=2∨r=3∨r=4∨r=5∨r=6∨r=7:=by omega
 rcases this with rfl | rfl | rfl | rfl | rfl | rfl | rfl | rfl<;>assumption
theorem tm_req (r:Nat) (hr:r<8):tmN (reqN r)=tM 0 100 0 0 0 0 0 1 (10+r) false (some (1,500+r)) :=
 i8 (p:=fun r=>tmN (reqN r)=tM 0 100 0 0 0 0 0 1 (10+r) false (some (1,500+r))) (by refine ⟨?_,?_,?_,?_,?_,?_,?_,?_⟩<;>kernel_rfl) r hr
theorem tm_ans (r:Nat) (hr:r<8):tmN (ansN r)=tM 3 0 100 (500+r) 0 1 0 0 3 false none :=
 i8 (p:=fun r=>tmN (ansN r)=tM 3 0 100 (500+r) 0 1 0 0 3 false none) (by refine ⟨?_,?_,?_,?_,?_,?_,?_,?_⟩<;>kernel_rfl) r hr
def dchk (t:Nat):Bool:=cnd (Nat.beq (dst t) 3) (and (eqF (tmN t).to 100) (and (tmN t).p.isNone (and (eqF (tmN t).co 0) (not (tmN t).s)))) (and (Nat.blt (dst t) 3) (eqF (tmN t).to (.ofNat (dst t))))
theorem dchk_all:((List.range tms.length).all dchk)=true:=by kernel_rfl
theorem dst_len:dsts.length=tms.length:=by kernel_rfl
theorem dst_ok (t:Nat):(dst t=3∧(tmN t).to=100∧(tmN t).p=none∧(tmN t).co=0∧(tmN t).s=false)∨(dst t<3∧(tmN t).to=(dst t:Int)):=by
 by_cases h:t<tms.length
 ·have:=List.all_eq_true.1 dchk_all t (List.mem_range.2 h)
  unfold dchk at this
  by_cases e:dst t=3
  ·rw [e] at this
   simp only [Nat.beq_refl,cnd_true,Bool.and_eq_true,jem,beq_iff_eq,Bool.not_eq_true',Option.isNone_iff_eq_none] at this
   exact .inl ⟨e,this⟩
  ·rw [show Nat.beq (dst t) 3=false from by
    cases hb:Nat.beq (dst t) 3 with
    | false=>rfl
    | true=>exact absurd (Nat.eq_of_beq_eq_true hb) e,cnd_false,Bool.and_eq_true,jem,beq_iff_eq] at this
   exact .inr ⟨Nat.le_of_ble_eq_true this.1,this.2⟩
 ·right
  have e1:dst t=0:=by unfold dst;rw [List.getD_eq_getElem?_getD,List.getElem?_eq_none (by rw [dst_len];omega)];rfl
  have e2:tmN t=tM 0 0 0 0 0 0 0 0 0 false none:=by unfold tmN;rw [List.getD_eq_getElem?_getD,List.getElem?_eq_none (by omega)];rfl
  rw [e1,e2]
  exact ⟨by decide,rfl⟩
def nu3 (t:Nat):Bool:=or (not (Nat.beq (dst t) 3)) (not (eqF (tmN t).nu 3))
theorem nu3_all:(rws.all fun R=>R.all fun r=>r.2.2.all nu3)=true:=by kernel_rfl
theorem rw_mem {r:Nat} (hr:r<8):rwN r∈rws:=by
 unfold rwN
 rw [List.getD_eq_getElem?_getD,List.getElem?_eq_getElem (show r<rws.length from hr)]
 exact List.getElem_mem _
theorem inv_nu (r:Nat) (hr:r<8) {s:Sg} {bag:List Nat} (h:Inv (rwN r) s bag):∀ t∈bag,dst t=3→(tmN t).nu≠3:=by
 obtain ⟨w,h1,_,_,h4⟩:=h
 intro t ht hd hn
 have:=List.all_eq_true.1 (List.all_eq_true.1 (List.all_eq_true.1 nu3_all _ (rw_mem hr)) w h1) t (h4 t ht)
 unfold nu3 at this
 rw [hd,hn] at this
 exact absurd this (by decide)
theorem drain_nu (r:Nat) (hr:r<8):∀ {n:Nat} {s s':Sg} {bag g:List Nat},Drain n s bag s' g→Inv (rwN r) s bag→∀ t∈g,dst t=3∧(tmN t).nu≠3
 | _,_,_,_,_,.nil,_,t,ht=>by cases ht
 | _,_,_,_,_,.cons (t:=u) (r:=l) h1 h2,hi,t,ht=>by
   obtain ⟨s1,os,k1,k2,_⟩:=jkq (chkN r hr) hi (k:=0) (by simp)
   have k1:dOne _ u=some (s1,os):=k1
   rw [h1] at k1
   cases k1
   have ih:=drain_nu r hr h2 k2
   cases hb:Nat.beq (dst u) 3 with
   | true =>
     rw [hb] at ht
     rcases List.mem_cons.1 ht with q | q
     ·rw [q]
      have e:=Nat.eq_of_beq_eq_true hb
      exact ⟨e,inv_nu r hr hi u (List.mem_cons_self ..) e⟩
     ·exact ih t q
   | false =>
     rw [hb] at ht
     exact ih t ht
def len4:Bool:=([rc0,rc1,rc2]:List (List (List (Nat×Nat×List Nat)))).all fun a=>a.all fun l=>l.all fun e=>Nat.ble e.2.2.length 4
theorem len4_ok:len4=true:=by kernel_rfl
theorem rcs_mem {i s t s':Nat} {os:List Nat} (h:rcs i s t=some (s',os)):∃ a l,([rc0,rc1,rc2]:List (List (List (Nat×Nat×List Nat))))[i]? =some a∧a[s]? =some l∧(t,s',os)∈l:=by
 unfold rcs at h
 rw [List.getD_eq_getElem?_getD,List.getD_eq_getElem?_getD] at h
 obtain ⟨e,h1,h2⟩:=Option.map_eq_some_iff.1 h
 have he:=Nat.eq_of_beq_eq_true (List.find?_some (p:=fun e:Nat×Nat×List Nat=>Nat.beq e.1 t) h1)
 have hm:=List.mem_of_find?_eq_some h1
 cases ha:([rc0,rc1,rc2]:List (List (List (Nat×Nat×List Nat))))[i]? with
 | none=>rw [ha] at hm;simp at hm
 | some a =>
   rw [ha] at hm
   have hm:e∈a[s]?.getD []:=hm
   cases hl:a[s]? with
   | none=>rw [hl] at hm;cases hm
   | some l =>
     rw [hl] at hm
     refine ⟨a,l,rfl,hl,?_⟩
     obtain ⟨e1,e2⟩:=e
     have he:e1=t:=he
     have h2:e2=(s',os):=h2
     rw [←he,←h2]
     exact hm
theorem rcs_len {i s t s':Nat} {os:List Nat} (h:rcs i s t=some (s',os)):os.length≤4:=by
 obtain ⟨a,l,h1,h2,h3⟩:=rcs_mem h
 exact Nat.le_of_ble_eq_true (List.all_eq_true.1 (List.all_eq_true.1 (List.all_eq_true.1 len4_ok a (List.mem_of_getElem? h1)) l (List.mem_of_getElem? h2)) _ h3)
end
end Db
end
end Go.Proofs.YtcchekmejnhlmaaGreat
