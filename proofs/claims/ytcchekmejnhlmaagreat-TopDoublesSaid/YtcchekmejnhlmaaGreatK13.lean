/- Joined texts. -/
import Derived.Test.YtcchekmejnhlmaaGreatK12
import Derived.KernelRfl
namespace Go.Proofs.YtcchekmejnhlmaaGreat
set_option linter.unusedVariables false
set_option maxHeartbeats 4000000
section
open Go.RowKit
namespace Db
open Ev
noncomputable section
def isI (x:Sc) (n:Int):Bool:=match x with | .i .i64 m=>eqF m n | _=>false
def isS (x:Sc) (l n:Nat):Bool:=match x with | .s a b=>and (Nat.beq a l) (Nat.beq b n) | _=>false
def isN (x:Sc):Bool:=match x with | .sn=>true | _=>false
def row3 (q:Int×Int) (o:Ob):Bool:=match jbo 0 3 o with | some [a,b,c]=>and (isS a 1 115) (and (isI b q.1) (isI c q.2)) | _=>false
def batK (H:HT) (l:List Nat) (p:Option (Int×Int)) (x:Sc):Bool:=match p,x with
 | none,.sn=>true
 | some q,.su id 0 1 lb 3=>and (Nat.ble 1 lb) (and (not (l.any fun j=>Nat.beq j id)) (and (Nat.blt id HB) (row3 q (hget H id))))
 | _,_=>false
def takeI:List Int→List Sc→Option (List Sc)
 | [],xs=>some xs
 | n::ns,x::xs=>cnd (isI x n) (takeI ns xs) none
 | _::_,[]=>none
def Tm.ints (t:Tm):List Int:=[t.k,t.fr,t.to,t.vw,t.nm,t.at_,t.cm,t.rd,t.cl,t.se,t.nu,t.co,t.ag,t.un]
def tmK (H:HT) (l:List Nat) (t:Tm) (xs:List Sc):Option (List Sc):=match takeI t.ints xs with
 | some (s::b::z::e::ls::e'::r)=>cnd (and (isS s (cnd t.s 1 0) (cnd t.s 115 0)) (and (batK H l t.p b) (and (isI z 0) (and (isS e 0 0) (and (isN ls) (isS e' 0 0)))))) (some r) none
 | _=>none
def osK (H:HT) (l:List Nat):List Tm→List Sc→Bool
 | [],[]=>true
 | [],_::_=>false
 | t::ts,xs=>Option.rec false (fun r=>osK H l ts r) (tmK H l t xs)
def rcvK (l:List Nat) (os:List Tm) (p:Option (Int×Int)) (r:Rs):Option HT :=
 Rs.rec none (fun v H _=>V.rec (fun x=>cnd (Option.rec true (fun q=>and (not (l.any fun j=>Nat.beq j 4000)) (row3 q (hget H 4000))) p) (oB (slRd 20 x H) fun xs=>cnd (osK H l os xs) (T8.fc (mkRn l 0 .z) fun τ=>gcH τ H l 0 .z) none) none) (fun _=>none) (fun _=>none) v) r
section
variable {G:Gh} {H:HT} {w:World} {l:List Nat}
theorem isI_ok {x:Sc} {n:Int} {v:Value} (h:isI x n=true) (hx:Sc.ok G x v):v=.int .i64 n:=by
 unfold isI at h
 split at h
 ·rw [jem] at h
  rw [←eq_of_beq h]
  exact hx
 ·cases h
theorem isS_eq {x:Sc} {a b:Nat} (h:isS x a b=true):x=.s a b:=by
 unfold isS at h
 split at h
 ·rw [Bool.and_eq_true] at h
  rw [jae h.1,jae h.2]
 ·cases h
theorem isN_eq {x:Sc} (h:isN x=true):x=.sn:=by
 unfold isN at h
 split at h
 ·rfl
 ·cases h
def OutB (G:Gh) (H:HT) (l:List Nat) (b:Nat):Prop:=∃ id sz,id∉l∧hp H id≠.no∧G id=some (b,sz)
theorem row3_ok (hR:R G (hp H) w) {id b sz c:Nat} {q:Int×Int} (hid:id<HB) (hg:G id=some (b,sz)) (h:row3 q (hget H id)=true) (hc:1≤c) (hsz:sz=c*3) :
 hp H id≠.no∧BatOk w (fun j=>j=b) (some q) (some ⟨b,0,none⟩) 1 c:=by
 unfold row3 at h
 split at h
 ·rename_i x y z hx
  obtain ⟨n,yy,dep,d,t,ho,hle,hl⟩:=jbp hx
  have hpi:hp H id=.row n yy dep d t:=(jas hid).trans ho
  obtain ⟨b',sz',arr,el,fz,hg',L⟩:=hR.lies (id:=id) hpi
  rw [hg] at hg';cases hg'
  rw [Bool.and_eq_true,Bool.and_eq_true] at h
  have hs:=L.size
  have hle2:=L.le
  have hall:=L.list (off:=0) (k:=3) hle
  rw [←hl] at hall
  have key:∀ i (h3:i<3),arr[i]? =(arr.extract 0 (0+3)).toList[i]?:=fun i h3=>by
   rw [Array.getElem?_toList,Array.getElem?_extract,if_pos (by omega),Nat.zero_add]
  generalize (arr.extract 0 (0+3)).toList=us at *
  cases hall with
  | cons a1 hall =>
  cases hall with
  | cons a2 hall =>
  cases hall with
  | cons a3 hall =>
  cases hall
  have e1:=isS_eq h.1
  subst e1
  refine ⟨(by rw [hpi];exact fun q=>(by cases q)),rfl,hc,b,arr,el,fz,rfl,L.hb,fun i hi=>L.fz i (by omega),by omega,?_,?_,?_,rfl⟩
  ·rw [key 0 (by decide),ser_of (s:=true) a1];rfl
  ·rw [key 1 (by decide),isI_ok h.2.1 a2];rfl
  ·rw [key 2 (by decide),isI_ok h.2.2 a3];rfl
 ·cases h
theorem batK_ok (hR:R G (hp H) w) {p:Option (Int×Int)} {x:Sc} {v:Value} (h:batK H l p x=true) (hx:Sc.ok G x v):∃ A n c,v=.slice A n c∧BatOk w (OutB G H l) p A n c:=by
 unfold batK at h
 split at h
 ·exact ⟨none,0,0,hx,rfl,rfl,rfl⟩
 ·rename_i q id lb
  rw [Bool.and_eq_true,Bool.and_eq_true,Bool.and_eq_true] at h
  obtain ⟨h1,h2,h3,h4⟩:=h
  obtain ⟨b,sz,c,hg,rfl,hl1,hl2,hsz⟩:=hx
  have h1:=jad h1
  obtain ⟨k1,k2⟩:=row3_ok hR (jaa h3) hg h4 (c:=c) (by omega) (by omega)
  refine ⟨_,_,_,rfl,k2.mono fun j _ e=>?_⟩
  subst e
  refine ⟨id,sz,fun hm=>?_,k1,hg⟩
  rw [Bool.not_eq_true',List.any_eq_false] at h2
  exact h2 id hm (by simp)
 ·cases h
theorem takeI_ok:∀ {ns:List Int} {xs r:List Sc} {us:List Value},takeI ns xs=some r→All2 (Sc.ok G) xs us→∃ us',us=ns.map (Value.int .i64)++us'∧All2 (Sc.ok G) r us'
 | [],xs,r,us,h,ha=>by cases h;exact ⟨us,rfl,ha⟩
 | n::ns,[],r,us,h,ha=>by cases h
 | n::ns,x::xs,r,_,h,.cons a ha=>by
   obtain ⟨h1,h2⟩:=jab (show cnd (isI x n) (takeI ns xs) none=some r from h)
   obtain ⟨us',rfl,k⟩:=takeI_ok h2 ha
   exact ⟨us',by rw [isI_ok h1 a];rfl,k⟩
theorem tmK_ok (hR:R G (hp H) w) {t:Tm} {xs r:List Sc} {us:List Value} (h:tmK H l t xs=some r) (ha:All2 (Sc.ok G) xs us):∃ A n c us',us=msC (t.ms A n c)++us'∧All2 (Sc.ok G) r us'∧BatOk w (OutB G H l) t.p A n c:=by
 unfold tmK at h
 split at h
 ·rename_i s b z e ls e' r' hr
  obtain ⟨h1,h2⟩:=jab h
  cases h2
  simp only [Bool.and_eq_true] at h1
  obtain ⟨h1,h2,h3,h4,h5,h6⟩:=h1
  obtain ⟨us',rfl,hz⟩:=takeI_ok hr ha
  clear ha
  cases hz with
  | cons a1 hz =>
  cases hz with
  | cons a2 hz =>
  cases hz with
  | cons a3 hz =>
  cases hz with
  | cons a4 hz =>
  cases hz with
  | cons a5 hz =>
  cases hz with
  | cons a6 ha =>
  have e1:=isS_eq h1
  have e4:=isS_eq h4
  have e5:=isN_eq h5
  have e6:=isS_eq h6
  subst e1
  subst e4
  subst e5
  subst e6
  obtain ⟨A,n,c,rfl,hb⟩:=batK_ok hR h2 a2
  refine ⟨A,n,c,_,?_,ha,hb⟩
  rw [ser_of a1,isI_ok h3 a3,str0 a4,show _=Value.slice none 0 0 from a5,str0 a6]
  rfl
 ·cases h
def MsD (w:World) (D:Nat→Prop) (t:Tm) (m:Ms):Prop:=∃ A n c,m=t.ms A n c∧BatOk w D t.p A n c
theorem osK_ok (hR:R G (hp H) w):∀ {os:List Tm} {xs:List Sc} {us:List Value},osK H l os xs=true→All2 (Sc.ok G) xs us→∃ ms,us=ms.flatMap msC∧All2 (MsD w (OutB G H l)) os ms
 | [],[],_,_,.nil=>⟨[],rfl,.nil⟩
 | [],_::_,_,h,_=>by cases h
 | t::ts,xs,us,h,ha=>by
   have h:(Option.rec false (fun r=>osK H l ts r) (tmK H l t xs):Bool)=true:=h
   cases hq:tmK H l t xs with
   | none=>rw [hq] at h;cases h
   | some r =>
     rw [hq] at h
     obtain ⟨A,n,c,us',rfl,ha',hb⟩:=tmK_ok hR hq ha
     obtain ⟨ms,rfl,hm⟩:=osK_ok hR (show osK H l ts r=true from h) ha'
     exact ⟨t.ms A n c::ms,rfl,.cons ⟨A,n,c,rfl,hb⟩ hm⟩
end
theorem slRd_foot {G:Gh} {H:HT} {es:Nat} {x:Sc} {xs:List Sc} {a:Addr} {n c:Nat} (h:slRd es x H=some xs) (hv:Sc.ok G x (.slice (some a) n c)) (hne:xs≠[]) {v:Value} (hq:v=v):Foot G (hp H) a.block:=by
 have key:∀ id off k b sz,G id=some (b,sz)→cnd (Nat.blt id HB) (jbo off k (hget H id)) none=some xs→Foot G (hp H) b:=fun id off k b sz hg hc=>by
  obtain ⟨h1,h2⟩:=jab hc
  obtain ⟨m,y,dep,d,t,ho,_⟩:=jbp h2
  exact ⟨id,sz,(by rw [jas (jaa h1),ho];exact fun q=>(by cases q)),hg⟩
 cases x with
 | sn=>have h:some []=some xs:=h;cases h;exact absurd rfl hne
 | se=>have h:some []=some xs:=h;cases h;exact absurd rfl hne
 | sk id off len cap es' =>
   obtain ⟨b,sz,hg,he,_⟩:=hv
   cases he
   exact key id off _ b sz hg h
 | su id off len lb es' =>
   obtain ⟨b,sz,cc,hg,he,_⟩:=hv
   cases he
   exact key id off _ b sz hg h
 | _=>cases h
theorem rcvK_ok {l:List Nat} {os:List Tm} {p:Option (Int×Int)} {r:Rs} {K:HT} (h:rcvK l os p r=some K):∃ x H n,r=.ok (.c x) H n∧(∀ q,p=some q→4000∉l∧row3 q (hget H 4000)=true)∧∀ G w cv,R G (hp H) w→Sc.ok G x cv →
 R (gcG l G) (hp K) w∧(∀ j,l.length≤j→gcG l G j=none)∧(∀ b,Foot (gcG l G) (hp K) b→Foot G (hp H) b∧¬OutB G H l b)∧∃ A cap ms,cv=.slice A os.length cap∧Reads w w.heap.size 20 A os.length (ms.flatMap msC)∧All2 (MsD w (OutB G H l)) os ms∧(0<os.length→∀ a,A=some a→Foot G (hp H) a.block):=by
 cases r with
 | no=>cases h
 | ok v H n =>
   cases v with
   | a xs=>cases h
   | t es=>cases h
   | c x =>
     obtain ⟨h0,h⟩:=jab (show cnd (Option.rec true (fun q=>and (not (l.any fun j=>Nat.beq j 4000)) (row3 q (hget H 4000))) p) (oB (slRd 20 x H) fun xs=>cnd (osK H l os xs) (T8.fc (mkRn l 0 .z) fun τ=>gcH τ H l 0 .z) none) none=some K from h)
     obtain ⟨xs,h1,h⟩:=jag h
     obtain ⟨h2,h⟩:=jab h
     rw [T8.fc_eq] at h
     refine ⟨x,H,n,rfl,fun q hq=>?_,fun G w cv hR hv=>?_⟩
     ·subst hq
      rw [Bool.and_eq_true,Bool.not_eq_true',List.any_eq_false] at h0
      exact ⟨fun hm=>h0.1 4000 hm (by simp),h0.2⟩
     have hl:=gcH_lt l 0 .z _ h
     have hτ:RnOk l (mkRn l 0 .z):=jkn l [] .z hl fun id j _ q=>by rw [jel] at q;cases q
     have hg:gc l .z H=some (.z,K):=by
      unfold gc gcS
      rw [T8.fc_eq]
      show oB (gcH (mkRn l 0 .z) H l 0 .z) (fun K=>some (T8.z,K))=_
      rw [h]
      rfl
     obtain ⟨k1,_,k3,k4⟩:=gc_ok (nt:=0) (W:=[]) (a:={ tmps:=#[],defers:=[] }) hg hR ⟨fun j q _=>absurd q (Nat.not_lt_zero _),fun t o q=>by cases q⟩
     obtain ⟨A,m,cap,us,rfl,q2,q3⟩:=jdf hR h1 hv
     obtain ⟨ms,rfl,q4⟩:=osK_ok hR h2 q2
     have hm:m=os.length:=by
      have e1:=q3.1
      rw [jet msC 20 (fun _=>rfl)] at e1
      rw [q4.length];omega
     subst hm
     refine ⟨k1,k3,fun b hb=>⟨k4 b hb,?_⟩,A,cap,ms,rfl,q3,q4,fun h0 a ha=>?_⟩
     rotate_left 1
     ·subst ha
      refine slRd_foot h1 hv (fun e=>?_) (v:=.nilFunc) rfl
      have e1:=q2.length
      have e2:=q3.1
      rw [e] at e1
      simp only [List.length_nil] at e1
      omega
     rintro ⟨id,sz,n1,n2,n3⟩
     obtain ⟨j,sz',m1,m2⟩:=hb
     obtain ⟨id',o1,o2,o3,o4⟩:=gcH_ok l [] .z _ h (fun j hj=>absurd (by rw [hp_z]) hj) j m1
     have e:gcG l G j=G id':=by
      unfold gcG
      rw [List.nil_append] at o1
      rw [o1]
     rw [e] at m2
     have hno:hp H id'≠.no:=by
      rw [jas o2]
      intro q
      rw [q] at o4
      exact m1 (rnO_no o4)
     have:=hR.2 id' id b sz' sz hno n2 m2 n3
     subst this
     exact n1 (List.mem_of_getElem? (by rw [List.nil_append] at o1;exact o1))
def NodeAt (c:Nat→Nat) (w:World) (i p:Nat) (H:HT):Prop:=∃ G sz,R G (hp H) w∧G 0=some (p,sz)∧(∀ j,4000≤j→G j=none)∧∀ b,Foot G (hp H) b→c b=i
theorem NodeAt.stc {K:Nat→Prop} {c c':Nat→Nat} {w w':World} {i p:Nat} {H:HT} (h:NodeAt c w i p H) (s:Stc K c c' w w') (hi:¬K i) (h8:i≠8):NodeAt c' w' i p H:=by
 obtain ⟨G,sz,h1,h2,h3,h4⟩:=h
 have hlt:∀ b,Foot G (hp H) b→b<w.heap.size:=fun b ⟨id,z,q1,q2⟩=>h1.lt q1 q2
 refine ⟨G,sz,h1.fr (only_fr s.only) (fun b hb=>?_),h2,h3,fun b hb=>?_⟩
 ·rw [h4 b hb];rintro (q | q)
  ·exact hi q
  ·exact h8 q
 ·rw [s.agr b (hlt b hb) (by rw [h4 b hb];exact hi)]
  exact h4 b hb
def OutsAt (c:Nat→Nat) (w:World) (i:Nat) (v:Value) (os:List Tm):Prop:=∃ A cap ms,v=.slice A os.length cap∧Reads w w.heap.size 20 A os.length (ms.flatMap msC)∧All2 (MsD w (fun b=>c b=8)) os ms∧(0<os.length→∀ a,A=some a→c a.block=8∨c a.block=i)
def wH (p:Option (Int×Int)) (H:HT):HT:=Option.rec H (fun q=>hset H 4000 (bRow q.1 q.2)) p
def RcvPost (c:Nat→Nat) (w:World) (i p:Nat) (K:HT) (os:List Tm) (e:Ending) (w':World):Prop:=∃ v c',e=.returned v∧Stc (fun j=>j=i) c c' w w'∧NodeAt c' w' i p K∧OutsAt c' w' i v os
theorem node_bat {c:Nat→Nat} {w:World} {i p:Nat} {H:HT} (hN:NodeAt c w i p H) (hi:i≠8) {q:Option (Int×Int)} {A:Option Addr} {n k:Nat} (hb:BatOk w (fun b=>c b=8) q A n k) :
 ∃ G sz,R G (hp (wH q H)) w∧G 0=some (p,sz)∧(∀ j,4000<j→G j=none)∧(∀ b,Foot G (hp (wH q H)) b→c b=i∨(c b=8∧∃ q',q=some q'∧∃ z,G 4000=some (b,z)))∧Sc.ok G (bSc q 4000) (.slice A n k)∧∀ q',q=some q'→∃ b,G 4000=some (b,k*3)∧A=some ⟨b,0,none⟩∧n=1∧1≤k:=by
 obtain ⟨G,sz,h1,h2,h3,h4⟩:=hN
 cases q with
 | none =>
   obtain ⟨rfl,rfl,rfl⟩:=hb
   exact ⟨G,sz,h1,h2,fun j hj=>h3 j (by omega),fun b hb=>.inl (h4 b hb),rfl,fun q' e=>by cases e⟩
 | some q =>
   obtain ⟨rfl,k1,b,cur,e,fz,rfl,k4,k5,k6,k7,k8,k9,k10⟩:=hb
   have hno:∀ id,4000≤id→hp H id=.no:=fun id hid=>by
    by_cases e:hp H id=.no
    ·exact e
    ·obtain ⟨_,_,_,q,_⟩:=h1.1 id e
     rw [h3 id hid] at q;cases q
   have hle:Gh.le G (gset G 4000 (b,k*3)):=fun id y hy=>by
    unfold gset;split
    ·rename_i e;rw [e,h3 4000 (Nat.le_refl _)] at hy;cases hy
    ·exact hy
   have hH:hp (wH (some q) H)=upd (hp H) 4000 (bRow q.1 q.2):=jbv H (by decide) _
   have hft:∀ b',Foot (gset G 4000 (b,k*3)) (upd (hp H) 4000 (bRow q.1 q.2)) b'→(c b'=i∧Foot G (hp H) b')∨b'=b:=by
    rintro b' ⟨id,z,q1,q2⟩
    unfold gset at q2
    unfold upd at q1
    by_cases e:id=4000
    ·rw [if_pos e] at q2;cases q2;exact .inr rfl
    ·rw [if_neg e] at q1 q2
     exact .inl ⟨h4 b' ⟨id,z,q1,q2⟩,⟨id,z,q1,q2⟩⟩
   refine ⟨gset G 4000 (b,k*3),sz,?_,hle _ _ h2,fun j hj=>?_,?_,?_,?_⟩
   ·rw [hH]
    refine ⟨fun id hid=>?_,fun a a' b' s s' ha ha' ga ga'=>?_⟩
    ·by_cases e:id=4000
     ·subst e
      refine ⟨b,k*3,_,by simp [gset],k4,?_⟩
      unfold upd;rw [if_pos rfl]
      refine ⟨cur,e,fz,rfl,k6,by omega,(fun q=>by cases q),(by decide),fun i hi=>k5 i (by omega),fun j hj=>?_⟩
      match j,hj with
      | 0,_=>rw [Array.getD_eq_getD_getElem?,k7];exact ⟨_,rfl,rfl,rfl⟩
      | 1,_=>rw [Array.getD_eq_getD_getElem?,k8];rfl
      | 2,_=>rw [Array.getD_eq_getD_getElem?,k9];rfl
     ·unfold upd at hid ⊢;rw [if_neg e] at hid ⊢
      obtain ⟨b2,s2,o2,p1,p2,p3⟩:=h1.1 id hid
      exact ⟨b2,s2,o2,hle _ _ p1,p2,p3.le hle⟩
    ·unfold upd gset at *
     by_cases e:a=4000
     ·by_cases e':a'=4000
      ·rw [e,e']
      ·rw [if_pos e] at ga;cases ga
       rw [if_neg e'] at ha' ga'
       have:=h4 _ ⟨a',s',ha',ga'⟩
       rw [k10] at this;exact absurd this.symm hi
     ·by_cases e':a'=4000
      ·rw [if_pos e'] at ga';cases ga'
       rw [if_neg e] at ha ga
       have:=h4 _ ⟨a,s,ha,ga⟩
       rw [k10] at this;exact absurd this.symm hi
      ·rw [if_neg e] at ha ga;rw [if_neg e'] at ha' ga'
       exact h1.2 a a' b' s s' ha ha' ga ga'
   ·unfold gset;rw [if_neg (by omega)];exact h3 j (by omega)
   ·rw [hH];intro b' hb'
    rcases hft b' hb' with q | q
    ·exact .inl q.1
    ·subst q;exact .inr ⟨k10,q,rfl,k*3,by simp [gset]⟩
   ·exact ⟨b,k*3,k,by simp [gset],rfl,Nat.le_refl _,k1,by omega⟩
   ·intro q' _
    exact ⟨b,by simp [gset],rfl,rfl,k1⟩
theorem bat_same {w:World} {b:Nat} {p q:Int×Int} {A A':Option Addr} {n n' k k':Nat} (h:BatOk w (fun j=>j=b) (some p) A n k) (h':BatOk w (fun j=>j=b) (some q) A' n' k'):p=q∧A=A'∧n=n'∧k=k':=by
 obtain ⟨h1,h2,b1,cur,e,fz,h3,h4,h5,h6,h7,h8,h9,rfl⟩:=h
 obtain ⟨k1,k2,b2,cur',e',fz',k3,k4,k5,k6,k7,k8,k9,rfl⟩:=h'
 rw [h4] at k4
 cases k4
 rw [h8] at k8
 rw [h9] at k9
 have e1:p.1=q.1:=(Value.int.inj (Option.some.inj k8)).2
 have e2:p.2=q.2:=(Value.int.inj (Option.some.inj k9)).2
 exact ⟨Prod.ext e1 e2,h3.trans k3.symm,h1.trans k1.symm,by omega⟩
open Classical in
theorem step_ok {c:Nat→Nat} {w:World} {i p fid:Nat} {H K:HT} {q:Option (Int×Int)} {A:Option Addr} {n k:Nat} {l:List Nat} {os:List Tm} {margs:List V} {cm:List Value} (h:rcvK l os q (jim fid (.c (.p 0 0)::margs) (wH q H) 4001)=some K) (hl0:l.head? =some 0) (hll:Nat.ble l.length 4000=true)
 (hN:NodeAt c w i p H) (hi:i≠8) (hbq:BatOk w (fun b=>c b=8) q A n k) (hm:∀ G,Sc.ok G (bSc q 4000) (.slice A n k)→All2 (V.ok G) margs cm) :
 Calls Tryz.prog fid (.pointer (some ⟨p,0,none⟩)::cm).toArray w (RcvPost c w i p K os):=by
 obtain ⟨x,H',n',hr,hrow,key⟩:=rcvK_ok h
 obtain ⟨_,hn,kc⟩:=jil _ _ _ _ _ _ _ hr
 obtain ⟨G,sz,g1,g2,g3,g4,g5,g6⟩:=node_bat hN hi hbq
 refine (kc G w _ g1 (.cons ⟨p,sz,g2,rfl⟩ (hm G g5)) (fun id q1 _=>g3 id (by omega))).mono ?_
 rintro e w' ⟨cv,G',rfl,st,hv⟩
 obtain ⟨k1,k2,k3,A',cap,ms,rfl,k4,k5,k6⟩:=key G' w' cv st.r hv
 have hout:∀ b,Foot G' (hp H') b→(c b=i∨c b=8)∨w.heap.size≤b:=fun b hb=>by
  rcases st.ft b hb with q | q
  ·rcases g4 b q with z | z
   ·exact .inl (.inl z)
   ·exact .inl (.inr z.1)
  ·exact .inr q
 have hbat:∀ b,c b=8→Foot G (hp (wH q H)) b→OutB G' H' l b∧∃ q',q=some q'∧A=some ⟨b,0,none⟩∧BatOk w' (fun j=>j=b) (some q') A n k:=fun b hb hf=>by
  rcases g4 b hf with z | ⟨_,q',rfl,z,hz⟩
  ·rw [z] at hb;exact absurd hb hi
  ·obtain ⟨r1,r2⟩:=hrow q' rfl
   obtain ⟨b',y1,y2,y3,y4⟩:=g6 q' rfl
   rw [hz] at y1;cases y1
   obtain ⟨o1,o2⟩:=row3_ok (c:=k) st.r (by decide) (st.ext.1 _ _ hz) r2 y4 rfl
   rw [y2,y3]
   exact ⟨⟨4000,_,r1,o1,st.ext.1 _ _ hz⟩,q',rfl,rfl,o2⟩
 have hO:∀ b,OutB G' H' l b→(if Foot (gcG l G') (hp K) b then i else if c b=i∨w.heap.size≤b then 8 else c b)=8:=fun b hb=>by
  rw [if_neg (fun q=>(k3 b q).2 hb)]
  obtain ⟨id,z,_,z2,z3⟩:=hb
  rcases hout b ⟨id,z,z2,z3⟩ with (q | q) | q
  ·rw [if_pos (.inl q)]
  ·split
   ·rfl
   ·exact q
  ·rw [if_pos (.inr q)]
 refine ⟨_,fun b=>if Foot (gcG l G') (hp K) b then i else if c b=i∨w.heap.size≤b then 8 else c b,rfl,⟨fun e=>hi e.symm,(fr_only st.fr).mono fun j hj q=>?_,fun b hb hn=>?_,fun b hb p' A2 n2 k2' h2=>?_⟩,⟨gcG l G',sz,k1,?_,fun j hj=>k2 j (Nat.le_trans (jad hll) hj),fun b hb=>if_pos hb⟩,A',cap,ms,rfl,k4,k5.mono fun t m=>?_,fun h0 a ha=>?_⟩
 ·rcases g4 j q with z | z
  ·exact .inl z
  ·exact .inr z.1
 ·have hnf:¬Foot (gcG l G') (hp K) b:=fun q=>by
   obtain ⟨q1,q2⟩:=k3 b q
   rcases st.ft b q1 with z | z
   ·rcases g4 b z with y | y
    ·exact hn y
    ·exact q2 (hbat b y.1 z).1
   ·omega
  show (if Foot (gcG l G') (hp K) b then i else if c b=i∨w.heap.size≤b then 8 else c b)=c b
  rw [if_neg hnf,if_neg (by rintro (z | z);exact hn z;omega)]
 ·by_cases hf:Foot G (hp (wH q H)) b
  ·obtain ⟨_,q',rfl,hA,h3⟩:=hbat b hb hf
   cases p' with
   | none=>exact h2
   | some p' =>
     have hq:BatOk w (fun j=>j=b) (some q') A n k:=by
      obtain ⟨r1,r2,b1,cur,el,fz,r3,r4,r5,r6,r7,r8,r9,_⟩:=hbq
      rw [r3] at hA
      cases hA
      exact ⟨r1,r2,_,cur,el,fz,r3,r4,r5,r6,r7,r8,r9,rfl⟩
     obtain ⟨rfl,rfl,rfl,rfl⟩:=bat_same h2 hq
     exact h3
  ·exact h2.only (fr_only st.fr) fun j _ e q=>by rw [e] at q;exact hf q
 ·have e0:l[0]? =some 0:=by rw [←List.head?_eq_getElem?];exact hl0
  show gcG l G' 0=_
  unfold gcG
  rw [e0]
  exact st.ext.1 _ _ g2
 ·rintro ⟨A2,n2,c2,rfl,hm⟩
  exact ⟨A2,n2,c2,rfl,hm.mono fun b _=>hO b⟩
 ·have hf:=k6 h0 a ha
  show (if Foot (gcG l G') (hp K) a.block then i else if c a.block=i∨w.heap.size≤a.block then 8 else c a.block)=8∨(if Foot (gcG l G') (hp K) a.block then i else if c a.block=i∨w.heap.size≤a.block then 8 else c a.block)=i
  by_cases hq:Foot (gcG l G') (hp K) a.block
  ·rw [if_pos hq];exact .inr rfl
  rw [if_neg hq]
  left
  rcases hout _ hf with (q | q) | q
  ·rw [if_pos (.inl q)]
  ·split
   ·rfl
   ·exact q
  ·rw [if_pos (.inr q)]
end
end Db
end
section
open Go.RowKit
namespace Db
open Ev
structure Ch (i:Nat) (c c':Nat→Nat) (w w':World):Prop where
 only:Only (fun b=>c b=i) w w'
 agr:∀ b,b<w.heap.size→c' b=c b
section
variable {i:Nat} {c c' c1 c2:Nat→Nat} {w w' w1 w2:World} {D D':Nat→Prop}
theorem Ch.trans (h:Ch i c c1 w w1) (k:Ch i c1 c2 w1 w2):Ch i c c2 w w2 :=
 ⟨h.only.trans k.only fun j hj q=>by rw [←h.agr j hj];exact q,fun b hb=>(k.agr b (Nat.lt_of_lt_of_le hb h.only.size)).trans (h.agr b hb)⟩
theorem Ch.below (h:Below w.heap.size w w'):Ch i c c w w':=⟨Only.new _ h,fun _ _=>rfl⟩
theorem Ch.refl:Ch i c c w w:=⟨Only.refl _ _,fun _ _=>rfl⟩
theorem Ch.stc (h:Ch i c c' w w') (hi:i≠8):Stc (fun j=>j=i) c c' w w':=Stc.of_only (fun e=>hi e.symm) h.only fun b hb _=>h.agr b hb
theorem Ch.size (h:Ch i c c' w w'):w.heap.size≤w'.heap.size:=h.only.size
theorem MsD.mono {t:Tm} {m:Ms} (h:MsD w D t m) (hs:∀ b,b<w.heap.size→D b→D' b):MsD w D' t m:=by
 obtain ⟨A,n,k,e,hb⟩:=h
 exact ⟨A,n,k,e,hb.mono hs⟩
theorem MsD.stc {K:Nat→Prop} {t:Tm} {m:Ms} (h:MsD w (fun b=>c b=8) t m) (s:Stc K c c' w w'):MsD w' (fun b=>c' b=8) t m:=by
 obtain ⟨A,n,k,e,hb⟩:=h
 exact ⟨A,n,k,e,s.batOk hb⟩
theorem MsD.ch {t:Tm} {m:Ms} (h:MsD w (fun b=>c b=8) t m) (s:Ch i c c' w w') (hi:i≠8):MsD w' (fun b=>c' b=8) t m:=h.stc (s.stc hi)
theorem ms_all_stc {K:Nat→Prop} {ts:List Tm} {ms:List Ms} (h:All2 (MsD w (fun b=>c b=8)) ts ms) (s:Stc K c c' w w'):All2 (MsD w' (fun b=>c' b=8)) ts ms:=h.mono fun _ _ q=>q.stc s
def BagAt (c:Nat→Nat) (w:World) (g:Nat) (ts:List Tm):Prop:=∃ v ms,Bag w g ms v∧(∀ k,bagF g v k→c k=4)∧All2 (MsD w (fun b=>c b=8)) ts ms
theorem BagAt.stc {K:Nat→Prop} {g:Nat} {ts:List Tm} (h:BagAt c w g ts) (s:Stc K c c' w w') (h4:¬K 4):BagAt c' w' g ts:=by
 obtain ⟨v,ms,h1,h2,h3⟩:=h
 refine ⟨v,ms,h1.only s.only fun k hk=>?_,fun k hk=>?_,ms_all_stc h3 s⟩
 ·rw [h2 k hk];rintro (q | q)
  ·exact h4 q
  ·cases q
 ·rw [s.agr k (h1.lt hk) (by rw [h2 k hk];exact h4)];exact h2 k hk
theorem BagAt.below {g:Nat} {ts:List Tm} (h:BagAt c w g ts) (hb:Below w.heap.size w w'):BagAt c w' g ts:=h.stc (Stc.of_only (K:=fun _=>False) id (Only.new _ hb) fun _ _ _=>rfl) id
theorem jfm {α β:Type} {r:α→β→Prop}:∀ {l:List α} {m:List β} (k:Nat),All2 r l m→All2 r (l.eraseIdx k) (m.eraseIdx k)
 | _,_,_,.nil=>.nil
 | _,_,0,.cons _ h=>h
 | _,_,k+1,.cons a h=>.cons a (jfm k h)
def jbr (c:Nat→Nat) (n i:Nat) (o:Option Nat) (b:Nat):Nat:=if b<n then c b else if o=some b then i else 8
section
variable {g:Nat} {ts:List Tm}
theorem bPut_any (h:BagAt c w g ts) {t:Tm} {m:Ms} (hm:MsD w (fun b=>c b=8) t m) (hn:ts.length≤99999):Calls Tryz.prog 32 #[.pointer (some ⟨g,0,none⟩),msV m] w fun e w'=>e=.returned (.tuple #[])∧∃ c',BagAt c' w' g (ts++[t])∧Ch 4 c c' w w':=by
 obtain ⟨v,ms,h1,h2,h3⟩:=h
 obtain ⟨A,n,k,rfl,hb⟩:=hm
 have hl:=h3.length
 refine (jjx h1 (t.ms A n k) hb (by omega)).mono ?_
 rintro e w' ⟨rfl,A',n',k',v',q1,q2,q3,q4⟩
 have hc:Ch 4 c (jbr c w.heap.size 4 v'.ownBlock) w w':=⟨q2.mono fun j _ hj=>h2 j hj,fun b hb=>if_pos hb⟩
 refine ⟨rfl,jbr c w.heap.size 4 v'.ownBlock,⟨v',_,q1,fun j hj=>?_,?_⟩,hc⟩
 ·unfold jbr
  split
  ·rename_i hlt
   rcases hj with hj | hj
   ·exact h2 j (.inl hj)
   ·rcases q3 j hj with z | z
    ·exact h2 j (.inr z)
    ·omega
  ·rename_i hge
   rcases hj with hj | hj
   ·exact absurd (h1.lt (.inl hj)) hge
   ·rw [if_pos hj]
 ·refine (h3.mono fun _ _ q=>q.ch hc (by decide)).append (.cons ⟨A',n',k',rfl,q4.mono fun b _ hb=>?_⟩ .nil)
  unfold jbr
  rw [if_neg (by omega),if_neg hb.2]
theorem bTake_any (h:BagAt c w g ts) (k:Nat) (hk:k<ts.length) (hn:ts.length≤100000):Calls Tryz.prog 48 #[.pointer (some ⟨g,0,none⟩),.int .i64 (k:Int)] w fun e w'=>∃ m c',e=.returned (.tuple #[msV m,.int .i64 0])∧MsD w' (fun b=>c' b=8) ts[k] m∧BagAt c' w' g (ts.eraseIdx k)∧Ch 4 c c' w w':=by
 obtain ⟨v,ms,h1,h2,h3⟩:=h
 have hl:=h3.length
 have hk':k<ms.length:=by omega
 refine (bagTake_any h1 k hk' (by omega)).mono ?_
 rintro e w' ⟨rfl,v',q1,q2,q3⟩
 have hc:Ch 4 c (jbr c w.heap.size 4 v'.ownBlock) w w':=⟨q2.mono fun j _ hj=>h2 j hj,fun b hb=>if_pos hb⟩
 refine ⟨ms[k],jbr c w.heap.size 4 v'.ownBlock,rfl,(h3.get k hk hk').ch hc (by decide),⟨v',_,q1,fun j hj=>?_,jfm k (h3.mono fun _ _ q=>q.ch hc (by decide))⟩,hc⟩
 unfold jbr
 split
 ·rename_i hlt
  rcases hj with hj | hj
  ·exact h2 j (.inl hj)
  ·rcases q3 j hj with z | z
   ·exact h2 j (.inr z)
   ·omega
 ·rename_i hge
  rcases hj with hj | hj
  ·exact absurd (h1.lt (.inl hj)) hge
  ·rw [if_pos hj]
theorem bCopy_any (h:BagAt c w g ts) (k:Nat) (hk:k<ts.length) (hn:ts.length≤99999):Calls Tryz.prog 27 #[.pointer (some ⟨g,0,none⟩),.int .i64 (k:Int)] w fun e w'=>(∃ x,e=.returned x)∧∃ c',BagAt c' w' g (ts++[ts[k]])∧Ch 4 c c' w w':=by
 obtain ⟨v,ms,h1,h2,h3⟩:=h
 have hl:=h3.length
 have hk':k<ms.length:=by omega
 obtain ⟨A,n,z,e,hb⟩:=h3.get k hk hk'
 refine (bagCopy_any h1 k hk' _ e hb (fun b hb hf=>by rw [h2 b hf] at hb;cases hb) (by omega)).mono ?_
 rintro e' w' ⟨hx,A',n',k',v',q1,q2,q3,q4⟩
 have hc:Ch 4 c (jbr c w.heap.size 4 v'.ownBlock) w w':=⟨q2.mono fun j _ hj=>h2 j hj,fun b hb=>if_pos hb⟩
 refine ⟨hx,jbr c w.heap.size 4 v'.ownBlock,⟨v',_,q1,fun j hj=>?_,?_⟩,hc⟩
 ·unfold jbr
  split
  ·rename_i hlt
   rcases hj with hj | hj
   ·exact h2 j (.inl hj)
   ·rcases q3 j hj with z | z
    ·exact h2 j (.inr z)
    ·omega
  ·rename_i hge
   rcases hj with hj | hj
   ·exact absurd (h1.lt (.inl hj)) hge
   ·rw [if_pos hj]
 ·refine (h3.mono fun _ _ q=>q.ch hc (by decide)).append (.cons ⟨A',n',k',rfl,q4.mono fun b _ hb=>?_⟩ .nil)
  unfold jbr
  rw [if_neg (by omega),if_neg hb.2]
theorem bAll_any (h:BagAt c w g ts) (hn:ts.length≤100000):Calls Tryz.prog 36 #[.pointer (some ⟨g,0,none⟩)] w fun e w'=>∃ A k,e=.returned (.slice A ts.length k)∧Below w.heap.size w w':=by
 obtain ⟨v,ms,h1,h2,h3⟩:=h
 have hl:=h3.length
 rw [hl]
 refine bagAll_any h1 (fun m hm=>?_) (by omega)
 obtain ⟨j,hj,rfl⟩:=List.getElem_of_mem hm
 obtain ⟨A,n,z,e,hb⟩:=h3.get j (by omega) hj
 rw [e]
 exact ⟨_,_,hb⟩
theorem bLen_any (h:BagAt c w g ts):Calls Tryz.prog 44 #[.pointer (some ⟨g,0,none⟩)] w fun e w'=>e=.returned (.int .i64 (ts.length:Int))∧w=w':=by
 obtain ⟨v,ms,h1,h2,h3⟩:=h
 rw [h3.length]
 exact bagLen_any h1
end
end
end Db
end
section
open Go.RowKit
namespace Db
open Ev
noncomputable section
section
variable {c:Nat→Nat} {w:World} {gw gb:Nat} {ts os:List Tm} {mo:List Ms} {A:Option Addr} {cap:Nat}
set_option maxRecDepth 100000 in
set_option maxHeartbeats 2000000 in
theorem put_any (c2:w.cell? ⟨gw,2,none⟩=some (.pointer (some ⟨gb,0,none⟩))) (hgl:gw<w.heap.size) (h3:c gw=3) (hB:BagAt c w gb ts) (hr:Reads w w.heap.size 20 A os.length (mo.flatMap msC)) (hm:All2 (MsD w (fun b=>c b=8)) os mo)
 (hA:0<os.length→∀ a,A=some a→c a.block≠4) (hn:ts.length+os.length≤99999) :
 Calls Tryz.prog 28 #[.pointer (some ⟨gw,0,none⟩),.slice A os.length cap] w fun e w'=>e=.returned (.tuple #[])∧∃ c',BagAt c' w' gb (ts++os)∧Ch 4 c c' w w':=by
 have Hl:=Lib.hid hm.length
 have HR:=Lib.hid hr
 have HA:=Lib.hid hA
 have HC2:=Lib.hid c2
 clear hr hA c2
 go_enter Tryz.func28,Tryz.ntmps28
 go_wp2_with fail
 go_loopw [5,8] (fun _ i wr=>∃ (k:Nat) (c1:Nat→Nat),k≤os.length∧i=.int .i64 (k:Int)∧Hid (BagAt c1 wr gb (ts++os.take k))∧Hid (Ch 4 c c1 w wr)) (fun _ i _=>os.length-(intOf i).toNat)
 case atStart=>exact ⟨0,c,Nat.zero_le _,rfl,Lib.hid (by rw [List.take_zero,List.append_nil];exact hB),Lib.hid Ch.refl⟩
 case round =>
  obtain ⟨k,c1,hk,rfl,HB,HC⟩:=hrel
  by_cases hlt:k<os.length
  ·obtain ⟨b,off,rfl,hbl,hcell⟩:=HR.out.2 (by omega)
   have hk0:(0:Int)≤(k:Int):=by omega
   have hkn:(k:Int)<(os.length:Int):=by omega
   have hkm:k<mo.length:=by have:=Hl.out;omega
   have hmm:∃ m,Hid (mo[k]=m):=⟨_,rfl⟩
   obtain ⟨m,Hm⟩:=hmm
   have hms:MsD wr (fun b=>c1 b=8) os[k] m:=by rw [←Hm.out];exact (hm.get k hlt hkm).ch HC.out (by decide)
   have HX:Hid (wr.rangeAt b (off+k*20) (msC m)):=by
    rw [←Hm.out]
    intro j v hj
    have hj20:j<20:=(List.getElem?_eq_some_iff.1 hj).1
    rw [Nat.add_assoc,HC.out.only.cell (p:=⟨b,off+(k*20+j),none⟩) hbl (show ¬c b=4 from HA.out (by omega) ⟨b,off,none⟩ rfl)]
    refine hcell _ _ ?_
    rw [jbz msC 20 (fun _=>rfl) mo k j hkm hj20]
    exact hj
   have Hms:=Lib.hid hms
   have hcw:wr.cell? ⟨gw,2,none⟩=some (.pointer (some ⟨gb,0,none⟩)):=by
    rw [HC.out.only.cell (p:=⟨gw,2,none⟩) hgl (by rw [h3];decide)];exact HC2.out
   have HCw:=Lib.hid hcw
   clear hms hcell Hm hcw
   obtain ⟨mk,mf,mt,mv,mn,ma,mc,mr,ml,mss,mu,mo',mg,mun,msr,mba,mbn,mbc⟩:=m
   go_wp2_with (first
    | (refine wpList_load_mid (op:=⟨some 11,.load 39 (.tmp 10),_,_,_,_⟩) rfl 39 (.tmp 10) rfl b (off+k*20) (by rfl) (msC ⟨mk,mf,mt,mv,mn,ma,mc,mr,ml,mss,mu,mo',mg,mun,msr,mba,mbn,mbc⟩) _ HX.out Tryz.underlying39 rfl jaj ?_)
    | (refine jap (o:=⟨none,.store 39 (.tmp 5) (.tmp 11),_,_,_,_⟩) rfl 39 (.tmp 5) (.tmp 11) rfl wr.heap.size #[.int .i64 mk,.int .i64 mf,.int .i64 mt,.int .i64 mv,.int .i64 mn,.int .i64 ma,.int .i64 mc,.int .i64 mr,.int .i64 ml,.int .i64 mss,.int .i64 mu,.int .i64 mo',.int .i64 mg,.int .i64 mun,.string msr,.slice mba mbn mbc,.int .i64 0,.string ⟨#[]⟩,.slice none 0 0,.string ⟨#[]⟩] (by rfl) (by rfl) _ _ (Blk.new wr 39 #[.int .i64 0,.int .i64 0,.int .i64 0,.int .i64 0,.int .i64 0,.int .i64 0,.int .i64 0,.int .i64 0,.int .i64 0,.int .i64 0,.int .i64 0,.int .i64 0,.int .i64 0,.int .i64 0,.string ⟨#[]⟩,.slice none 0 0,.int .i64 0,.string ⟨#[]⟩,.slice none 0 0,.string ⟨#[]⟩]) (by rfl) jaj (by simp [Value.oneCell']) ?_;intro w3 HM3 ho3 hs3;refine Hid.out ?_))
   have ha:Below wr.heap.size wr (wr.alloc (.cells #[.int .i64 0,.int .i64 0,.int .i64 0,.int .i64 0,.int .i64 0,.int .i64 0,.int .i64 0,.int .i64 0,.int .i64 0,.int .i64 0,.int .i64 0,.int .i64 0,.int .i64 0,.int .i64 0,.string ⟨#[]⟩,.slice none 0 0,.int .i64 0,.string ⟨#[]⟩,.slice none 0 0,.string ⟨#[]⟩] 39)):=(Below.refl _ _).alloc (Nat.le_refl _) _
   have h13:Below wr.heap.size wr w3.drew:=(ha.trans (ho3.below (B:=wr.heap.size) (fun k hk q=>by omega) (by simp))).drew
   have HM3:=Lib.hid HM3
   have HCw3:Hid (w3.drew.cell? ⟨gw,2,none⟩=some (.pointer (some ⟨gb,0,none⟩))):=Lib.hid ((h13.cell (p:=⟨gw,2,none⟩) (Nat.lt_of_lt_of_le hgl HC.out.size)).trans HCw.out)
   have HP:=Lib.hid (bPut_any (HB.out.below h13) (Hms.out.ch (Ch.below (i:=4) (c:=c1) h13) (by decide)) (by rw [List.length_append,List.length_take];omega))
   have HC3:Hid (Ch 4 c c1 w w3.drew):=Lib.hid (HC.out.trans (Ch.below h13))
   unfold msV at HP
   simp only at HP
   clear ho3 hs3 ha h13 HB HC HX Hms HCw
   refine Lib.hid ?_
   go_wp2_with fail
   refine jan (S:=(fun W=>W.cell? ⟨gw,2,none⟩=some (.pointer (some ⟨gb,0,none⟩))∧Blk W wr.heap.size 39 #[.int .i64 mk,.int .i64 mf,.int .i64 mt,.int .i64 mv,.int .i64 mn,.int .i64 ma,.int .i64 mc,.int .i64 mr,.int .i64 ml,.int .i64 mss,.int .i64 mu,.int .i64 mo',.int .i64 mg,.int .i64 mun,.string msr,.slice mba mbn mbc,.int .i64 0,.string ⟨#[]⟩,.slice none 0 0,.string ⟨#[]⟩])) [5] (by kernel_rfl) ?_ (fun hHeld=>?_)
   ·exact ⟨HCw3.out,HM3.out⟩
   refine tK 0 12 (v:=?_) rfl ?_ ?_;rotate_left 1;(focus intro w hSw;(try dsimp only at hSw);go_simp;try with_reducible rfl);try simp only [Act.put,zsA,zsB,zsC]
   refine tK 1 13 (v:=?_) rfl ?_ ?_;rotate_left 1;(focus intro w hSw;(try dsimp only at hSw);go_simp;try with_reducible rfl);try simp only [Act.put,zsA,zsB,zsC]
   refine tK 2 14 (v:=?_) rfl ?_ ?_;rotate_left 1;(focus intro w hSw;(try dsimp only at hSw);go_simp;try with_reducible rfl);try simp only [Act.put,zsA,zsB,zsC]
   refine tK 3 15 (v:=?_) rfl ?_ ?_;rotate_left 1;(focus intro w hSw;(try dsimp only at hSw);go_simp;try with_reducible rfl);try simp only [Act.put,zsA,zsB,zsC]
   refine jaw (i:=4) (oi:=⟨some 16,_,_,_,_,_⟩) rfl (by kernel_rfl) (fun _ _ _ h=>h) (jaz (by rfl) 39 (.tmp 5) rfl wr.heap.size 0 (by rfl) 39 #[.int .i64 mk,.int .i64 mf,.int .i64 mt,.int .i64 mv,.int .i64 mn,.int .i64 ma,.int .i64 mc,.int .i64 mr,.int .i64 ml,.int .i64 mss,.int .i64 mu,.int .i64 mo',.int .i64 mg,.int .i64 mun,.string msr,.slice mba mbn mbc,.int .i64 0,.string ⟨#[]⟩,.slice none 0 0,.string ⟨#[]⟩] [.int .i64 mk,.int .i64 mf,.int .i64 mt,.int .i64 mv,.int .i64 mn,.int .i64 ma,.int .i64 mc,.int .i64 mr,.int .i64 ml,.int .i64 mss,.int .i64 mu,.int .i64 mo',.int .i64 mg,.int .i64 mun,.string msr,.slice mba mbn mbc,.int .i64 0,.string ⟨#[]⟩,.slice none 0 0,.string ⟨#[]⟩] _ (fun _ h=>h.2) rfl Tryz.underlying39 rfl jaj) (by assumption) ?_
   try simp only [Act.put,zsA,zsB,zsC]
   refine jah (i:=5) (o:=⟨some 17,_,_,_,_,_⟩) (by kernel_rfl) rfl (fun K' hK=>?_)
   go_simp
   ((with_reducible refine HP.out.mono ?_);rintro e w5 ⟨rfl,c5,hB5,hC5⟩)
   go_wp2_with fail
   refine hK.out _ _ (fun h=>absurd h (by decide)) (fun _=>?_)
   clear hK K'
   try simp only [Act.put,zsA,zsB,zsC]
   refine jao (by kernel_rfl) ?_ _
   have HB5:=Lib.hid hB5
   have HC5:Hid (Ch 4 c c5 w w5):=Lib.hid (HC3.out.trans hC5)
   clear hB5 hC5 HC3 HP
   go_wp2_with fail
   go_roundw
   case rel =>
    have hfin:Hid (BagAt c5 w5 gb (ts++os.take (k+1))):=Lib.hid (by have:=HB5.out;rw [List.append_assoc,←List.take_succ_eq_append_getElem hlt] at this;exact this)
    exact ⟨k+1,c5,by omega,by go_num,hfin,HC5⟩
   case measure=>simp [intOf];omega
  ·have hkn:¬(k:Int)<(os.length:Int):=by omega
   have hke:Hid (k=os.length):=Lib.hid (by omega)
   go_wp2_with fail
   go_end0
   refine ⟨rfl,c1,?_,HC.out⟩
   have:=HB.out
   rw [hke.out,List.take_length] at this
   exact this
end
structure Kp where
 gw:Nat
 gn:Nat
 gb:Nat
 cn:Nat
 vd:Value
 P:Nat→Nat
def gotC (x:Int×Tm):List Value:=.int .i64 x.1::msC (x.2.ms none 0 0)
structure Wd (κ:Kp) (c:Nat→Nat) (w:World) (N:Nat→HT) (bag:List Tm) (gs:List (Int×Tm)) (vg vs:Value) (tm:Int) (ns:Nat) (xs:List Value):Prop where
 st:Bx w κ.gw #[.slice (some ⟨κ.gn,0,none⟩) 3 κ.cn,κ.vd,.pointer (some ⟨κ.gb,0,none⟩),vg,vs,.int .i64 tm]
 stc:c κ.gw=3
 row:∀ i,i<3→w.cell? ⟨κ.gn,i,none⟩=some (.pointer (some ⟨κ.P i,0,none⟩))
 rowl:κ.gn<w.heap.size
 rowc:c κ.gn=9
 bg:BagAt c w κ.gb bag
 gt:w.ownsRow 0 79 21 vg gs.length (gs.flatMap gotC)
 gtc:∀ k,vg.ownBlock=some k→c k=5
 gtn:∀ x∈gs,x.2.p=none
 sn:w.ownsRow 0 79 21 vs ns xs
 snc:∀ k,vs.ownBlock=some k→c k=6
 nd:∀ i,i<3→NodeAt c w i (κ.P i) (N i)
section
variable {κ:Kp} {c c':Nat→Nat} {w w':World} {N:Nat→HT} {bag:List Tm} {gs:List (Int×Tm)} {vg vs:Value} {tm:Int} {ns:Nat} {xs:List Value} {K:Nat→Prop}
theorem Wd.part (h:Wd κ c w N bag gs vg vs tm ns xs) (s:Stc K c c' w w') (h3:¬K 3) (h5:¬K 5) (h6:¬K 6) (h9:¬K 9) {N':Nat→HT} {bag':List Tm} (hb:BagAt c' w' κ.gb bag') (hn:∀ i,i<3→NodeAt c' w' i (κ.P i) (N' i)):Wd κ c' w' N' bag' gs vg vs tm ns xs:=by
 have k1:=s.bx h.st h.stc h3 (by decide)
 have k2:=s.own h.gt h.gtc h5 (by decide)
 have k3:=s.own h.sn h.snc h6 (by decide)
 refine ⟨k1.1,k1.2,fun i hi=>?_,Nat.lt_of_lt_of_le h.rowl s.size,(s.agr _ h.rowl (by rw [h.rowc];exact h9)).trans h.rowc,hb,k2.1,k2.2,h.gtn,k3.1,k3.2,hn⟩
 rw [s.only.cell (p:=⟨κ.gn,i,none⟩) h.rowl (by show ¬(K (c κ.gn)∨c κ.gn=8);rw [h.rowc];rintro (q | q);exact h9 q;cases q)]
 exact h.row i hi
theorem Wd.stc_ (h:Wd κ c w N bag gs vg vs tm ns xs) (s:Stc K c c' w w') (hk:∀ i,i≠7→i≠8→¬K i):Wd κ c' w' N bag gs vg vs tm ns xs :=
 h.part s (hk 3 (by decide) (by decide)) (hk 5 (by decide) (by decide)) (hk 6 (by decide) (by decide)) (hk 9 (by decide) (by decide)) (h.bg.stc s (hk 4 (by decide) (by decide))) fun i hi=>(h.nd i hi).stc s (hk i (by omega) (by omega)) (by omega)
theorem Wd.below (h:Wd κ c w N bag gs vg vs tm ns xs) (hb:Below w.heap.size w w'):Wd κ c w' N bag gs vg vs tm ns xs:=h.stc_ (Stc.of_only (K:=fun _=>False) id (Only.new _ hb) fun _ _ _=>rfl) fun _ _ _=>id
set_option maxRecDepth 100000 in
theorem up_any (h:Wd κ c w N bag gs vg vs tm ns xs) (i:Nat) (hi:i<3):Calls Tryz.prog 37 #[.pointer (some ⟨κ.gw,0,none⟩),.int .i64 (i:Int)] w fun e w'=>e=.returned (.pointer (some ⟨κ.P i,0,none⟩))∧w=w':=by
 have c0:w.cell? ⟨κ.gw,0,none⟩=some (.slice (some ⟨κ.gn,0,none⟩) 3 κ.cn):=h.st.cell 0
 have r0:=h.row i hi
 have d1:decide ((i:Int)<0)=false:=decide_eq_false (by omega)
 have d2:decide ((i:Int) ≥ 3)=false:=decide_eq_false (by omega)
 have hi0:(0:Int)≤(i:Int):=by omega
 have hi3:(i:Int)<3:=by omega
 have R0:w.cell? ⟨κ.gn,0+i*1,none⟩=some (.pointer (some ⟨κ.P i,0,none⟩)):=by rw [Nat.zero_add,Nat.mul_one];exact r0
 clear h
 go_enter Tryz.func37,Tryz.ntmps37
 go_wp2_with fail
 go_ret
 exact ⟨rfl,rfl⟩
end
end
end Db
end
end Go.Proofs.YtcchekmejnhlmaaGreat
