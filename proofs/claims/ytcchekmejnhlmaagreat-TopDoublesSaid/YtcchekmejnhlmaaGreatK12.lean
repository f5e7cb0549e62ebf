/- Joined texts. -/
import Derived.Test.YtcchekmejnhlmaaGreatK10
import Derived.Test.YtcchekmejnhlmaaGreatK11
import Derived.Test.YtcchekmejnhlmaaGreatK6
import Derived.Test.YtcchekmejnhlmaaGreatK9
import Derived.KernelRfl
namespace Go.Proofs.YtcchekmejnhlmaaGreat
set_option linter.unusedVariables false
set_option maxHeartbeats 4000000
section
open Go.RowKit Go.ChangeMaps Go.MapKept
namespace Ev
noncomputable section
def S2:SumT:=addS 269 sTail <| addS 214 sClone <| addS 132 (sbLen bT bU) <| addS 213 sFree S1
theorem S2_ok:jis Tryz.prog S2 :=
 jbe ⟨_,Tryz.func269,by kernel_rfl,by kernel_rfl⟩ sTail_ok <|
 jbe ⟨_,Tryz.func214,by kernel_rfl,by kernel_rfl⟩ sClone_ok <|
 jbe ⟨_,Tryz.func132,by kernel_rfl,by kernel_rfl⟩ sbLen_ok <|
 jbe ⟨_,Tryz.func213,by kernel_rfl,by kernel_rfl⟩ sFree_ok S1_ok
def callB2:CallT:=jik kt S2 100
theorem jfk:jbh Tryz.prog callB2:=jcz S2_ok 100
def isSl (x:Sc):Bool:=match x with
 | .sn=>true
 | .sk _ _ _ _ _=>true
 | .su _ _ _ _ _=>true
 | .se=>true
 | _=>false
theorem isSl_ok {G:Gh} {x:Sc} {v:Value} (h:isSl x=true) (hv:Sc.ok G x v):∃ A l cap,v=.slice A l cap:=by
 cases x with
 | sn=>exact ⟨none,0,0,hv⟩
 | sk id off len cap es=>obtain ⟨b,sz,_,rfl,_⟩:=hv;exact ⟨_,_,_,rfl⟩
 | su id off len lb es=>obtain ⟨b,sz,c,_,rfl,_⟩:=hv;exact ⟨_,_,_,rfl⟩
 | se=>obtain ⟨a,c,rfl⟩:=hv;exact ⟨_,_,_,rfl⟩
 | _=>cases h
def szL (rng:Nat):List (Sc×E)→Option Nat
 | []=>some 0
 | (.i .i64 (.ofNat k),.a [.i .i64 (.ofNat s),.i .u64 _,b])::r=>cnd (isSl b) (match szL rng r with | some m=>some (cnd (Nat.beq k rng) m (Nat.add (Nat.add s 64) m)) | none=>none) none
 | _::_=>none
theorem szL_ok {G:Gh} {rng:Nat}:∀ {es:List (Sc×E)} {ents:List MapEntry} {m:Nat},All2 (KvOk G) es ents→szL rng es=some m→∀ (kf sz:MapEntry→Nat),(∀ e∈ents,kf e=(match e.key with | .int _ k=>k.toNat | _=>0))→(∀ e∈ents,sz e=(match e.val with | .agg a=>(match a.getD 0 undef with | .int _ k=>k.toNat | _=>0) | _=>0)) →
 (∀ e∈ents,e.key=.int .i64 (kf e:Int)∧FileN e.val (sz e))∧(ents.map fun e=>if kf e=rng then 0 else sz e+64).sum=m
 | _,_,m,.nil,h,kf,sz,_,_=>by
   have h:some 0=some m:=h
   cases h
   exact ⟨fun e he=>(by cases he),rfl⟩
 | _::_,_::_,m,.cons (a:=p) (b:=e0) hp hr,h,kf,sz,hk,hs=>by
   unfold szL at h
   split at h
   ·cases ‹_::_=[]›
   ·rename_i x1 k s q b r heq
    cases heq
    obtain ⟨h1,h⟩:=jab h
    split at h
    ·rename_i m' hm
     cases h
     obtain ⟨i1,i2⟩:=szL_ok hr hm kf sz (fun e he=>hk e (List.mem_cons_of_mem _ he)) (fun e he=>hs e (List.mem_cons_of_mem _ he))
     have hkey:e0.key=.int .i64 (k:Int):=hp.1
     obtain ⟨arr,hv,ha⟩:∃ arr:Array Value,e0.val=.agg arr∧All2 (Sc.ok G) [.i .i64 (.ofNat s),.i .u64 q,b] arr.toList:=hp.2
     obtain ⟨arr⟩:=arr
     cases ha with
     | cons a1 ha =>
     cases ha with
     | cons a2 ha =>
     cases ha with
     | cons a3 ha =>
     cases ha
     have a1:_=Value.int .i64 (s:Int):=a1
     have a2:_=Value.int .u64 q:=a2
     subst a1
     subst a2
     obtain ⟨A,l,cap,rfl⟩:=isSl_ok h1 a3
     have hk0:kf e0=k:=by rw [hk e0 (List.mem_cons_self ..),hkey];rfl
     have hs0:sz e0=s:=by rw [hs e0 (List.mem_cons_self ..),hv];rfl
     refine ⟨fun e he=>?_,?_⟩
     ·rcases List.mem_cons.1 he with rfl | he
      ·rw [hk0,hs0];exact ⟨hkey,q,A,l,cap,hv⟩
      ·exact i1 e he
     ·rw [List.map_cons,List.sum_cons,i2,hk0,hs0]
      cases hb:Nat.beq k rng with
      | true=>rw [if_pos (jae hb)];simp
      | false=>rw [if_neg (Nat.ne_of_beq_eq_false hb)];rfl
    ·cases h
   ·cases h
def vpE (t:T8 V) (es:List (Sc×E)):T8 V:=match es with
 | []=>t
 | _=>tset 2 (tset 2 (tset 2 t 9 (.c .u)) 11 (.c .u)) 12 (.c .u)
def vpT (t:T8 V) (es:List (Sc×E)) (tot:Nat):T8 V:=tset 2 (tset 2 (tset 2 (vpE t es) 10 (.c (.i .i64 (.ofNat tot)))) 13 (.c (.b false))) 14 (.c .u)
def vpM (t:T8 V) (es:List (Sc×E)) (rng tot:Nat):Option (T8 V):=match szL rng es with
 | some s=>cnd (Nat.ble s 1000000000) (some (vpT t es (Nat.add tot s))) none
 | none=>none
def vpA (t:T8 V) (H:HT) (fl r:Sc) (tot:Nat):Option (T8 V):=match fl,r with
 | .m mid,.i .i64 (.ofNat rng)=>cnd (Nat.blt mid HB) (match hget H mid with | .mp es=>vpM t es rng tot | _=>none) none
 | _,_=>none
def vpO (t:T8 V) (H:HT) (vid bid tot:Nat):Option (T8 V):=match hget H vid,hget H bid with
 | .row k x dep d tt,.row k2 x2 dep2 d2 tt2=>cnd (and (Nat.ble 6 k) (Nat.ble 1 k2)) (vpA t H (tget dep d tt 5) (tget dep2 d2 tt2 0) tot) none
 | _,_=>none
def vpH (t:T8 V) (H:HT):Option (T8 V):=match tget 2 (.t []) t 18,tget 2 (.t []) t 16,tget 2 (.t []) t 10 with
 | .c (.p vid voff),.c (.p bid boff),.c (.i .i64 (.ofNat tot))=>cnd (and (and (Nat.beq voff 0) (Nat.beq boff 0)) (and (and (Nat.blt vid HB) (Nat.blt bid HB)) (Nat.ble tot 1000000000))) (vpO t H vid bid tot) none
 | _,_,_=>none
theorem vpH_ok {t t':T8 V} {H:HT} (h:vpH t H=some t'):∃ vid bid tot mid rng s k x dep d tt k2 x2 dep2 d2 tt2 es,
 tget 2 (V.t []) t 18=.c (.p vid 0)∧tget 2 (V.t []) t 16=.c (.p bid 0)∧tget 2 (V.t []) t 10=.c (.i .i64 (.ofNat tot))∧tot≤1000000000∧hp H vid=.row k x dep d tt∧6≤k∧hp H bid=.row k2 x2 dep2 d2 tt2∧1≤k2 ∧
 tget dep d tt 5=.m mid∧tget dep2 d2 tt2 0=.i .i64 (.ofNat rng)∧hp H mid=.mp es∧szL rng es=some s∧s≤1000000000∧t'=vpT t es (tot+s):=by
 unfold vpH at h
 split at h
 ·rename_i vid voff bid boff tot e1 e2 e3
  have qq:=jab h
  clear h
  obtain ⟨hb,h⟩:=qq
  rw [Bool.and_eq_true,Bool.and_eq_true,Bool.and_eq_true,Bool.and_eq_true] at hb
  have v0:=jae hb.1.1
  have b0:=jae hb.1.2
  have hvid:=jaa hb.2.1.1
  have hbid:=jaa hb.2.1.2
  have htot:=jad hb.2.2
  subst v0
  subst b0
  unfold vpO at h
  split at h
  ·rename_i k x dep d tt k2 x2 dep2 d2 tt2 o1 o2
   have qq:=jab h
   clear h
   obtain ⟨hb2,h⟩:=qq
   rw [Bool.and_eq_true] at hb2
   have hk:=jad hb2.1
   have hk2:=jad hb2.2
   unfold vpA at h
   split at h
   ·rename_i mid rng f1 f2
    have qq:=jab h
    clear h
    obtain ⟨hb3,h⟩:=qq
    have hmid:=jaa hb3
    split at h
    ·rename_i es hes
     unfold vpM at h
     split at h
     ·rename_i s hs
      have qq:=jab h
      clear h
      obtain ⟨hb4,h⟩:=qq
      have hs4:=jad hb4
      cases h
      exact ⟨vid,bid,tot,mid,rng,s,k,x,dep,d,tt,k2,x2,dep2,d2,tt2,es,e1,e2,e3,htot,(jas hvid).trans o1,hk,(jas hbid).trans o2,hk2,f1,f2,(jas hmid).trans hes,hs,hs4,rfl⟩
     ·cases h
    ·cases h
   ·cases h
  ·cases h
 ·cases h
theorem vpE_old {t:T8 V} (es:List (Sc×E)) {j:Nat} (hj:j<64) (h:j≠9∧j≠11∧j≠12):tget 2 (V.t []) (vpE t es) j=tget 2 (V.t []) t j:=by
 cases es with
 | nil=>rfl
 | cons x l =>
   show tget 2 (V.t []) (tset 2 (tset 2 (tset 2 t 9 (.c .u)) 11 (.c .u)) 12 (.c .u)) j=_
   rw [jay (by decide) (by simpa using hj),if_neg h.2.2,jay (by decide) (by simpa using hj),if_neg h.2.1,jay (by decide) (by simpa using hj),if_neg h.1]
theorem vpE_new {t:T8 V} {es:List (Sc×E)} (he:es≠[]) {j:Nat} (h:j=9∨j=11∨j=12):tget 2 (V.t []) (vpE t es) j=.c .u:=by
 cases es with
 | nil=>exact absurd rfl he
 | cons x l =>
   show tget 2 (V.t []) (tset 2 (tset 2 (tset 2 t 9 (.c .u)) 11 (.c .u)) 12 (.c .u)) j=_
   have hj:j<8^2:=by rcases h with rfl | rfl | rfl<;>decide
   rw [jay (by decide) hj]
   split
   ·rfl
   ·rw [jay (by decide) hj]
    split
    ·rfl
    ·rw [jay (by decide) hj,if_pos (by omega)]
theorem vpT_e {t:T8 V} (es:List (Sc×E)) (m:Nat) {j:Nat} (hj:j<64) (h:j≠10∧j≠13∧j≠14):tget 2 (V.t []) (vpT t es m) j=tget 2 (V.t []) (vpE t es) j:=by
 unfold vpT
 rw [jay (by decide) (by simpa using hj),if_neg h.2.2,jay (by decide) (by simpa using hj),if_neg h.2.1,jay (by decide) (by simpa using hj),if_neg h.1]
theorem jbn {t:T8 V} (es:List (Sc×E)) (m j:Nat) (hj:j<64) (h:(j≠9∧j≠11∧j≠12)∧(j≠10∧j≠13∧j≠14)):tget 2 (V.t []) (vpT t es m) j=tget 2 (V.t []) t j:=(vpT_e es m hj h.2).trans (vpE_old es hj h.1)
theorem vpT_10 {t:T8 V} (es:List (Sc×E)) (m:Nat):tget 2 (V.t []) (vpT t es m) 10=.c (.i .i64 (.ofNat m)):=by
 unfold vpT
 rw [jay (by decide) (by decide),if_neg (by decide),jay (by decide) (by decide),if_neg (by decide),jay (by decide) (by decide),if_pos rfl]
theorem vpT_13 {t:T8 V} (es:List (Sc×E)) (m:Nat):tget 2 (V.t []) (vpT t es m) 13=.c (.b false):=by
 unfold vpT
 rw [jay (by decide) (by decide),if_neg (by decide),jay (by decide) (by decide),if_pos rfl]
theorem vpT_14 {t:T8 V} (es:List (Sc×E)) (m:Nat):tget 2 (V.t []) (vpT t es m) 14=.c .u:=by
 unfold vpT
 rw [jay (by decide) (by decide),if_pos rfl]
def W155:List Nat:=[11,9,10,73,76,74,75,8,58,7,5,47,6,40,38,15,3,12,0,1,4]
set_option maxRecDepth 100000 in
theorem put_runs {t t':T8 V} {H:HT} {n:Nat} (h:vpH t H=some t'):Runs Tryz.prog 111 W155 putLoop t H n .nx t' H n:=by
 obtain ⟨vid,bid,tot,mid,rng,s,k,x,dep,d,tt,k2,x2,dep2,d2,tt2,es,r18,r16,r10,htot,ov,hk,ob,hk2,f5,f0,om,hs,hs1,rfl⟩:=vpH_ok h
 refine ⟨Nat.le_refl _,fun G a w hR hr hn hf Q hQ=>?_⟩
 obtain ⟨tm,ds⟩:=a
 have hn:tm.size=111:=hn
 have reg:∀ j (hj:j<21),V.ok G (tget 2 (V.t []) t j) (tm.getD (W155[j]'hj) undef):=fun j hj=>hr.w j hj (by
  show W155[j]'hj<tm.size
  rw [hn]
  have:∀ x∈W155,x<111:=by decide
  exact this _ (List.getElem_mem hj))
 obtain ⟨bv,sv,gv,e0⟩:∃ b sz,G vid=some (b,sz)∧tm.getD 0 undef=.pointer (some ⟨b,0,none⟩):=by
  have:=reg 18 (by decide)
  rw [r18] at this
  exact this
 obtain ⟨bx,sx,gx,e3⟩:∃ b sz,G bid=some (b,sz)∧tm.getD 3 undef=.pointer (some ⟨b,0,none⟩):=by
  have:=reg 16 (by decide)
  rw [r16] at this
  exact this
 have e5:tm.getD 5 undef=.int .i64 (tot:Int):=by
  have:=reg 10 (by decide)
  rw [r10] at this
  exact this
 obtain ⟨b1,z1,o1,g1,k1,q1⟩:=hR.1 vid (by rw [ov];exact fun q=>by cases q)
 rw [gv] at g1;cases g1
 rw [ov] at q1
 obtain ⟨va,vel,vfz,rfl,s1,s2,_,_,_,s6⟩:=q1
 obtain ⟨b2,z2,o2,g2,k3,q2⟩:=hR.1 bid (by rw [ob];exact fun q=>by cases q)
 rw [gx] at g2;cases g2
 rw [ob] at q2
 obtain ⟨xa,xel,xfz,rfl,p1,p2,_,_,_,p6⟩:=q2
 obtain ⟨bm,szm,o3,gm,km,q3⟩:=hR.1 mid (by rw [om];exact fun q=>by cases q)
 rw [om] at q3
 obtain ⟨ents,clock,rfl,hst,hall⟩:=q3
 have v5:va.getD 5 undef=.map (some bm):=by
  have:=s6 5 (by omega)
  rw [f5] at this
  obtain ⟨b2,sz2,q1,q2⟩:=this
  rw [gm] at q1;cases q1
  exact q2
 have v0:xa.getD 0 undef=.int .i64 (rng:Int):=by
  have:=p6 0 (by omega)
  rw [f0] at this
  exact this
 obtain ⟨kf,hkf⟩:∃ kf:MapEntry→Nat,kf=fun e=>(match e.key with | .int _ k=>k.toNat | _=>0):=⟨_,rfl⟩
 obtain ⟨sz,hsz⟩:∃ sz:MapEntry→Nat,sz=fun e=>(match e.val with | .agg a=>(match a.getD 0 undef with | .int _ k=>k.toNat | _=>0) | _=>0):=⟨_,rfl⟩
 obtain ⟨i1,i2⟩:=szL_ok hall hs kf sz (fun e _=>by rw [hkf]) (fun e _=>by rw [hsz])
 obtain ⟨fS,hfS⟩:∃ fS:MapEntry→Nat,fS=fun e=>if kf e=rng then 0 else sz e+64:=⟨_,rfl⟩
 have hsum:(ents.toList.map fS).sum=s:=by rw [hfS];exact i2
 have hes0:es=[]↔ents.toList=[]:=by
  have hl:=hall.length
  constructor
  ·intro q;rw [q] at hl;exact List.eq_nil_of_length_eq_zero hl.symm
  ·intro q;rw [q] at hl;exact List.eq_nil_of_length_eq_zero hl
 rw [put_act tm hn,e0,e3,e5]
 refine put_loop Q ds _ _ _ _ _ _ _ _ _ _ _ _ _ _ _ _ _ _ _ _ _ _ _ _ _ _ _ _ _ _ _ _ _ _ _ _ _ _ _ _ _ _ _ _ _ _ _ _ _ _ _ _ _ _ _ _ _ _ _ _ _ _ _ _ _ _ _ _ _ _ _ _ _ _ _ _ _ _ _ _ _ _ _ _ _ _ _ _ _ _ _ _ _ _ _ _ _ _ _ _ _ _ _ _ _ _ _ _ bv bm bx clock rng tot xa va xel vel xfz vfz ents kf sz fS w k3 (by omega) v0 k1 (by omega) v5 km hst i1 (fun e _=>by rw [hfS]) htot (by rw [hsum];exact hs1) ?_
 intro y6 y7 y34 y35 y36 y37 y38 y39 y41 y42 y43 y44 y45 y46 y47 y48 y49 y50 y51 y52 w' hd h38 hb
 have key:∀ (j:Nat) (y:Value),(j=9∨j=11∨j=12)→(ents.toList=[]→V.ok G (tget 2 (V.t []) t j) y)→(ents.toList≠[]→y.oneCell'=true)→V.ok G (tget 2 (V.t []) (vpT t es (tot+s)) j) y:=fun j y hj h1 h2=>by
  rw [vpT_e es _ (by omega) (by omega)]
  by_cases q:es=[]
  ·rw [q];exact h1 (hes0.1 q)
  ·rw [vpE_new q hj];exact h2 (fun p=>q (hes0.2 p))
 have h9:V.ok G (tget 2 (V.t []) (vpT t es (tot+s)) 9) y7:=key 9 y7 (by decide) (fun q=>by
  rcases hd with ⟨_,h1,h2,h3⟩ | ⟨h0,_⟩
  ·rw [h2];exact reg 9 (by decide)
  ·exact absurd q h0) (fun q=>by
  rcases hd with ⟨h0,_⟩ | ⟨_,h1,h2,h3⟩
  ·exact absurd h0 q
  ·exact h2)
 have h11:V.ok G (tget 2 (V.t []) (vpT t es (tot+s)) 11) y47:=key 11 y47 (by decide) (fun q=>by
  rcases hd with ⟨_,h1,h2,h3⟩ | ⟨h0,_⟩
  ·rw [h3];exact reg 11 (by decide)
  ·exact absurd q h0) (fun q=>by
  rcases hd with ⟨h0,_⟩ | ⟨_,h1,h2,h3⟩
  ·exact absurd h0 q
  ·exact h3)
 have h12:V.ok G (tget 2 (V.t []) (vpT t es (tot+s)) 12) y6:=key 12 y6 (by decide) (fun q=>by
  rcases hd with ⟨_,h1,h2,h3⟩ | ⟨h0,_⟩
  ·rw [h1];exact reg 12 (by decide)
  ·exact absurd q h0) (fun q=>by
  rcases hd with ⟨h0,_⟩ | ⟨_,h1,h2,h3⟩
  ·exact absurd h0 q
  ·exact h1)
 refine hQ G _ w' (jbj hR hb) ⟨fun j h1 h2=>?_,fun t o q=>by cases q⟩ rfl rfl
 have h1:j<21:=h1
 have:j=0∨j=1∨j=2∨j=3∨j=4∨j=5∨j=6∨j=7∨j=8∨j=9∨j=10∨j=11∨j=12∨j=13∨j=14∨j=15∨j=16∨j=17∨j=18∨j=19∨j=20:=by omega
 rcases this with rfl | rfl | rfl | rfl | rfl | rfl | rfl | rfl | rfl | rfl | rfl | rfl | rfl | rfl | rfl | rfl | rfl | rfl | rfl | rfl | rfl
 ·show V.ok G (tget 2 (V.t []) (vpT t es (tot+s)) 0) (tm.getD 11 undef)
  rw [jbn _ _ _ (by decide) (by decide)]
  exact reg 0 (by decide)
 ·show V.ok G (tget 2 (V.t []) (vpT t es (tot+s)) 1) (tm.getD 9 undef)
  rw [jbn _ _ _ (by decide) (by decide)]
  exact reg 1 (by decide)
 ·show V.ok G (tget 2 (V.t []) (vpT t es (tot+s)) 2) (tm.getD 10 undef)
  rw [jbn _ _ _ (by decide) (by decide)]
  exact reg 2 (by decide)
 ·show V.ok G (tget 2 (V.t []) (vpT t es (tot+s)) 3) (tm.getD 73 undef)
  rw [jbn _ _ _ (by decide) (by decide)]
  exact reg 3 (by decide)
 ·show V.ok G (tget 2 (V.t []) (vpT t es (tot+s)) 4) (tm.getD 76 undef)
  rw [jbn _ _ _ (by decide) (by decide)]
  exact reg 4 (by decide)
 ·show V.ok G (tget 2 (V.t []) (vpT t es (tot+s)) 5) (tm.getD 74 undef)
  rw [jbn _ _ _ (by decide) (by decide)]
  exact reg 5 (by decide)
 ·show V.ok G (tget 2 (V.t []) (vpT t es (tot+s)) 6) (tm.getD 75 undef)
  rw [jbn _ _ _ (by decide) (by decide)]
  exact reg 6 (by decide)
 ·show V.ok G (tget 2 (V.t []) (vpT t es (tot+s)) 7) (tm.getD 8 undef)
  rw [jbn _ _ _ (by decide) (by decide)]
  exact reg 7 (by decide)
 ·show V.ok G (tget 2 (V.t []) (vpT t es (tot+s)) 8) (tm.getD 58 undef)
  rw [jbn _ _ _ (by decide) (by decide)]
  exact reg 8 (by decide)
 ·exact h9
 ·show V.ok G (tget 2 (V.t []) (vpT t es (tot+s)) 10) (Value.int .i64 ((tot+(ents.toList.map fS).sum:Nat):Int))
  rw [vpT_10,hsum]
  rfl
 ·exact h11
 ·exact h12
 ·show V.ok G (tget 2 (V.t []) (vpT t es (tot+s)) 13) (Value.bool false)
  rw [vpT_13]
  rfl
 ·show V.ok G (tget 2 (V.t []) (vpT t es (tot+s)) 14) y38
  rw [vpT_14]
  exact h38
 ·show V.ok G (tget 2 (V.t []) (vpT t es (tot+s)) 15) (tm.getD 15 undef)
  rw [jbn _ _ _ (by decide) (by decide)]
  exact reg 15 (by decide)
 ·show V.ok G (tget 2 (V.t []) (vpT t es (tot+s)) 16) (Value.pointer (some ⟨bx,0,none⟩))
  rw [jbn _ _ _ (by decide) (by decide)]
  exact (e3▸reg 16 (by decide))
 ·show V.ok G (tget 2 (V.t []) (vpT t es (tot+s)) 17) (tm.getD 12 undef)
  rw [jbn _ _ _ (by decide) (by decide)]
  exact reg 17 (by decide)
 ·show V.ok G (tget 2 (V.t []) (vpT t es (tot+s)) 18) (Value.pointer (some ⟨bv,0,none⟩))
  rw [jbn _ _ _ (by decide) (by decide)]
  exact (e0▸reg 18 (by decide))
 ·show V.ok G (tget 2 (V.t []) (vpT t es (tot+s)) 19) (tm.getD 1 undef)
  rw [jbn _ _ _ (by decide) (by decide)]
  exact reg 19 (by decide)
 ·show V.ok G (tget 2 (V.t []) (vpT t es (tot+s)) 20) (tm.getD 4 undef)
  rw [jbn _ _ _ (by decide) (by decide)]
  exact reg 20 (by decide)
theorem jjg:jdi=.seq (cL' jdi) (.seq (cL' (cR' jdi)) (.seq (cL' (cR' (cR' jdi))) (.seq putLoop putRest))):=by kernel_rfl
def zPut:KF:=z155
def vpTail (t:T8 V) (H:HT) (n:Nat):Rs:=Ot.rec Rs.no (retE (KF.rs zPut)) (runK callB2 (kFrom 4 (KF.body zPut)) t H n)
def vpMid (t:T8 V) (H:HT) (n:Nat):Rs:=Option.rec Rs.no (fun t'=>vpTail t' H n) (vpH t H)
def vpHead (t:T8 V) (H:HT) (n:Nat):Rs:=Ot.rec Rs.no (fun e t H n=>Ex.rec (vpMid t H n) (fun _=>Rs.no) Rs.no e) (runL callB2 [kAt 0 (KF.body zPut),kAt 1 (KF.body zPut),kAt 2 (KF.body zPut)] t H n)
def vPut (args:List V) (H:HT) (n:Nat):Rs:=cnd (Nat.ble args.length (KF.nt zPut)) (Option.rec Rs.no (fun t=>vpHead t H n) (jiq (KF.ar zPut) args .z)) .no
theorem put_made:jac Tryz.prog wt 155=some zPut:=by kernel_rfl
theorem put_W:tget 3 [] wt 155=W155:=by kernel_rfl
theorem runL3 {call:CallT} {a b c:K} {t t':T8 V} {H H':HT} {n n':Nat} (h:runL call [a,b,c] t H n=.ok .nx t' H' n'):∃ t1 H1 n1 t2 H2 n2,runK call a t H n=.ok .nx t1 H1 n1∧runK call b t1 H1 n1=.ok .nx t2 H2 n2∧runK call c t2 H2 n2=.ok .nx t' H' n':=by
 have h:seqO (runL call [b,c]) (runK call a t H n)=.ok .nx t' H' n':=h
 rcases jfr h with ⟨t1,H1,n1,h1,h2⟩ | ⟨q,_⟩
 ·have h2:seqO (runL call [c]) (runK call b t1 H1 n1)=.ok .nx t' H' n':=h2
  rcases jfr h2 with ⟨t2,H2,n2,h3,h4⟩ | ⟨q,_⟩
  ·have h4:seqO (fun t H n=>.ok .nx t H n) (runK call c t2 H2 n2)=.ok .nx t' H' n':=h4
   rcases jfr h4 with ⟨t3,H3,n3,h5,h6⟩ | ⟨q,_⟩
   ·have h6:Ot.ok .nx t3 H3 n3=.ok .nx t' H' n':=h6
    cases h6
    exact ⟨t1,H1,n1,t2,H2,n2,h1,h3,h5⟩
   ·exact absurd rfl q
  ·exact absurd rfl q
 ·exact absurd rfl q
set_option maxRecDepth 1000000 in
theorem vPut_ok:jbi Tryz.prog 155 vPut:=by
 intro args H n v H' n' h
 unfold vPut at h
 have q:=jai h
 clear h
 obtain ⟨ha,h⟩:=q
 cases ht:jiq (KF.ar zPut) args .z with
 | none=>rw [ht] at h;cases h
 | some t0 =>
   rw [ht] at h
   have h:vpHead t0 H n=.ok v H' n':=h
   unfold vpHead at h
   cases h3:runL callB2 [kAt 0 (KF.body zPut),kAt 1 (KF.body zPut),kAt 2 (KF.body zPut)] t0 H n with
   | no=>rw [h3] at h;cases h
   | ok e t1 H1 n1 =>
     rw [h3] at h
     cases e with
     | ex _=>cases h
     | rt=>cases h
     | nx =>
       have h:vpMid t1 H1 n1=.ok v H' n':=h
       unfold vpMid at h
       cases hm:vpH t1 H1 with
       | none=>rw [hm] at h;cases h
       | some t2 =>
         rw [hm] at h
         have h:vpTail t2 H1 n1=.ok v H' n':=h
         unfold vpTail at h
         cases h4:runK callB2 (kFrom 4 (KF.body zPut)) t2 H1 n1 with
         | no=>rw [h4] at h;cases h
         | ok ex t3 H3 n3 =>
           rw [h4] at h
           have h:retE (KF.rs zPut) ex t3 H3 n3=.ok v H' n':=h
           obtain ⟨ta,Ha,na,tb,Hb,nb,r0,r1,r2⟩:=runL3 h3
           refine sum_runs put_made ha ht h fun fn c hfn hc hcomp hlen hnd=>?_
           rw [put_W] at hcomp hlen hnd ⊢
           rw [Tryz.func155] at hfn
           have hfn:=Option.some.inj hfn
           have hcb:c=jdi:=by
            unfold jdi
            rw [hfn,hc];rfl
           subst hcb
           rw [jjg] at hcomp
           have c0:=congrArg kl hcomp
           have c1:=congrArg (fun k=>kl (kr k)) hcomp
           have c2:=congrArg (fun k=>kl (kr (kr k))) hcomp
           have c4:=congrArg (fun k=>kr (kr (kr (kr k)))) hcomp
           rw [jjg]
           exact jfa (runs_k follows jfk hlen hnd c0 r0) (jfa (runs_k follows jfk hlen hnd c1 r1) (jfa (runs_k follows jfk hlen hnd c2 r2) (jfa (put_runs hm) (runs_k follows jfk hlen hnd c4 h4))))
def S3:SumT:=addS 155 vPut S2
set_option maxRecDepth 100000 in
theorem S3_ok:jis Tryz.prog S3:=jbe ⟨_,Tryz.func155,by kernel_rfl,by kernel_rfl⟩ vPut_ok S2_ok
set_option maxRecDepth 100000 in
def callB3:CallT:=jik kt S3 100
theorem callB3_ok:jbh Tryz.prog callB3:=jcz S3_ok 100
end
end Ev
end
section
open Go.RowKit
namespace Ev
noncomputable section
abbrev PtA:=Nat×Nat×Int×Int
def ptsA:List Sc→Option (List PtA)
 | []=>some []
 | .s l n::.i .i64 t::.i .i64 v::r=>(match ptsA r with | some ps=>some ((l,n,t,v)::ps) | none=>none)
 | _=>none
def layA (H:HT):List Sc→Option (List (List PtA))
 | []=>some []
 | x::r=>match slRd 3 x H with
   | some cs=>(match ptsA cs,layA H r with | some p,some q=>some (p::q) | _,_=>none)
   | none=>none
def hitA (l n:Nat) (t:Int) (p:PtA):Bool:=and (and (Nat.beq p.1 l) (Nat.beq p.2.1 n)) (eqF p.2.2.1 t)
def orO (x y:Option Int):Option Int:=match x with | some v=>some v | none=>y
def nwA (l n:Nat) (t:Int) (ps:List PtA):Option Int:=List.rec none (fun p _ ih=>orO ih (cnd (hitA l n t p) (some p.2.2.2) none)) ps
def lsA (l n:Nat) (t:Int) (ls:List (List PtA)):Option Int:=List.rec none (fun y _ ih=>orO ih (nwA l n t y)) ls
def PtOk (p:PtA) (q:Pt.Point):Prop:=q.1.data.toList.length=p.1∧pk q.1.data.toList=p.2.1∧q.2.1=p.2.2.1∧q.2.2=p.2.2.2
theorem hitA_ok {l n:Nat} {t:Int} {s:ByteArray} (h1:s.data.toList.length=l) (h2:pk s.data.toList=n) {p:PtA} {q:Pt.Point} (h:PtOk p q):hitA l n t p=Qr.hit s t q:=by
 obtain ⟨a1,a2,a3,a4⟩:=h
 unfold hitA Qr.hit
 rw [jem,←a3]
 have e1:(and (Nat.beq p.1 l) (Nat.beq p.2.1 n))=decide (q.1=s):=by
  rw [←a1,←a2,←h1,←h2]
  by_cases hq:q.1=s
  ·rw [hq];simp
  ·rw [decide_eq_false hq]
   cases hb:and (Nat.beq q.1.data.toList.length s.data.toList.length) (Nat.beq (pk q.1.data.toList) (pk s.data.toList)) with
   | false=>rfl
   | true =>
     rw [Bool.and_eq_true] at hb
     exact absurd (Wr.ext_list (pk_inj _ _ (jae hb.1) (jae hb.2))) hq
 have e2:(q.2.1==t)=decide (q.2.1=t):=by
  by_cases hq:q.2.1=t
  ·rw [hq];simp
  ·rw [decide_eq_false hq];exact beq_eq_false_iff_ne.2 hq
 rw [e2]
 show ((and (Nat.beq p.1 l) (Nat.beq p.2.1 n))&&_)=_
 rw [e1]
theorem newest_cons (s:ByteArray) (t:Int) (q:Pt.Point) (qs:List Pt.Point):Qr.newest s t (q::qs)=orO (Qr.newest s t qs) (if Qr.hit s t q=true then some q.2.2 else none):=by
 unfold Qr.newest
 rw [List.reverse_cons,List.find?_append]
 cases h:qs.reverse.find? (Qr.hit s t) with
 | some y=>simp [orO]
 | none =>
   simp only [Option.none_or,Option.map_none,orO,List.find?_cons,List.find?_nil]
   cases Qr.hit s t q<;>simp
theorem nwA_ok {l n:Nat} {t:Int} {s:ByteArray} (h1:s.data.toList.length=l) (h2:pk s.data.toList=n) {ps:List PtA} {qs:List Pt.Point} (h:All2 PtOk ps qs):nwA l n t ps=Qr.newest s t qs:=by
 induction h with
 | nil=>rfl
 | cons a _ ih =>
   rename_i p q ps qs _
   rw [newest_cons,←ih,←hitA_ok h1 h2 a]
   show orO (nwA l n t ps) (cnd (hitA l n t p) (some p.2.2.2) none)=_
   rw [←a.2.2.2]
   cases hitA l n t p<;>rfl
theorem lastIn_cons (s:ByteArray) (t:Int) (y:List Pt.Point) (ys:List (List Pt.Point)):Qr.lastIn s t (y::ys)=orO (Qr.lastIn s t ys) (Qr.newest s t y):=by
 unfold Qr.lastIn
 rw [List.reverse_cons,List.findSome?_append]
 cases h:ys.reverse.findSome? (Qr.newest s t) with
 | some y=>simp [orO]
 | none =>
   simp only [Option.none_or,orO,List.findSome?_cons,List.findSome?_nil]
   cases Qr.newest s t y<;>rfl
theorem lsA_ok {l n:Nat} {t:Int} {s:ByteArray} (h1:s.data.toList.length=l) (h2:pk s.data.toList=n) {ps:List (List PtA)} {qs:List (List Pt.Point)} (h:All2 (All2 PtOk) ps qs):lsA l n t ps=Qr.lastIn s t qs:=by
 induction h with
 | nil=>rfl
 | cons a _ ih =>
   rename_i p q ps qs _
   rw [lastIn_cons,←ih,←nwA_ok h1 h2 a]
   rfl
theorem ptsA_ok {G:Gh}:∀ {xs:List Sc} {vs:List Value} {ps:List PtA},All2 (Sc.ok G) xs vs→ptsA xs=some ps→∃ qs:List Pt.Point,vs=qs.flatMap jal∧All2 PtOk ps qs
 | _,_,ps,.nil,h=>by
   have h:some []=some ps:=h
   cases h
   exact ⟨[],rfl,.nil⟩
 | _::_,_::_,ps,.cons (a:=x) (b:=v) hp hr,h=>by
   unfold ptsA at h
   split at h
   ·cases ‹_::_=[]›
   ·rename_i l n t v' r heq
    cases heq
    cases hr with
    | cons b1 hr =>
    cases hr with
    | cons b2 hr =>
    split at h
    ·rename_i ps' hps
     cases h
     obtain ⟨qs,rfl,hq⟩:=ptsA_ok hr hps
     obtain ⟨s,rfl,s1,s2⟩:=hp
     have b1:_=Value.int .i64 t:=b1
     have b2:_=Value.int .i64 v':=b2
     subst b1
     subst b2
     exact ⟨(s,t,v')::qs,rfl,.cons ⟨s1,s2,rfl,rfl⟩ hq⟩
    ·cases h
   ·cases h
theorem flat3 (qs:List Pt.Point):(qs.flatMap jal).length=3*qs.length:=by
 induction qs with
 | nil=>rfl
 | cons q qs ih=>rw [List.flatMap_cons,List.length_append,ih,List.length_cons];show 3+_=_;omega
theorem layA_ok {G:Gh} {H:HT} {w:World} (hR:R G (hp H) w):∀ {xs:List Sc} {vs:List Value} {ls:List (List PtA)},All2 (Sc.ok G) xs vs→layA H xs=some ls→(∀ y∈ls,y.length≤1000000)→∃ L:List Lay,vs=L.map layV∧(∀ y∈L,LayOk w y)∧All2 (All2 PtOk) ls (L.map (·.2.2))
 | _,_,ls,.nil,h,_=>by
   have h:some []=some ls:=h
   cases h
   exact ⟨[],rfl,fun y hy=>(by cases hy),.nil⟩
 | _::_,_::_,ls,.cons (a:=x) (b:=v) hp hr,h,hlen=>by
   unfold layA at h
   split at h
   ·rename_i cs hcs
    split at h
    ·rename_i p q hp1 hq
     cases h
     obtain ⟨A,n,cap,us,rfl,hall,hrd⟩:=jdf hR hcs hp
     obtain ⟨qs,rfl,hqs⟩:=ptsA_ok hall hp1
     obtain ⟨L,rfl,h1,h2⟩:=layA_ok hR hr hq (fun y hy=>hlen y (List.mem_cons_of_mem _ hy))
     have hn:n=qs.length:=by
      have:=hrd.1
      rw [flat3] at this;omega
     subst hn
     have hle:qs.length≤1000000:=by
      have:=hlen p (List.mem_cons_self ..)
      rw [hqs.length] at this
      exact this
     refine ⟨(A,cap,qs)::L,rfl,fun y hy=>?_,.cons hqs h2⟩
     rcases List.mem_cons.1 hy with rfl | hy
     ·exact ⟨hrd,by show qs.length≤_;omega⟩
     ·exact h1 y hy
    ·cases h
   ·cases h
def lsLen (ls:List (List PtA)):Bool:=and (Nat.ble ls.length 1000000) (ls.all fun y=>Nat.ble y.length 1000000)
def laysH (ar:Rs):Option (List (List PtA)):=match ar with
 | .ok (.t [.c sl,.c (.b true)]) H n=>(match slRd 1 sl H with | some xs=>layA H xs | none=>none)
 | _=>none
def lastV (l n:Nat) (t:Int) (ls:List (List PtA)) (H:HT) (k:Nat):Rs :=
 cnd (lsLen ls) (.ok (.t [.c (.i .i64 ((lsA l n t ls).getD 0)),.c (.b (lsA l n t ls).isSome),.c (.i .i64 0)]) H k) .no
def lastR (l n:Nat) (t:Int) (ar:Rs):Rs:=match laysH ar with
 | some ls=>Rs.rec Rs.no (fun _ H k=>lastV l n t ls H k) ar
 | none=>.no
def sLast (args:List V) (H:HT) (k:Nat):Rs:=match args with
 | [a,b,.c (.s l n),.c (.i .i64 t)]=>lastR l n t (callB3 296 [a,b] H k)
 | _=>.no
theorem laysH_ok {v:V} {H:HT} {n:Nat} {ls:List (List PtA)} (h:laysH (.ok v H n)=some ls):∃ sl xs,v=.t [.c sl,.c (.b true)]∧slRd 1 sl H=some xs∧layA H xs=some ls:=by
 unfold laysH at h
 split at h
 ·rename_i sl H2 n2 heq
  cases heq
  split at h
  ·rename_i xs hxs
   exact ⟨sl,xs,rfl,hxs,h⟩
  ·cases h
 ·cases h
set_option maxRecDepth 1000000 in
theorem sLast_ok:jbi Tryz.prog 295 sLast:=by
 intro args H k v H' k' h
 unfold sLast at h
 split at h
 ·rename_i a b l n t
  unfold lastR at h
  cases har:callB3 296 [a,b] H k with
  | no=>rw [har] at h;cases h
  | ok v1 H1 k1 =>
    rw [har] at h
    split at h
    ·rename_i ls hls
     change lastV l n t ls H1 k1=.ok v H' k' at h
     unfold lastV at h
     have q:=jai h
     clear h
     obtain ⟨hlen,h⟩:=q
     unfold lsLen at hlen
     rw [Bool.and_eq_true] at hlen
     have hlen1:=jad hlen.1
     have hlen2:∀ y∈ls,y.length≤1000000:=fun y hy=>jad (List.all_eq_true.1 hlen.2 y hy)
     cases h
     obtain ⟨sl,xs,rfl,hxs,hlay⟩:=laysH_ok hls
     obtain ⟨_,hk,kc⟩:=callB3_ok _ _ _ _ _ _ _ har
     refine ⟨hk,fun G w cargs hR ha hf=>?_⟩
     obtain ⟨arr⟩:=cargs
     cases ha with
     | cons a1 ha =>
     cases ha with
     | cons a2 ha =>
     cases ha with
     | cons a3 ha =>
     cases ha with
     | cons a4 ha =>
     cases ha
     rename_i c1 c2 c3 c4
     obtain ⟨s,rfl,s1,s2⟩:=a3
     have a4:c4=Value.int .i64 t:=a4
     subst a4
     refine (last_gen (fun w2 L=>∃ W G1,Below w.heap.size w W∧w.heap.size+5≤W.heap.size∧Stp G (hp H) k W G1 (hp H') k' w2∧All2 (All2 PtOk) ls (L.map (·.2.2))) c1 c2 s t w ?_).mono ?_
     ·intro W hb h5
      have hRW:R G (hp H) W:=(jbj (n:=k) hR hb).r
      refine (kc G W #[c1,c2] hRW (.cons a1 (.cons a2 .nil)) hf).mono ?_
      rintro e w2 ⟨cv,G1,rfl,st,hv⟩
      obtain ⟨arr,rfl,hv⟩:=hv
      obtain ⟨arr⟩:=arr
      cases hv with
      | cons b1 hv =>
      cases hv with
      | cons b2 hv =>
      cases hv
      rename_i d1 d2
      have b2:d2=Value.bool true:=b2
      subst b2
      obtain ⟨A,m,cap,vs,rfl,hall,hrd⟩:=jdf st.r hxs b1
      obtain ⟨L,rfl,hL,hpt⟩:=layA_ok st.r hall hlay hlen2
      have hm:m=L.length:=by
       have:=hrd.1
       rw [List.length_map] at this;omega
      subst hm
      have hLl:L.length≤1000000:=by
       have:=hpt.length
       rw [List.length_map] at this;omega
      refine ⟨A,cap,L,rfl,st.fr.size,fun b hb1 hb2=>st.fr.block b hb2 ?_,hrd,hL,hLl,W,G1,hb,h5,st,hpt⟩
      rintro ⟨id,sz,h1,h2⟩
      have:=hR.lt h1 h2
      omega
     ·rintro e w' ⟨w2,L,⟨W,G1,hb,h5,st,hpt⟩,hfr,rfl⟩
      have hls':=lsA_ok (t:=t) s1 s2 hpt
      have hlt:∀ b,Foot G (hp H) b→b<w.heap.size:=by
       rintro b ⟨id,sz,h1,h2⟩
       exact hR.lt h1 h2
      have hft:∀ b,Foot G1 (hp H') b→¬B3 w.heap.size b:=by
       intro b hb1 hb3
       unfold B3 at hb3
       rcases st.ft b hb1 with q | q
       ·have:=hlt b q;omega
       ·omega
      refine ⟨_,G1,rfl,⟨st.ext,st.r.fr hfr hft,?_,fun b hb1=>?_⟩,⟨_,rfl,.cons ?_ (.cons ?_ (.cons rfl .nil))⟩⟩
      ·refine ((fr_b3 (S:=Foot G (hp H)) hb).trans st.fr ?_).trans hfr ?_
       ·intro j _ q;exact q
       ·intro j hj q
        unfold B3 at q
        omega
      ·rcases st.ft b hb1 with q | q
       ·exact .inl q
       ·exact .inr (Nat.le_trans hb.size q)
      ·show Value.int .i64 _=Value.int .i64 _
       rw [hls']
      ·show Value.bool _=Value.bool _
       rw [hls']
    ·cases h
 ·cases h
set_option maxRecDepth 100000
def S4:SumT:=addS 295 sLast S3
theorem S4_ok:jis Tryz.prog S4:=jbe ⟨_,Tryz.func295,by kernel_rfl,by kernel_rfl⟩ sLast_ok S3_ok
def jim:CallT:=jik kt S4 100
theorem jil:jbh Tryz.prog jim:=jcz S4_ok 100
end
end Ev
end
section
namespace Ev
open Go.RowKit
noncomputable section
def rg (a n:Nat):List Nat:=Nat.rec (motive:=fun _=>Nat→List Nat) (fun _=>[]) (fun _ ih a=>a::ih (Nat.add a 1)) n a
section
variable {nt:Nat} {W:List Nat} {call:CallT} {H H1 H' H2:HT} {n n1 n':Nat} {t t1 t' t2:T8 V} {ex:Ex}
end
end
end Ev
end
section
open Go.RowKit
namespace Ev
noncomputable section
end
end Ev
namespace Db
open Ev
noncomputable section
theorem only_fr {S:Nat→Prop} {w w':World} (h:Only S w w'):Ev.Fr S w w':=⟨h.os,h.tape,h.output,h.size,h.block⟩
theorem fr_only {S:Nat→Prop} {w w':World} (h:Ev.Fr S w w'):Only S w w':=⟨h.os,h.tape,h.output,h.size,h.block⟩
structure Tm where
 k:Int
 fr:Int
 to:Int
 vw:Int
 nm:Int
 at_:Int
 cm:Int
 rd:Int
 cl:Int
 se:Int
 nu:Int
 co:Int
 ag:Int
 un:Int
 s:Bool
 p:Option (Int×Int)
def serB (s:Bool):ByteArray:=cnd s ⟨#[115]⟩ ⟨#[]⟩
def Tm.ms (t:Tm) (A:Option Addr) (n c:Nat):Ms:=⟨t.k,t.fr,t.to,t.vw,t.nm,t.at_,t.cm,t.rd,t.cl,t.se,t.nu,t.co,t.ag,t.un,serB t.s,A,n,c⟩
def Tm.sc (t:Tm) (b:Sc):List Sc:=[.i .i64 t.k,.i .i64 t.fr,.i .i64 t.to,.i .i64 t.vw,.i .i64 t.nm,.i .i64 t.at_,.i .i64 t.cm,.i .i64 t.rd,.i .i64 t.cl,.i .i64 t.se,.i .i64 t.nu,.i .i64 t.co,.i .i64 t.ag,.i .i64 t.un,.s (cnd t.s 1 0) (cnd t.s 115 0),b,.i .i64 0,.s 0 0,.sn,.s 0 0]
theorem ser_ok (G:Gh) (s:Bool):Sc.ok G (.s (cnd s 1 0) (cnd s 115 0)) (.string (serB s)):=by cases s<;>exact ⟨_,rfl,rfl,rfl⟩
theorem ser_of {G:Gh} {s:Bool} {v:Value} (h:Sc.ok G (.s (cnd s 1 0) (cnd s 115 0)) v):v=.string (serB s):=by
 obtain ⟨x,rfl,h1,h2⟩:=h
 obtain ⟨y,hy,k1,k2⟩:=ser_ok G s
 cases hy
 rw [Wr.ext_list (pk_inj _ _ (h1.trans k1.symm) (h2.trans k2.symm))]
theorem sc_ok {G:Gh} (t:Tm) {b:Sc} {A:Option Addr} {n c:Nat} (h:Sc.ok G b (.slice A n c)):V.ok G (.a (t.sc b)) (msV (t.ms A n c)) :=
 ⟨_,rfl,.cons rfl (.cons rfl (.cons rfl (.cons rfl (.cons rfl (.cons rfl (.cons rfl (.cons rfl (.cons rfl (.cons rfl (.cons rfl (.cons rfl (.cons rfl (.cons rfl (.cons (ser_ok G t.s) (.cons h (.cons rfl (.cons ⟨_,rfl,rfl,rfl⟩ (.cons rfl (.cons ⟨_,rfl,rfl,rfl⟩ .nil)))))))))))))))))))⟩
theorem str0 {G:Gh} {v:Value} (h:Sc.ok G (.s 0 0) v):v=.string ⟨#[]⟩:=ser_of (s:=false) h
theorem sc_of {G:Gh} {t:Tm} {b:Sc} {v:Value} (h:V.ok G (.a (t.sc b)) v) (hb:∀ u,Sc.ok G b u→∃ A n c,u=.slice A n c):∃ A n c,v=msV (t.ms A n c)∧Sc.ok G b (.slice A n c):=by
 obtain ⟨⟨l⟩,rfl,h⟩:=h
 cases h with | cons h0 h=>cases h with | cons h1 h=>cases h with | cons h2 h=>cases h with | cons h3 h=>cases h with | cons h4 h=>cases h with | cons h5 h=>cases h with | cons h6 h=>cases h with | cons h7 h=>cases h with | cons h8 h=>cases h with | cons h9 h=>cases h with | cons h10 h=>cases h with | cons h11 h=>cases h with | cons h12 h=>cases h with | cons h13 h =>
 cases h with | cons h14 h=>cases h with | cons h15 h=>cases h with | cons h16 h=>cases h with | cons h17 h=>cases h with | cons h18 h=>cases h with | cons h19 h =>
 cases h
 obtain ⟨A,n,c,rfl⟩:=hb _ h15
 refine ⟨A,n,c,?_,h15⟩
 rw [show _=Value.int .i64 t.k from h0,show _=Value.int .i64 t.fr from h1,show _=Value.int .i64 t.to from h2,show _=Value.int .i64 t.vw from h3,show _=Value.int .i64 t.nm from h4,show _=Value.int .i64 t.at_ from h5,show _=Value.int .i64 t.cm from h6,show _=Value.int .i64 t.rd from h7,show _=Value.int .i64 t.cl from h8,show _=Value.int .i64 t.se from h9,show _=Value.int .i64 t.nu from h10,show _=Value.int .i64 t.co from h11,show _=Value.int .i64 t.ag from h12,show _=Value.int .i64 t.un from h13,ser_of h14,show _=Value.int .i64 0 from h16,str0 h17,show _=Value.slice none 0 0 from h18,str0 h19]
 rfl
def bRow (t x:Int):Ob:=.row 3 true 1 .u (.n (.l (.s 1 115)) (.l (.i .i64 t)) (.l (.i .i64 x)) .z .z .z .z .z)
def bSc (p:Option (Int×Int)) (id:Nat):Sc:=Option.rec .sn (fun _=>.su id 0 1 1 3) p
end
end Db
end
end Go.Proofs.YtcchekmejnhlmaaGreat
