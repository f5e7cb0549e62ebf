/- Joined texts. -/
import Derived.Test.YtcchekmejnhlmaaGreatK14
import Derived.Test.YtcchekmejnhlmaaGreatK16
import Derived.Test.YtcchekmejnhlmaaGreatK17
import Derived.Test.YtcchekmejnhlmaaGreatK19
import Derived.Test.YtcchekmejnhlmaaGreatK20
import Derived.Test.YtcchekmejnhlmaaGreatK21
import Derived.Test.YtcchekmejnhlmaaGreatK22
import Derived.Test.YtcchekmejnhlmaaGreatK23
import Derived.KernelRfl
namespace Go.Proofs.YtcchekmejnhlmaaGreat
set_option linter.unusedVariables false
set_option maxHeartbeats 4000000
section
namespace Db
open Ev
noncomputable section
set_option maxRecDepth 1000000
theorem node0:NodeP 0 0 rc0:=⟨⟨q0,trivial⟩,⟨q3,trivial⟩,⟨q4,trivial⟩,⟨q5,trivial⟩,⟨q8,trivial⟩,⟨q9,trivial⟩,⟨q10,trivial⟩,⟨q13,q14,q23,trivial⟩,⟨q19,q20,q26,trivial⟩,⟨q15,q17,q24,trivial⟩,⟨q16,q18,q25,q30,q36,trivial⟩,⟨q33,trivial⟩,⟨q34,trivial⟩,⟨q39,q45,q49,trivial⟩,⟨q40,q43,q50,trivial⟩,⟨q41,q44,q51,q56,q62,trivial⟩,⟨q46,q47,q52,trivial⟩,⟨q59,trivial⟩,⟨q60,trivial⟩,⟨q65,q71,q75,trivial⟩,⟨q66,q69,q76,trivial⟩,⟨q67,q70,q77,q82,q88,trivial⟩,⟨q72,q73,q78,trivial⟩,⟨q85,trivial⟩,⟨q86,trivial⟩,⟨q91,q92,q101,trivial⟩,⟨q97,q98,q104,trivial⟩,⟨q93,q95,q102,trivial⟩,⟨q94,q96,q103,q108,q114,trivial⟩,⟨q111,trivial⟩,⟨q112,trivial⟩,⟨q117,q118,q127,trivial⟩,⟨q119,q121,q128,trivial⟩,⟨q123,q124,q130,trivial⟩,⟨q120,q122,q129,q134,q140,trivial⟩,⟨q137,trivial⟩,⟨q138,trivial⟩,⟨q143,q157,q165,trivial⟩,⟨q147,q155,q166,trivial⟩,⟨q148,q156,q167,q174,q184,trivial⟩,⟨q158,q159,q168,trivial⟩,⟨q176,trivial⟩,⟨q178,trivial⟩,⟨q181,trivial⟩,⟨q182,trivial⟩,trivial,⟨q187,q188,q190,q191,q265,trivial⟩,⟨q243,q244,q245,q249,q278,trivial⟩,⟨q194,q195,q196,q219,q266,trivial⟩,⟨q251,q252,q253,q254,q280,trivial⟩,⟨q227,q228,q229,q239,q274,trivial⟩,⟨q215,q216,q217,q226,q273,trivial⟩,⟨q209,q210,q213,q224,q271,trivial⟩,⟨q197,q198,q205,q220,q267,trivial⟩,⟨q203,q204,q208,q223,q270,trivial⟩,⟨q199,q201,q206,q221,q268,trivial⟩,⟨q200,q202,q207,q222,q269,q286,q292,trivial⟩,⟨q211,q212,q214,q225,q272,trivial⟩,⟨q236,q237,q238,q242,q277,trivial⟩,⟨q230,q231,q234,q240,q275,trivial⟩,⟨q232,q233,q235,q241,q276,trivial⟩,⟨q246,q247,q248,q250,q279,trivial⟩,⟨q289,trivial⟩,⟨q290,trivial⟩,⟨q295,q301,q305,trivial⟩,⟨q296,q299,q306,trivial⟩,⟨q297,q300,q307,q314,trivial⟩,⟨q302,q303,q308,trivial⟩,⟨q317,trivial⟩,⟨q318,trivial⟩,trivial⟩
theorem node1:NodeP 1 0 rc1:=⟨⟨q1,trivial⟩,⟨q6,trivial⟩,⟨q11,trivial⟩,⟨q21,q28,q37,trivial⟩,⟨q31,trivial⟩,⟨q42,q54,q63,trivial⟩,⟨q57,trivial⟩,⟨q68,q80,q89,trivial⟩,⟨q83,trivial⟩,⟨q99,q106,q115,trivial⟩,⟨q109,trivial⟩,⟨q125,q132,q142,q162,trivial⟩,⟨q135,trivial⟩,⟨q144,q160,trivial⟩,⟨q150,q161,q170,q185,q189,trivial⟩,⟨q163,q164,trivial⟩,⟨q172,q177,trivial⟩,⟨q179,trivial⟩,⟨q193,q256,trivial⟩,⟨q258,q259,trivial⟩,⟨q255,q257,q282,q294,trivial⟩,⟨q284,q287,trivial⟩,⟨q304,q310,trivial⟩,⟨q312,q315,trivial⟩,trivial⟩
theorem node2:NodeP 2 0 rc2:=⟨⟨q2,trivial⟩,⟨q7,trivial⟩,⟨q12,trivial⟩,⟨q22,q29,q38,trivial⟩,⟨q32,trivial⟩,⟨q48,q55,q64,trivial⟩,⟨q58,trivial⟩,⟨q74,q81,q90,trivial⟩,⟨q84,trivial⟩,⟨q100,q107,q116,trivial⟩,⟨q110,trivial⟩,⟨q126,q133,q141,q145,trivial⟩,⟨q136,trivial⟩,⟨q153,q154,trivial⟩,⟨q146,q151,trivial⟩,⟨q149,q152,q171,q186,q262,trivial⟩,⟨q173,q175,trivial⟩,⟨q180,trivial⟩,⟨q192,q260,trivial⟩,⟨q218,q261,q283,q293,trivial⟩,⟨q263,q264,trivial⟩,⟨q285,q288,trivial⟩,⟨q298,q311,trivial⟩,⟨q313,q316,trivial⟩,trivial⟩
theorem beats:BtP bts:=⟨q27,q35,q53,q61,q79,q87,q105,q113,q131,q139,q169,q183,q281,q291,q309,q319,trivial⟩
end
end Db
end
section
open Go.RowKit
namespace Db
open Ev
noncomputable section
theorem rowP_get {i s:Nat}:∀ {l:List (Nat×Nat×List Nat)} {e:Nat×Nat×List Nat},RowP i s l→e∈l→RcI i s e.1 e.2.1 e.2.2
 | _::_,_,h,hm=>by
   rcases List.mem_cons.1 hm with q | q
   ·rw [q];exact h.1
   ·exact rowP_get h.2 q
theorem nodeP_get {i:Nat}:∀ {rows:List (List (Nat×Nat×List Nat))} {s0 k:Nat} {l:List (Nat×Nat×List Nat)},NodeP i s0 rows→rows[k]? =some l→RowP i (s0+k) l
 | [],_,_,_,_,hk=>by cases hk
 | a::r,s0,0,l,h,hk=>by cases hk;exact h.1
 | a::r,s0,k+1,l,h,hk=>by
   have:=nodeP_get h.2 (k:=k) (by simpa using hk)
   rwa [show s0+1+k=s0+(k+1) from by omega] at this
theorem rcs_ok {i s t s':Nat} {os:List Nat} (h:rcs i s t=some (s',os)):RcI i s t s' os:=by
 obtain ⟨a,l,h1,h2,h3⟩:=rcs_mem h
 have key:∀ {rows:List (List (Nat×Nat×List Nat))},NodeP i 0 rows→rows=a→RcI i s t s' os:=fun hn e=>by
  subst e
  have:=nodeP_get hn h2
  rw [Nat.zero_add] at this
  exact rowP_get this h3
 match i,h1 with
 | 0,h1=>cases h1;exact key node0 rfl
 | 1,h1=>cases h1;exact key node1 rfl
 | 2,h1=>cases h1;exact key node2 rfl
 | k+3,h1=>cases h1
theorem btP_get:∀ {l:List (Nat×Nat×List Nat)} {e:Nat×Nat×List Nat},BtP l→e∈l→BtI e.1 e.2.1 e.2.2
 | _::_,_,h,hm=>by
   rcases List.mem_cons.1 hm with q | q
   ·rw [q];exact h.1
   ·exact btP_get h.2 q
theorem btF_ok {s s':Nat} {os:List Nat} (h:btF s=some (s',os)):BtI s s' os:=by
 unfold btF at h
 obtain ⟨e,h1,h2⟩:=Option.map_eq_some_iff.1 h
 have he:=Nat.eq_of_beq_eq_true (List.find?_some (p:=fun e:Nat×Nat×List Nat=>Nat.beq e.1 s) h1)
 have:=btP_get beats (List.mem_of_find?_eq_some h1)
 rw [he,h2] at this
 exact this
def NN (s:Sg) (i:Nat):HT:=match i with | 0=>hN 0 s.1 | 1=>hN 1 s.2.1 | _=>hN 2 s.2.2
def Wv (κ:Kp) (c:Nat→Nat) (w:World) (s:Sg) (bag got:List Nat) (ns:Nat):Prop:=∃ gs vg vs tm xs,gs.map (·.2)=got.map tmN∧Wd κ c w (NN s) (bag.map tmN) gs vg vs tm ns xs
section
variable {κ:Kp} {c c':Nat→Nat} {w w':World} {N N':Nat→HT} {bt:List Tm} {gs:List (Int×Tm)} {vg vs:Value} {tm:Int} {ns:Nat} {xs:List Value} {s s':Sg} {bag got os:List Nat}
theorem Wd.congr (h:Wd κ c w N bt gs vg vs tm ns xs) (hn:∀ i,i<3→N i=N' i):Wd κ c w N' bt gs vg vs tm ns xs :=
 ⟨h.st,h.stc,h.row,h.rowl,h.rowc,h.bg,h.gt,h.gtc,h.gtn,h.sn,h.snc,fun i hi=>by rw [←hn i hi];exact h.nd i hi⟩
theorem Wv.stc {K:Nat→Prop} (h:Wv κ c w s bag got ns) (st:Stc K c c' w w') (hk:∀ i,i≠7→i≠8→¬K i):Wv κ c' w' s bag got ns:=by
 obtain ⟨gs,vg,vs,tm,xs,h1,h2⟩:=h
 exact ⟨gs,vg,vs,tm,xs,h1,h2.stc_ st hk⟩
theorem Wv.below (h:Wv κ c w s bag got ns) (hb:Below w.heap.size w w'):Wv κ c w' s bag got ns:=h.stc (Stc.of_only (K:=fun _=>False) id (Only.new _ hb) fun _ _ _=>rfl) fun _ _ _=>id
theorem jjt {t:Nat} (hd:dOne s t=some (s',os)):(dst t<3∧os.length≤4∧Rcv (dst t) (NN s (dst t)) (tmN t) (NN s' (dst t)) (os.map tmN)∧∀ j,j<3→updN (NN s) (dst t) (NN s' (dst t)) j=NN s' j)∨(dst t=3∧s'=s∧os=[]):=by
 unfold dOne at hd
 rcases dst_ok t with ⟨h3,_⟩ | ⟨hlt,_⟩
 ·rw [h3] at hd
  have hd:some (s,([]:List Nat))=some (s',os):=hd
  cases hd
  exact .inr ⟨h3,rfl,rfl⟩
 ·left
  have:dst t=0∨dst t=1∨dst t=2:=by omega
  rcases this with h | h | h
  ·rw [h] at hd ⊢
   have hd:(rcs 0 s.1 t).map (fun p=>((p.1,s.2.1,s.2.2),p.2))=some (s',os):=hd
   obtain ⟨p,h1,h2⟩:=Option.map_eq_some_iff.1 hd
   cases h2
   refine ⟨by decide,rcs_len h1,rcs_ok h1,fun j hj=>?_⟩
   have:j=0∨j=1∨j=2:=by omega
   rcases this with rfl | rfl | rfl<;>rfl
  ·rw [h] at hd ⊢
   have hd:(rcs 1 s.2.1 t).map (fun p=>((s.1,p.1,s.2.2),p.2))=some (s',os):=hd
   obtain ⟨p,h1,h2⟩:=Option.map_eq_some_iff.1 hd
   cases h2
   refine ⟨by decide,rcs_len h1,rcs_ok h1,fun j hj=>?_⟩
   have:j=0∨j=1∨j=2:=by omega
   rcases this with rfl | rfl | rfl<;>rfl
  ·rw [h] at hd ⊢
   have hd:(rcs 2 s.2.2 t).map (fun p=>((s.1,s.2.1,p.1),p.2))=some (s',os):=hd
   obtain ⟨p,h1,h2⟩:=Option.map_eq_some_iff.1 hd
   cases h2
   refine ⟨by decide,rcs_len h1,rcs_ok h1,fun j hj=>?_⟩
   have:j=0∨j=1∨j=2:=by omega
   rcases this with rfl | rfl | rfl<;>rfl
theorem map_erase {α β:Type} (f:α→β):∀ (l:List α) (k:Nat),(l.map f).eraseIdx k=(l.eraseIdx k).map f
 | [],_=>rfl
 | _::_,0=>rfl
 | a::l,k+1=>by
   show f a::(l.map f).eraseIdx k=f a::(l.eraseIdx k).map f
   rw [map_erase f l k]
theorem wDeliver (h:Wv κ c w s bag got ns) (k:Nat) (hk:k<bag.length) {t:Nat} (ht:bag[k]=t) (hd:dOne s t=some (s',os)) (hn:bag.length≤90000) (hg:got.length≤90000) :
 Calls Tryz.prog 11 #[.pointer (some ⟨κ.gw,0,none⟩),.agg #[.int .i64 0,.int .i64 (k:Int),.int .i64 0,.int .i64 0,.int .i64 0,.int .i64 0,.int .i64 0,.int .i64 0,.int .i64 0,.int .i64 0,.int .i64 0,.int .i64 0,.int .i64 0,.int .i64 0,.int .i64 0,.int .i64 0,.int .i64 0,.int .i64 0,.string ⟨#[]⟩,.slice none 0 0,.int .i64 0,.string ⟨#[]⟩,.slice none 0 0,.string ⟨#[]⟩]] w fun e w'=>e=.returned (.int .i64 0)∧∃ c',Wv κ c' w' s' (bag.eraseIdx k++os) (got++cnd (Nat.beq (dst t) 3) [t] []) ns∧Stc (fun j=>j≤6) c c' w w':=by
 obtain ⟨gs,vg,vs,tm,xs,h1,h2⟩:=h
 have hk':k<(bag.map tmN).length:=by simpa using hk
 have htk:(bag.map tmN)[k]=tmN t:=by rw [List.getElem_map,ht]
 have her:(bag.map tmN).eraseIdx k=(bag.eraseIdx k).map tmN:=map_erase tmN bag k
 have hgl:gs.length=got.length:=by have:=congrArg List.length h1;simpa using this
 rcases jjt hd with ⟨hlt,hol,hr,hu⟩ | ⟨h3,rfl,rfl⟩
 ·have hto:(tmN t).to=(dst t:Int):=by
   rcases dst_ok t with q | q
   ·omega
   ·exact q.2
  refine (jjs h2 k hk' (Q:=fun c' w' x=>Wv κ c' w' s' (bag.eraseIdx k++os) (got++cnd (Nat.beq (dst t) 3) [t] []) ns) fun W x hW _=>?_).mono ?_
  ·refine (deliver_node hW k hk' (tmN t) htk (dst t) hlt hto hr (by simp;omega)).mono ?_
   rintro e w' ⟨rfl,c',k1,k2⟩
   refine ⟨rfl,c',⟨gs,vg,vs,x,xs,?_,?_⟩,k2⟩
   ·have e:Nat.beq (dst t) 3=false:=by
     cases hb:Nat.beq (dst t) 3 with
     | false=>rfl
     | true=>have:=Nat.eq_of_beq_eq_true hb;omega
    rw [e,cnd_false,List.append_nil];exact h1
   ·rw [her,←List.map_append] at k1
    exact k1.congr hu
  ·rintro e w' ⟨rfl,c',x,k1,k2⟩
   exact ⟨rfl,c',k1,k2⟩
 ·have hq:(tmN t).to=100∧(tmN t).p=none:=by
   rcases dst_ok t with q | q
   ·exact ⟨q.2.1,q.2.2.1⟩
   ·omega
  refine (jjs h2 k hk' (Q:=fun c' w' x=>Wv κ c' w' s' (bag.eraseIdx k++[]) (got++cnd (Nat.beq (dst t) 3) [t] []) ns) fun W x hW _=>?_).mono ?_
  ·refine (jjb hW k hk' (tmN t) htk hq.1 hq.2 (by simp;omega) (by omega)).mono ?_
   rintro e w' ⟨rfl,c',vg',k1,k2⟩
   refine ⟨rfl,c',⟨gs++[(x,tmN t)],vg',vs,x,xs,?_,?_⟩,k2⟩
   ·rw [h3,Nat.beq_refl,cnd_true,List.map_append,List.map_append,h1];rfl
   ·rw [her] at k1
    rw [List.append_nil]
    exact k1
  ·rintro e w' ⟨rfl,c',x,k1,k2⟩
   exact ⟨rfl,c',k1,k2⟩
theorem wDouble (h:Wv κ c w s bag got ns) (k:Nat) (hk:k<bag.length) (hn:bag.length≤90000) :
 Calls Tryz.prog 11 #[.pointer (some ⟨κ.gw,0,none⟩),.agg #[.int .i64 2,.int .i64 (k:Int),.int .i64 0,.int .i64 0,.int .i64 0,.int .i64 0,.int .i64 0,.int .i64 0,.int .i64 0,.int .i64 0,.int .i64 0,.int .i64 0,.int .i64 0,.int .i64 0,.int .i64 0,.int .i64 0,.int .i64 0,.int .i64 0,.string ⟨#[]⟩,.slice none 0 0,.int .i64 0,.string ⟨#[]⟩,.slice none 0 0,.string ⟨#[]⟩]] w fun e w'=>e=.returned (.int .i64 0)∧∃ c',Wv κ c' w' s (bag++[bag[k]]) got ns∧Stc (fun j=>j≤6) c c' w w':=by
 obtain ⟨gs,vg,vs,tm,xs,h1,h2⟩:=h
 refine (do_double h2 k (by simpa using hk) (by simp;omega)).mono ?_
 rintro e w' ⟨rfl,c',x,k1,k2⟩
 refine ⟨rfl,c',⟨gs,vg,vs,x,xs,h1,?_⟩,k2⟩
 rw [List.map_append]
 rw [List.getElem_map] at k1
 exact k1
theorem wBag (h:Wv κ c w s bag got ns) (hn:bag.length≤90000):Calls Tryz.prog 17 #[.pointer (some ⟨κ.gw,0,none⟩)] w fun e w'=>∃ A k,e=.returned (.slice A bag.length k)∧Below w.heap.size w w':=by
 obtain ⟨gs,vg,vs,tm,xs,h1,h2⟩:=h
 have:=bag_any h2 (by simp;omega)
 rwa [List.length_map] at this
set_option maxRecDepth 100000 in
theorem num0_any (w:World):Calls Tryz.prog 18 #[.int .i64 0] w fun e w'=>e=.returned (.int .i64 0)∧w=w':=by
 go_enter Tryz.func18,Tryz.ntmps18
 go_wp2_with fail
 go_ret
 exact ⟨rfl,rfl⟩
set_option maxRecDepth 100000 in
set_option maxHeartbeats 2000000 in
theorem jco (h:Wv κ c w s bag got ns) {n m:Nat} {g:List Nat} (hd:Drain n s bag s' g) (hnm:n≤m) (hm:m≤3000) (hn:bag.length≤50000) (hg:got.length≤50000) :
 Calls Tryz.prog 15 #[.pointer (some ⟨κ.gw,0,none⟩),.int .i64 (m:Int)] w fun e w'=>e=.returned (.bool true)∧∃ c',Wv κ c' w' s' [] (got++g) ns∧Stc (fun j=>j≤6) c c' w w':=by
 have H:=Lib.hid h
 have HD:=Lib.hid hd
 clear h hd
 go_enter Tryz.func15,Tryz.ntmps15
 go_wp2_with fail
 go_loopw [5,6] (fun i _ wr=>∃ (k n1:Nat) (c1:Nat→Nat) (s1:Sg) (b1 g1 g2:List Nat),k+n1≤m∧i=.int .i64 (k:Int)∧Hid (Drain n1 s1 b1 s' g2)∧Hid (g1++g2=g)∧b1.length≤50000+4*k∧g1.length≤k∧Hid (Wv κ c1 wr s1 b1 (got++g1) ns)∧Hid (Stc (fun j=>j≤6) c c1 w wr)) (fun i _ _=>m-(intOf i).toNat)
 case atStart=>exact ⟨0,n,c,s,bag,[],g,by omega,rfl,HD,Lib.hid rfl,by omega,by simp,Lib.hid (by rw [List.append_nil];exact H.out),Lib.hid (Stc.refl (by decide) _ _)⟩
 case round =>
  obtain ⟨k,n1,c1,s1,b1,g1,g2,hk,rfl,HD1,Hg,hb1,hg1,HW,HS⟩:=hrel
  have HBg:=fun (W:World) (hW:Below wr.heap.size wr W)=>Lib.hid (wBag (HW.out.below hW) (by omega))
  by_cases hlt:k<m
  ·have hkm:(k:Int)<(m:Int):=by omega
   go_wp2_with fail
   refine (HBg _ (Below.refl _ _)).out.mono ?_
   rintro e w2 ⟨A,kk,rfl,hb2⟩
   have HW2:=Lib.hid (HW.out.below hb2)
   have HS2:Hid (Stc (fun j=>j≤6) c c1 w w2):=Lib.hid (HS.out.trans (Stc.of_only (by decide) (Only.new _ hb2) (fun _ _ _=>rfl)))
   clear HBg hb2 HW HS
   cases b1 with
   | nil =>
     have hd:=HD1.out
     cases hd
     have hg:=Hg.out
     rw [List.append_nil] at hg
     have HW3:=HW2.out
     rw [hg] at HW3
     have HW3:=Lib.hid HW3
     clear hg
     go_wp2_with fail
     go_ret
     exact ⟨rfl,c1,HW3.out,HS2.out⟩
   | cons t r =>
     obtain ⟨n2,sx,os,g3,HD2,hd1,hn2,hg2⟩:∃ n2 sx os g3,Hid (Drain n2 sx (r++os) s' g3)∧dOne s1 t=some (sx,os)∧Hid (n1=n2+1)∧Hid (g2=cnd (Nat.beq (dst t) 3) (t::g3) g3):=by
      cases HD1.out with
      | cons h1 h2=>exact ⟨_,_,_,_,Lib.hid h2,h1,Lib.hid rfl,Lib.hid rfl⟩
     have hol:os.length≤4:=by
      rcases jjt hd1 with q | q
      ·exact q.2.1
      ·rw [q.2.2];exact Nat.zero_le _
     have he:(((t::r).length:Int)==0)=false:=by rw [beq_eq_false_iff_ne];simp only [List.length_cons];omega
     have hz:decide (((t::r).length:Int)=0)=false:=decide_eq_false (by simp only [List.length_cons];omega)
     have HDo:Hid (Calls Tryz.prog 11 #[.pointer (some ⟨κ.gw,0,none⟩),.agg #[.int .i64 0,.int .i64 0,.int .i64 0,.int .i64 0,.int .i64 0,.int .i64 0,.int .i64 0,.int .i64 0,.int .i64 0,.int .i64 0,.int .i64 0,.int .i64 0,.int .i64 0,.int .i64 0,.int .i64 0,.int .i64 0,.int .i64 0,.int .i64 0,.string ⟨#[]⟩,.slice none 0 0,.int .i64 0,.string ⟨#[]⟩,.slice none 0 0,.string ⟨#[]⟩]] w2 fun e w'=>e=.returned (.int .i64 0)∧∃ c',Wv κ c' w' sx ((t::r).eraseIdx 0++os) ((got++g1)++cnd (Nat.beq (dst t) 3) [t] []) ns∧Stc (fun j=>j≤6) c1 c' w2 w'):=Lib.hid (wDeliver HW2.out 0 (by simp) rfl hd1 (by omega) (by simp;omega))
     clear hd1
     generalize hL:(t::r).length=L at *
     have HL:=Lib.hid hL
     clear hL
     go_wp2_with fail
     refine HDo.out.mono ?_
     rintro e w3 ⟨rfl,c3,hW3,hS3⟩
     have HW3:=Lib.hid hW3
     have HS3:=Lib.hid (HS2.out.trans hS3)
     clear hW3 hS3 HDo HS2 HW2
     go_wp2_with fail
     refine (num0_any w3).mono ?_
     rintro e w4 ⟨rfl,rfl⟩
     go_wp2_with fail
     go_roundw
     case rel =>
      refine ⟨k+1,n2,c3,sx,r++os,g1++cnd (Nat.beq (dst t) 3) [t] [],g3,by have:=hn2.out;omega,by go_num,HD2,Lib.hid ?_,?_,?_,Lib.hid ?_,HS3⟩
      ·rw [←Hg.out,hg2.out]
       cases Nat.beq (dst t) 3 with
       | true=>simp
       | false=>simp
      ·rw [List.length_append]
       have:=HL.out
       rw [List.length_cons] at this
       omega
      ·rw [List.length_append]
       cases Nat.beq (dst t) 3 with
       | true=>simp;omega
       | false=>simp;omega
      ·have:=HW3.out
       rw [List.append_assoc] at this
       exact this
     case measure=>simp [intOf];omega
  ·have hkm:¬(k:Int)<(m:Int):=by omega
   have hn0:n1=0:=by omega
   subst hn0
   have hd:=HD1.out
   cases hd
   have hg:=Hg.out
   rw [List.append_nil] at hg
   have HW3:=HW.out
   rw [hg] at HW3
   have HW3:=Lib.hid HW3
   clear hg
   go_wp2_with fail
   refine (HBg _ (Below.refl _ _)).out.mono ?_
   rintro e w2 ⟨A,kk,rfl,hb2⟩
   have HW4:=Lib.hid (HW3.out.below hb2)
   have HS4:Hid (Stc (fun j=>j≤6) c c1 w w2):=Lib.hid (HS.out.trans (Stc.of_only (by decide) (Only.new _ hb2) (fun _ _ _=>rfl)))
   clear hb2
   go_wp2_with fail
   go_ret
   exact ⟨rfl,c1,HW4.out,HS4.out⟩
end
end
end Db
end
section
open Go.RowKit
namespace Db
open Ev
noncomputable section
section
variable {κ:Kp} {π:Pp} {c:Nat→Nat} {w:World} {N:Nat→HT} {bt:List Tm} {gs:List (Int×Tm)} {vg vs:Value} {tm:Int} {ns:Nat} {xs:List Value} {s:Sg} {bag got:List Nat} {s1 n seen:Int} {wm:Ms}
def jit (t:Tm):Prop:=∀ (κ:Kp) (c:Nat→Nat) (w:World) (N:Nat→HT) (bt:List Tm) (gs:List (Int×Tm)) (vg vs:Value) (tm:Int) (ns:Nat) (xs:List Value) (D:Nat→Prop) (A:Option Addr) (n k:Nat),Wd κ c w N bt gs vg vs tm ns xs→BatOk w D t.p A n k →
 Calls Tryz.prog 24 #[.pointer (some ⟨κ.gw,0,none⟩),actV (t.ms A n k)] w fun e w'=>e=.returned (.bool true)∧Below w.heap.size w w'
theorem actOk0 {t:Tm} (hk:t.k=0) (hto:t.to=0) (hm:MayOk t):jit t:=by
 intro κ c w N bt gs vg vs tm ns xs D A n k hW hb
 have h:=may_req hW t.fr t.vw t.nm t.at_ t.cm t.rd t.cl t.se t.nu t.co t.ag t.un (serB t.s) A n k (fun W hbW=>by
  have:=hm W D A n k (hb.below hbW)
  unfold msV Tm.ms at this
  simp only [hk,hto] at this
  exact this)
 unfold actV Tm.ms
 simp only [hk,hto]
 exact h
theorem actOk2 {t:Tm} (hk:t.k=2) (hto:t.to=0) (hm:MayOk t):jit t:=by
 intro κ c w N bt gs vg vs tm ns xs D A n k hW hb
 have h:=may_read hW t.fr t.vw t.nm t.at_ t.cm t.rd t.cl t.se t.nu t.co t.ag t.un (serB t.s) A n k (fun W hbW=>by
  have:=hm W D A n k (hb.below hbW)
  unfold msV Tm.ms at this
  simp only [hk,hto] at this
  exact this)
 unfold actV Tm.ms
 simp only [hk,hto]
 exact h
theorem wSend (h:Wv κ c w s bag got ns) (t:Nat) (ha:jit (tmN t)) {A:Option Addr} {nn kk:Nat} (hbt:BatOk w (fun b=>c b=8) (tmN t).p A nn kk) (hn:bag.length≤90000) (hns:ns≤90000) :
 Calls Tryz.prog 11 #[.pointer (some ⟨κ.gw,0,none⟩),actV ((tmN t).ms A nn kk)] w fun e w'=>e=.returned (.int .i64 0)∧∃ c',Wv κ c' w' s (bag++[t]) got (ns+1)∧Stc (fun j=>j≤6) c c' w w':=by
 obtain ⟨gs,vg,vs,tm,xs,h1,h2⟩:=h
 refine (do_send h2 (tmN t) _ A nn kk rfl hbt (by simp;omega) (by omega) fun W hW=>ha κ c W _ _ _ _ _ _ _ _ _ A nn kk (h2.below hW) (hbt.below hW)).mono ?_
 rintro e w' ⟨rfl,c',x,vs',xs',k1,k2⟩
 refine ⟨rfl,c',⟨gs,vg,vs',x,xs',h1,?_⟩,k2⟩
 rw [List.map_append]
 exact k1
set_option maxRecDepth 100000 in
set_option maxHeartbeats 2000000 in
theorem jkz (h:Wv κ c w s bag got ns) (hp:Py κ π c w s1 n seen wm) (t:Nat) (ha:jit (tmN t)) {A:Option Addr} {nn kk:Nat} (hwm:wm=(tmN t).ms A nn kk) (hbt:BatOk w (fun b=>c b=8) (tmN t).p A nn kk) (hnu:wm.nu≠0) (hto:wm.to=0) (hn:bag.length≤90000) (hns:ns≤90000) :
 Calls Tryz.prog 22 #[.pointer (some ⟨π.gy,0,none⟩),.int .i64 0,.int .i64 0,.int .i64 0] w fun e w'=>e=.returned (.tuple #[])∧∃ c',Wv κ c' w' s (bag++[t]) got (ns+1)∧Py κ π c' w' s1 n seen wm∧Stc (fun j=>j≤6) c c' w w':=by
 have hD:∀ W,Below w.heap.size w W→Calls Tryz.prog 11 #[.pointer (some ⟨κ.gw,0,none⟩),actV wm] W fun e w'=>e=.returned (.int .i64 0)∧∃ c',Wv κ c' w' s (bag++[t]) got (ns+1)∧Stc (fun j=>j≤6) c c' W w':=fun W hW=>by
  rw [hwm]
  exact wSend (h.below hW) t ha (hbt.below hW) hn hns
 have HP:=Lib.hid hp
 clear h hbt hp hwm
 obtain ⟨mk,mf,mt,mv,mn,ma,mc,mr,ml,mss,mu,mo,mg,mun,msr,mba,mbn,mbc⟩:=wm
 simp only at hto hnu
 subst hto
 unfold actV at hD
 simp only at hD
 have HD:=fun (W:World) (hW:Below w.heap.size w W)=>Lib.hid (hD W hW)
 have hnu':(mu==0)=false:=beq_eq_false_iff_ne.2 hnu
 have y4:w.cell? ⟨π.gy,4,none⟩=some (.slice (some ⟨π.gt,0,none⟩) 1 1):=HP.out.y.cell 4
 have t10:w.cell? ⟨π.gt,10,none⟩=some (.int .i64 mu):=HP.out.tt.cell 10
 have HX:Hid (w.rangeAt π.gt 0 (msC ⟨mk,mf,0,mv,mn,ma,mc,mr,ml,mss,mu,mo,mg,mun,msr,mba,mbn,mbc⟩)):=Lib.hid (HP.out.tt.rangeOf 0 20 _ rfl)
 have hyl:π.gy<w.heap.size:=HP.out.y.lt
 clear hD hnu
 go_enter Tryz.func22,Tryz.ntmps22
 go_wp2_with (first
  | (refine wpList_load_mid (op:=⟨some 101,.load 39 (.tmp 100),_,_,_,_⟩) rfl 39 (.tmp 100) rfl π.gt 0 (by rfl) (msC ⟨mk,mf,0,mv,mn,ma,mc,mr,ml,mss,mu,mo,mg,mun,msr,mba,mbn,mbc⟩) _ HX.out Tryz.underlying39 rfl jaj ?_)
  | (refine jap (o:=⟨none,.store 39 (.tmp 9) (.tmp 101),_,_,_,_⟩) rfl 39 (.tmp 9) (.tmp 101) rfl w.heap.size #[.int .i64 mk,.int .i64 mf,.int .i64 0,.int .i64 mv,.int .i64 mn,.int .i64 ma,.int .i64 mc,.int .i64 mr,.int .i64 ml,.int .i64 mss,.int .i64 mu,.int .i64 mo,.int .i64 mg,.int .i64 mun,.string msr,.slice mba mbn mbc,.int .i64 0,.string ⟨#[]⟩,.slice none 0 0,.string ⟨#[]⟩] (by rfl) (by rfl) _ _ (Blk.new w 39 #[.int .i64 0,.int .i64 0,.int .i64 0,.int .i64 0,.int .i64 0,.int .i64 0,.int .i64 0,.int .i64 0,.int .i64 0,.int .i64 0,.int .i64 0,.int .i64 0,.int .i64 0,.int .i64 0,.string ⟨#[]⟩,.slice none 0 0,.int .i64 0,.string ⟨#[]⟩,.slice none 0 0,.string ⟨#[]⟩]) (by rfl) jaj (by simp [Value.oneCell']) ?_;intro w3 HM3 ho3 hs3;refine Hid.out ?_))
 have h13:Below w.heap.size w w3:=((Below.refl _ _).alloc (Nat.le_refl _) (.cells #[.int .i64 0,.int .i64 0,.int .i64 0,.int .i64 0,.int .i64 0,.int .i64 0,.int .i64 0,.int .i64 0,.int .i64 0,.int .i64 0,.int .i64 0,.int .i64 0,.int .i64 0,.int .i64 0,.string ⟨#[]⟩,.slice none 0 0,.int .i64 0,.string ⟨#[]⟩,.slice none 0 0,.string ⟨#[]⟩] 39)).trans (ho3.below (B:=w.heap.size) (fun k hk q=>by omega) (by simp))
 have HM3:=Lib.hid HM3
 have HB3:=Lib.hid h13
 clear ho3 hs3 h13 HX y4 t10
 have b2:w3.cell? ⟨w.heap.size,2,none⟩=some (.int .i64 0):=HM3.out.cell 2
 have f2:=HM3.out.frozen 2
 refine Lib.hid ?_
 go_wp2_with fail
 have HM4:Hid (Blk (w3.setCell ⟨w.heap.size,2,none⟩ (.int .i64 0)) w.heap.size 39 #[.int .i64 mk,.int .i64 mf,.int .i64 0,.int .i64 mv,.int .i64 mn,.int .i64 ma,.int .i64 mc,.int .i64 mr,.int .i64 ml,.int .i64 mss,.int .i64 mu,.int .i64 mo,.int .i64 mg,.int .i64 mun,.string msr,.slice mba mbn mbc,.int .i64 0,.string ⟨#[]⟩,.slice none 0 0,.string ⟨#[]⟩]):=HM3.out.set_ 2 _
 have HB4:=Lib.hid (HB3.out.setCell (p:=⟨w.heap.size,2,none⟩) (Nat.le_refl _) (.int .i64 0))
 clear HM3 HB3 b2 f2
 generalize w3.setCell ⟨w.heap.size,2,none⟩ (.int .i64 0)=w4 at *
 have HP4:=Lib.hid (HP.out.below HB4.out)
 have HBd:Hid (Below w.heap.size w w4.drew):=Lib.hid (HB4.out.drew)
 refine jan (S:=(fun W=>W.cell? ⟨π.gy,0,none⟩=some (.pointer (some ⟨κ.gw,0,none⟩))∧Blk W w.heap.size 39 #[.int .i64 mk,.int .i64 mf,.int .i64 0,.int .i64 mv,.int .i64 mn,.int .i64 ma,.int .i64 mc,.int .i64 mr,.int .i64 ml,.int .i64 mss,.int .i64 mu,.int .i64 mo,.int .i64 mg,.int .i64 mun,.string msr,.slice mba mbn mbc,.int .i64 0,.string ⟨#[]⟩,.slice none 0 0,.string ⟨#[]⟩])) [6] (by kernel_rfl) ?_ (fun hHeld=>?_)
 ·exact ⟨HP4.out.y.cell 0,HM4.out⟩
 refine tK 0 104 (v:=?_) rfl ?_ ?_;rotate_left 1;(focus intro w hSw;(try dsimp only at hSw);go_simp;try with_reducible rfl);try simp only [Act.put,zsA,zsB,zsC]
 refine tK 1 105 (v:=?_) rfl ?_ ?_;rotate_left 1;(focus intro w hSw;(try dsimp only at hSw);go_simp;try with_reducible rfl);try simp only [Act.put,zsA,zsB,zsC]
 refine tK 2 106 (v:=?_) rfl ?_ ?_;rotate_left 1;(focus intro w hSw;(try dsimp only at hSw);go_simp;try with_reducible rfl);try simp only [Act.put,zsA,zsB,zsC]
 refine tK 3 107 (v:=?_) rfl ?_ ?_;rotate_left 1;(focus intro w hSw;(try dsimp only at hSw);go_simp;try with_reducible rfl);try simp only [Act.put,zsA,zsB,zsC]
 refine jaw (i:=4) (oi:=⟨some 108,_,_,_,_,_⟩) rfl (by kernel_rfl) (fun _ _ _ h=>h) (jaz (by rfl) 39 (.tmp 9) rfl w.heap.size 0 (by rfl) 39 #[.int .i64 mk,.int .i64 mf,.int .i64 0,.int .i64 mv,.int .i64 mn,.int .i64 ma,.int .i64 mc,.int .i64 mr,.int .i64 ml,.int .i64 mss,.int .i64 mu,.int .i64 mo,.int .i64 mg,.int .i64 mun,.string msr,.slice mba mbn mbc,.int .i64 0,.string ⟨#[]⟩,.slice none 0 0,.string ⟨#[]⟩] [.int .i64 mk,.int .i64 mf,.int .i64 0,.int .i64 mv,.int .i64 mn,.int .i64 ma,.int .i64 mc,.int .i64 mr,.int .i64 ml,.int .i64 mss,.int .i64 mu,.int .i64 mo,.int .i64 mg,.int .i64 mun,.string msr,.slice mba mbn mbc,.int .i64 0,.string ⟨#[]⟩,.slice none 0 0,.string ⟨#[]⟩] _ (fun _ h=>h.2) rfl Tryz.underlying39 rfl jaj) (by assumption) ?_
 try simp only [Act.put,zsA,zsB,zsC]
 refine tK 5 109 (v:=?_) rfl ?_ ?_;rotate_left 1;(focus intro w hSw;(try dsimp only at hSw);go_simp;try with_reducible rfl);try simp only [Act.put,zsA,zsB,zsC]
 refine jah (i:=6) (o:=⟨some 110,_,_,_,_,_⟩) (by kernel_rfl) rfl (fun K' hK=>?_)
 go_simp
 ((with_reducible refine (HD _ HBd.out).out.mono ?_);rintro e w5 ⟨rfl,c5,hW5,hS5⟩)
 go_wp2_with fail
 refine hK.out _ _ (fun h=>absurd h (by decide)) (fun _=>?_)
 clear hK K'
 try simp only [Act.put,zsA,zsB,zsC]
 refine jao (by kernel_rfl) ?_ _
 have HW5:=Lib.hid hW5
 have HS5:=Lib.hid hS5
 clear hW5 hS5 HD
 go_wp2_with fail
 go_end0
 have k1:Stc (fun j=>j≤6) c c w w4.drew:=Stc.of_only (by decide) (Only.new _ HBd.out) (fun _ _ _=>rfl)
 exact ⟨rfl,c5,HW5.out,HP.out.stc (k1.trans HS5.out) (by decide),k1.trans HS5.out⟩
end
end
end Db
end
end Go.Proofs.YtcchekmejnhlmaaGreat
