/- Joined texts. -/
import Derived.Test.YtcchekmejnhlmaaGreatK14
import Derived.Test.YtcchekmejnhlmaaGreatK15
import Derived.KernelRfl
namespace Go.Proofs.YtcchekmejnhlmaaGreat
set_option linter.unusedVariables false
set_option maxHeartbeats 4000000
section
open Go.RowKit
namespace Db
open Ev
noncomputable section
section
variable {κ:Kp} {π:Pp} {c:Nat→Nat} {w w':World} {s n seen:Int} {wm m':Ms}
theorem Py.setSeen (h:Py κ π c w s n seen wm) (x:Int):Py κ π c (w.setCell ⟨π.gy,5,none⟩ (.int .i64 x)) s n x wm :=
 ⟨h.y.set_ 5 _,h.ss.far (p:=⟨π.gy,5,none⟩) (fun q=>h.n1 q.symm) _,h.nn.far (p:=⟨π.gy,5,none⟩) (fun q=>h.n2 q.symm) _,h.tt.far (p:=⟨π.gy,5,none⟩) (fun q=>h.n3 q.symm) _,h.cy,h.cs,h.cn,h.ct,h.n1,h.n2,h.n3,h.n4,h.n5,h.n6⟩
theorem Py.setSess (h:Py κ π c w s n seen wm) (x:Int):Py κ π c (w.setCell ⟨π.gs,0,none⟩ (.int .i64 x)) x n seen wm :=
 ⟨h.y.far (p:=⟨π.gs,0,none⟩) h.n1 _,h.ss.set_ 0 _,h.nn.far (p:=⟨π.gs,0,none⟩) (fun q=>h.n4 q.symm) _,h.tt.far (p:=⟨π.gs,0,none⟩) (fun q=>h.n5 q.symm) _,h.cy,h.cs,h.cn,h.ct,h.n1,h.n2,h.n3,h.n4,h.n5,h.n6⟩
theorem Py.setNum (h:Py κ π c w s n seen wm) (x:Int):Py κ π c (w.setCell ⟨π.gn,0,none⟩ (.int .i64 x)) s x seen wm :=
 ⟨h.y.far (p:=⟨π.gn,0,none⟩) h.n2 _,h.ss.far (p:=⟨π.gn,0,none⟩) h.n4 _,h.nn.set_ 0 _,h.tt.far (p:=⟨π.gn,0,none⟩) (fun q=>h.n6 q.symm) _,h.cy,h.cs,h.cn,h.ct,h.n1,h.n2,h.n3,h.n4,h.n5,h.n6⟩
theorem Py.setWait (h:Py κ π c w s n seen wm) (hb:Bx w' π.gt #[.int .i64 m'.k,.int .i64 m'.fr,.int .i64 m'.to,.int .i64 m'.vw,.int .i64 m'.nm,.int .i64 m'.at_,.int .i64 m'.cm,.int .i64 m'.rd,.int .i64 m'.cl,.int .i64 m'.se,.int .i64 m'.nu,.int .i64 m'.co,.int .i64 m'.ag,.int .i64 m'.un,.string m'.sr,.slice m'.ba m'.bn m'.bc,.int .i64 0,.string ⟨#[]⟩,.slice none 0 0,.string ⟨#[]⟩]) (ho:Only (fun k=>k=π.gt) w w'):Py κ π c w' s n seen m' :=
 ⟨h.y.only ho h.n3,h.ss.only ho h.n5,h.nn.only ho h.n6,hb,h.cy,h.cs,h.cn,h.ct,h.n1,h.n2,h.n3,h.n4,h.n5,h.n6⟩
def hF (π:Pp) (k:Nat):Prop:=k=π.gy∨k=π.gs∨k=π.gt
def seenOf (π:Pp) (w:World):Nat:=match w.cell? ⟨π.gy,5,none⟩ with | some v=>(intOf v).toNat | none=>0
theorem Py.seenOf (h:Py κ π c w s n seen wm):seenOf π w=seen.toNat:=by
 unfold Db.seenOf
 rw [show w.cell? ⟨π.gy,5,none⟩=some (.int .i64 seen) from h.y.cell 5]
 rfl
end
section
variable {κ:Kp} {π:Pp} {c:Nat→Nat} {w:World} {N:Nat→HT} {bag:List Tm} {gs:List (Int×Tm)} {vg vs:Value} {tm:Int} {ns:Nat} {xs:List Value} {s n s':Int} {wm wm':Ms}
set_option maxRecDepth 100000 in
set_option maxHeartbeats 4000000 in
theorem hear_any (h:Wd κ c w N bag gs vg vs tm ns xs) {k0:Nat} (hp:Py κ π c w s n (k0:Int) wm) (hk0:k0≤gs.length) (hok:∀ t∈(gs.map (·.2)).drop k0,t.to=100∧t.co=0) (H:Hear s wm ((gs.map (·.2)).drop k0) s' wm') (hn:gs.length≤100000) :
 Calls Tryz.prog 23 #[.pointer (some ⟨π.gy,0,none⟩)] w fun e w'=>e=.returned (.tuple #[])∧Py κ π c w' s' n (gs.length:Int) wm'∧Only (hF π) w w':=by
 have y0:w.cell? ⟨π.gy,0,none⟩=some (.pointer (some ⟨κ.gw,0,none⟩)):=hp.y.cell 0
 have HG:=Lib.hid (got_any h hn)
 have HP:=Lib.hid hp
 have HH:=Lib.hid H
 have HOk:=Lib.hid hok
 clear h hp H hok
 go_enter Tryz.func23,Tryz.ntmps23
 go_wp2_with fail
 refine HG.out.mono ?_
 rintro e w1 ⟨v,rfl,hown,hb1⟩
 obtain ⟨A,cap,rfl,_,_⟩:=jar hown
 have HO:=Lib.hid hown
 have HP1:=Lib.hid (HP.out.below hb1)
 have Hb1:=Lib.hid hb1
 have hly:π.gy<w.heap.size:=HP.out.y.lt
 have hls:π.gs<w.heap.size:=HP.out.ss.lt
 have hlt':π.gt<w.heap.size:=HP.out.tt.lt
 have hFl:∀ q,hF π q→q<w.heap.size:=by rintro q (rfl | rfl | rfl)<;>assumption
 have HFl:=Lib.hid hFl
 clear hown hb1 HP HG y0 hFl
 go_wp2_with fail
 go_loopw [3,4] (fun _ _ wr=>∃ (k:Nat) (s1:Int) (m1:Ms),k≤gs.length∧Hid (Py κ π c wr s1 n (k:Int) m1)∧Hid (Hear s1 m1 ((gs.map (·.2)).drop k) s' wm')∧k0≤k∧Hid (Only (hF π) w1 wr)) (fun _ _ wr=>gs.length-seenOf π wr)
 case atStart=>exact ⟨k0,s,wm,hk0,HP1,HH,Nat.le_refl _,Lib.hid (Only.refl _ _)⟩
 case round =>
  obtain ⟨k,s1,m1,hk,HPr,HHr,hkk,HOr⟩:=hrel
  have Hs0:Hid (seenOf π wr=k):=Lib.hid (by have:=HPr.out.seenOf;rwa [Int.toNat_natCast] at this)
  have y5:wr.cell? ⟨π.gy,5,none⟩=some (.int .i64 (k:Int)):=HPr.out.y.cell 5
  have f5:wr.frozen? ⟨π.gy,5,none⟩=false:=HPr.out.y.frozen 5 (by simp)
  by_cases hlt:k<gs.length
  ·have hkn:(k:Int)<(gs.length:Int):=by omega
   have hki:(0:Int)≤(k:Int):=by omega
   obtain ⟨gb,rfl,hgb,_⟩:=jcr HO.out (by omega)
   have hcap:=jer HO.out
   obtain ⟨x,hx⟩:∃ x,(gs.map (·.2))[k]? =some x:=⟨_,List.getElem?_eq_getElem (by simpa using hlt)⟩
   have hdr:(gs.map (·.2)).drop k=x::(gs.map (·.2)).drop (k+1):=by
    obtain ⟨h1,h2⟩:=List.getElem?_eq_some_iff.1 hx
    rw [←h2];exact List.drop_eq_getElem_cons h1
   have hxo:x.to=100∧x.co=0:=HOk.out x (by
    rw [show (gs.map (·.2)).drop k0=((gs.map (·.2)).drop k0) from rfl]
    refine List.mem_of_getElem? (i:=k-k0) ?_
    rw [List.getElem?_drop,show k0+(k-k0)=k from by omega];exact hx)
   have hH:=HHr.out
   rw [hdr] at hH
   obtain ⟨m,hme⟩:∃ m:Ms,x.ms none 0 0=m:=⟨_,rfl⟩
   have hmb:m.ba=none∧m.bn=0∧m.bc=0∧m.to=100∧m.co=0∧m.k=x.k∧m.se=x.se∧m.nu=x.nu:=by rw [←hme];exact ⟨rfl,rfl,rfl,hxo.1,hxo.2,rfl,rfl,rfl⟩
   have hX:wr.rangeAt gb (k*20) (msC m):=by
    intro j u hj
    rw [HOr.out.cell (p:=⟨gb,k*20+j,none⟩) (jcf HO.out (g:=gb) rfl).2 (fun q=>by have:=HFl.out _ q;show False;have:gb<w.heap.size:=HFl.out _ q;omega)]
    refine jdj HO.out ?_
    have:=jbz cliC 20 (fun _=>rfl) (gs.map (·.2)) k j (by simpa using hlt) ((List.getElem?_eq_some_iff.1 hj).1)
    rw [this,(List.getElem?_eq_some_iff.1 hx).2]
    unfold cliC;rw [hme];exact hj
   have HX:=Lib.hid hX
   have HHx:=Lib.hid hH
   clear hX hH hx hdr hme hxo
   obtain ⟨mk,mf,mt,mv,mn,ma,mc,mr,ml,mss,mu,mo,mg,mun,msr,mba,mbn,mbc⟩:=m
   simp only at hmb
   obtain ⟨rfl,rfl,rfl,rfl,rfl,ek,es,eu⟩:=hmb
   have HE:=Lib.hid (And.intro ek (And.intro es eu))
   clear ek es eu
   go_wp2_with (first
    | (refine wpList_load_mid (op:=⟨some 23,.load 39 (.tmp 22),_,_,_,_⟩) rfl 39 (.tmp 22) rfl gb (k*20) (by rfl) (msC ⟨mk,mf,100,mv,mn,ma,mc,mr,ml,mss,mu,0,mg,mun,msr,none,0,0⟩) _ HX.out Tryz.underlying39 rfl jaj ?_)
    | (refine jap (o:=⟨none,.store 39 (.tmp 3) (.tmp 23),_,_,_,_⟩) rfl 39 (.tmp 3) (.tmp 23) rfl wr.heap.size #[.int .i64 mk,.int .i64 mf,.int .i64 100,.int .i64 mv,.int .i64 mn,.int .i64 ma,.int .i64 mc,.int .i64 mr,.int .i64 ml,.int .i64 mss,.int .i64 mu,.int .i64 0,.int .i64 mg,.int .i64 mun,.string msr,.slice none 0 0,.int .i64 0,.string ⟨#[]⟩,.slice none 0 0,.string ⟨#[]⟩] (by rfl) (by rfl) _ _ (Blk.new wr 39 #[.int .i64 0,.int .i64 0,.int .i64 0,.int .i64 0,.int .i64 0,.int .i64 0,.int .i64 0,.int .i64 0,.int .i64 0,.int .i64 0,.int .i64 0,.int .i64 0,.int .i64 0,.int .i64 0,.string ⟨#[]⟩,.slice none 0 0,.int .i64 0,.string ⟨#[]⟩,.slice none 0 0,.string ⟨#[]⟩]) (by rfl) jaj (by simp [Value.oneCell']) ?_;intro w3 HM3 ho3 hs3;refine Hid.out ?_))
   have h13:Below wr.heap.size wr w3:=((Below.refl _ _).alloc (Nat.le_refl _) (.cells #[.int .i64 0,.int .i64 0,.int .i64 0,.int .i64 0,.int .i64 0,.int .i64 0,.int .i64 0,.int .i64 0,.int .i64 0,.int .i64 0,.int .i64 0,.int .i64 0,.int .i64 0,.int .i64 0,.string ⟨#[]⟩,.slice none 0 0,.int .i64 0,.string ⟨#[]⟩,.slice none 0 0,.string ⟨#[]⟩] 39)).trans (ho3.below (B:=wr.heap.size) (fun k hk q=>by omega) (by simp))
   have HM3:=Lib.hid HM3
   have HP3:=Lib.hid (HPr.out.below h13)
   have HO3:=Lib.hid (HOr.out.trans (Only.new (fun _=>False) h13) (fun _ _ q=>q.elim))
   have hyl:π.gy<wr.heap.size:=HPr.out.y.lt
   clear h13 ho3 hs3 HX HPr HOr y5 f5
   have y5:w3.cell? ⟨π.gy,5,none⟩=some (.int .i64 (k:Int)):=HP3.out.y.cell 5
   have f5:w3.frozen? ⟨π.gy,5,none⟩=false:=HP3.out.y.frozen 5 (by simp)
   have hne:wr.heap.size≠π.gy:=by omega
   have b2:w3.cell? ⟨wr.heap.size,2,none⟩=some (.int .i64 100):=HM3.out.cell 2
   refine Lib.hid ?_
   go_wp2_with fail
   have HP4:Hid (Py κ π c (w3.setCell ⟨π.gy,5,none⟩ (.int .i64 ((k:Int)+1))) s1 n ((k+1:Nat):Int) m1):=Lib.hid (HP3.out.setSeen _)
   have HM4:=Lib.hid (HM3.out.far (p:=⟨π.gy,5,none⟩) hne (.int .i64 ((k:Int)+1)))
   have HO4:=Lib.hid (HO3.out.setCell (p:=⟨π.gy,5,none⟩) (fun _=>.inl rfl) (.int .i64 ((k:Int)+1)))
   clear HP3 HM3 HO3 y5 f5 b2
   generalize w3.setCell ⟨π.gy,5,none⟩ (.int .i64 ((k:Int)+1))=w4 at *
   have y4:w4.cell? ⟨π.gy,4,none⟩=some (.slice (some ⟨π.gt,0,none⟩) 1 1):=HP4.out.y.cell 4
   have t0:w4.cell? ⟨π.gt,0,none⟩=some (.int .i64 m1.k):=HP4.out.tt.cell 0
   have t9:w4.cell? ⟨π.gt,9,none⟩=some (.int .i64 m1.se):=HP4.out.tt.cell 9
   have t10:w4.cell? ⟨π.gt,10,none⟩=some (.int .i64 m1.nu):=HP4.out.tt.cell 10
   have b0:w4.cell? ⟨wr.heap.size,0,none⟩=some (.int .i64 mk):=HM4.out.cell 0
   have b9:w4.cell? ⟨wr.heap.size,9,none⟩=some (.int .i64 mss):=HM4.out.cell 9
   have b10:w4.cell? ⟨wr.heap.size,10,none⟩=some (.int .i64 mu):=HM4.out.cell 10
   have b11:w4.cell? ⟨wr.heap.size,11,none⟩=some (.int .i64 0):=HM4.out.cell 11
   obtain ⟨mk1,ms1,mu1,hh1⟩:∃ a b c',Hid (m1.k=a∧m1.se=b∧m1.nu=c'):=⟨_,_,_,Lib.hid ⟨rfl,rfl,rfl⟩⟩
   rw [hh1.out.1] at t0
   rw [hh1.out.2.1] at t9
   rw [hh1.out.2.2] at t10
   cases HHx.out with
   | skip hnu hrest =>
     have e1:(mu==mu1)=false:=by rw [beq_eq_false_iff_ne,HE.out.2.2,←hh1.out.2.2];exact hnu
     have e2:(mu != mu1)=true:=by simp only [bne,e1];rfl
     go_quiet (fail)
     have HP5:=Lib.hid (HP4.out.below (jbc (Below.refl _ _) nq))
     have HM5:=Lib.hid (HM4.out.below (jbc (Below.refl _ _) nq) HM4.out.lt)
     have HO5:=Lib.hid (HO4.out.trans (Only.new (fun _=>False) (jbc (Below.refl _ _) nq)) (fun _ _ q=>q.elim))
     have HPf:=HP5
     go_wp2_with fail
     go_roundw
     case rel=>exact ⟨k+1,s1,m1,by omega,HP5,Lib.hid hrest,by omega,HO5⟩
     case measure =>
      have h1:=HPf.out.seenOf
      rw [Int.toNat_natCast] at h1
      rw [h1,Hs0.out];omega
   | opens a1 a2 a3 a4 a5 a6 hrest =>
     have e1:mu=mu1:=by rw [HE.out.2.2,a1,hh1.out.2.2]
     have e2:(mu1==0)=false:=by rw [beq_eq_false_iff_ne,←hh1.out.2.2];exact a2
     have e3:mk=1:=by rw [HE.out.1,a3]
     have e4:mk1=0:=by rw [←hh1.out.1,a4]
     have e5:ms1=0:=by rw [←hh1.out.2.1,a5]
     subst e1 e3 e4 e5 a6
     go_quiet (fail)
     have HP5:=Lib.hid (HP4.out.below (jbc (Below.refl _ _) nq))
     have HM5:=Lib.hid (HM4.out.below (jbc (Below.refl _ _) nq) HM4.out.lt)
     have HO5:=Lib.hid (HO4.out.trans (Only.new (fun _=>False) (jbc (Below.refl _ _) nq)) (fun _ _ q=>q.elim))
     clear HP4 HM4 HO4 y4 t0 t9 t10 b0 b9 b10 b11
     generalize w4.drewN nq=w5 at *
     have y2:w5.cell? ⟨π.gy,2,none⟩=some (.slice (some ⟨π.gs,0,none⟩) 1 1):=HP5.out.y.cell 2
     have y4:w5.cell? ⟨π.gy,4,none⟩=some (.slice (some ⟨π.gt,0,none⟩) 1 1):=HP5.out.y.cell 4
     have b0:w5.cell? ⟨wr.heap.size,0,none⟩=some (.int .i64 1):=HM5.out.cell 0
     have b9:w5.cell? ⟨wr.heap.size,9,none⟩=some (.int .i64 mss):=HM5.out.cell 9
     have s0:w5.cell? ⟨π.gs,0,none⟩=some (.int .i64 0):=HP5.out.ss.cell 0
     have g0:w5.frozen? ⟨π.gs,0,none⟩=false:=HP5.out.ss.frozen 0 (by simp)
     have t0:w5.cell? ⟨π.gt,0,none⟩=some (.int .i64 0):=(HP5.out.tt.cell 0).trans (congrArg (fun z=>some (Value.int .i64 z)) hh1.out.1)
     have t9:w5.cell? ⟨π.gt,9,none⟩=some (.int .i64 0):=(HP5.out.tt.cell 9).trans (congrArg (fun z=>some (Value.int .i64 z)) hh1.out.2.1)
     go_wp2_with fail
     have HP6:=Lib.hid (HP5.out.below (Below.refl _ _).drew)
     have y2d:w5.drew.cell? ⟨π.gy,2,none⟩=some (.slice (some ⟨π.gs,0,none⟩) 1 1):=y2
     have g0d:w5.drew.frozen? ⟨π.gs,0,none⟩=false:=g0
     refine jan (S:=(fun W=>W.cell? ⟨π.gy,2,none⟩=some (.slice (some ⟨π.gs,0,none⟩) 1 1)∧W.cell? ⟨wr.heap.size,9,none⟩=some (.int .i64 mss)∧W.cell? ⟨π.gs,0,none⟩=some (.int .i64 0))) [8] (by kernel_rfl) ?_ (fun hHeld=>?_)
     ·exact ⟨y2,b9,s0⟩
     refine tK 0 109 (v:=?_) rfl ?_ ?_;rotate_left 1;(focus intro w hSw;(try dsimp only at hSw);go_simp;try with_reducible rfl);try simp only [Act.put,zsA,zsB,zsC]
     refine tK 1 110 (v:=?_) rfl ?_ ?_;rotate_left 1;(focus intro w hSw;(try dsimp only at hSw);go_simp;try with_reducible rfl);try simp only [Act.put,zsA,zsB,zsC]
     refine tK 2 111 (v:=?_) rfl ?_ ?_;rotate_left 1;(focus intro w hSw;(try dsimp only at hSw);go_simp;try with_reducible rfl);try simp only [Act.put,zsA,zsB,zsC]
     refine tK 3 112 (v:=?_) rfl ?_ ?_;rotate_left 1;(focus intro w hSw;(try dsimp only at hSw);go_simp;try with_reducible rfl);try simp only [Act.put,zsA,zsB,zsC]
     refine tK 4 113 (v:=?_) rfl ?_ ?_;rotate_left 1;(focus intro w hSw;(try dsimp only at hSw);go_simp;try with_reducible rfl);try simp only [Act.put,zsA,zsB,zsC]
     refine tK 5 114 (v:=?_) rfl ?_ ?_;rotate_left 1;(focus intro w hSw;(try dsimp only at hSw);go_simp;try with_reducible rfl);try simp only [Act.put,zsA,zsB,zsC]
     refine tK 6 115 (v:=?_) rfl ?_ ?_;rotate_left 1;(focus intro w hSw;(try dsimp only at hSw);go_simp;try with_reducible rfl);try simp only [Act.put,zsA,zsB,zsC]
     refine tK 7 116 (v:=?_) rfl ?_ ?_;rotate_left 1;(focus intro w hSw;(try dsimp only at hSw);go_simp;try with_reducible rfl);try simp only [Act.put,zsA,zsB,zsC]
     refine jah (i:=8) (o:=⟨none,_,_,_,_,_⟩) (by kernel_rfl) rfl (fun K' hK=>?_)
     go_simp
     refine hK.out _ _ (fun h=>absurd h (by decide)) (fun _=>?_)
     clear hK K'
     try simp only [Act.put]
     refine jao (by kernel_rfl) ?_ _
     have HP7:Hid (Py κ π c ((w5.setCell ⟨π.gs,0,none⟩ (.int .i64 mss)).drew) mss n ((k+1:Nat):Int) m1):=Lib.hid ((HP5.out.setSess mss).below (Below.refl _ _).drew)
     have HO7:=Lib.hid ((HO5.out.setCell (p:=⟨π.gs,0,none⟩) (fun _=>.inr (.inl rfl)) (.int .i64 mss)).drew)
     clear y2 y4 b0 b9 s0 g0 t0 t9 y2d g0d HP6
     generalize (w5.setCell ⟨π.gs,0,none⟩ (.int .i64 mss)).drew=w7 at *
     have y4:w7.cell? ⟨π.gy,4,none⟩=some (.slice (some ⟨π.gt,0,none⟩) 1 1):=HP7.out.y.cell 4
     go_wp2_with (first
      | (refine jcj (o:=⟨none,.store 39 (.tmp 123) (.tmp 122),_,_,_,_⟩) rfl 39 (.tmp 123) (.tmp 122) rfl π.gt #[.int .i64 0,.int .i64 0,.int .i64 0,.int .i64 0,.int .i64 0,.int .i64 0,.int .i64 0,.int .i64 0,.int .i64 0,.int .i64 0,.int .i64 0,.int .i64 0,.int .i64 0,.int .i64 0,.string ⟨#[]⟩,.slice none 0 0,.int .i64 0,.string ⟨#[]⟩,.slice none 0 0,.string ⟨#[]⟩] (by rfl) (by rfl) _ HP7.out.tt (by rfl) jaj (by simp [Value.oneCell']) ?_;intro w8 HB8 ho8 _;refine Hid.out ?_))
     have HPf:Hid (Py κ π c w8 mss n ((k+1:Nat):Int) zMs):=Lib.hid (HP7.out.setWait (m':=zMs) HB8 ho8)
     have HOf:=Lib.hid (HO7.out.trans ho8 (fun j _ q=>.inr (.inr q)))
     clear HB8 ho8
     refine Lib.hid ?_
     go_wp2_with fail
     go_roundw
     case rel=>exact ⟨k+1,mss,zMs,by omega,HPf,Lib.hid (by have:=HE.out.2.1;rw [this];exact hrest),by omega,HOf⟩
     case measure =>
      have h1:=HPf.out.seenOf
      rw [Int.toNat_natCast] at h1
      rw [h1,Hs0.out];omega
   | reply a1 a2 a3 a4 a5 a6 hrest =>
     have e1:mu=mu1:=by rw [HE.out.2.2,a1,hh1.out.2.2]
     have e2:(mu1==0)=false:=by rw [beq_eq_false_iff_ne,←hh1.out.2.2];exact a2
     have e3:mk=1:=by rw [HE.out.1,a3]
     have e4:mk1=0:=by rw [←hh1.out.1,a4]
     have e5:(ms1==0)=false:=by rw [beq_eq_false_iff_ne,←hh1.out.2.1];exact a5
     have e6:mss=ms1:=by rw [HE.out.2.1,a6,hh1.out.2.1]
     subst e1 e3 e4 e6
     go_quiet (fail)
     have HP5:=Lib.hid (HP4.out.below (jbc (Below.refl _ _) nq))
     have HM5:=Lib.hid (HM4.out.below (jbc (Below.refl _ _) nq) HM4.out.lt)
     have HO5:=Lib.hid (HO4.out.trans (Only.new (fun _=>False) (jbc (Below.refl _ _) nq)) (fun _ _ q=>q.elim))
     clear HP4 HM4 HO4 y4 t0 t9 t10 b0 b9 b10 b11
     generalize w4.drewN nq=w5 at *
     have y2:w5.cell? ⟨π.gy,2,none⟩=some (.slice (some ⟨π.gs,0,none⟩) 1 1):=HP5.out.y.cell 2
     have y4:w5.cell? ⟨π.gy,4,none⟩=some (.slice (some ⟨π.gt,0,none⟩) 1 1):=HP5.out.y.cell 4
     have b0:w5.cell? ⟨wr.heap.size,0,none⟩=some (.int .i64 1):=HM5.out.cell 0
     have b9:w5.cell? ⟨wr.heap.size,9,none⟩=some (.int .i64 mss):=HM5.out.cell 9
     have s0:w5.cell? ⟨π.gs,0,none⟩=some (.int .i64 s1):=HP5.out.ss.cell 0
     have g0:w5.frozen? ⟨π.gs,0,none⟩=false:=HP5.out.ss.frozen 0 (by simp)
     have t0:w5.cell? ⟨π.gt,0,none⟩=some (.int .i64 0):=(HP5.out.tt.cell 0).trans (congrArg (fun z=>some (Value.int .i64 z)) hh1.out.1)
     have t9:w5.cell? ⟨π.gt,9,none⟩=some (.int .i64 mss):=(HP5.out.tt.cell 9).trans (congrArg (fun z=>some (Value.int .i64 z)) hh1.out.2.1)
     go_wp2_with fail
     go_quiet (fail)
     have HP6:=Lib.hid (HP5.out.below (jbc (Below.refl _ _) nq))
     have HO6:=Lib.hid (HO5.out.trans (Only.new (fun _=>False) (jbc (Below.refl _ _) nq)) (fun _ _ q=>q.elim))
     clear y2 y4 b0 b9 s0 g0 t0 t9 HP5 HO5 HM5
     generalize w5.drewN nq=w7 at *
     have y4:w7.cell? ⟨π.gy,4,none⟩=some (.slice (some ⟨π.gt,0,none⟩) 1 1):=HP6.out.y.cell 4
     go_wp2_with (first
      | (refine jcj (o:=⟨none,.store 39 (.tmp 173) (.tmp 172),_,_,_,_⟩) rfl 39 (.tmp 173) (.tmp 172) rfl π.gt #[.int .i64 0,.int .i64 0,.int .i64 0,.int .i64 0,.int .i64 0,.int .i64 0,.int .i64 0,.int .i64 0,.int .i64 0,.int .i64 0,.int .i64 0,.int .i64 0,.int .i64 0,.int .i64 0,.string ⟨#[]⟩,.slice none 0 0,.int .i64 0,.string ⟨#[]⟩,.slice none 0 0,.string ⟨#[]⟩] (by rfl) (by rfl) _ HP6.out.tt (by rfl) jaj (by simp [Value.oneCell']) ?_;intro w8 HB8 ho8 _;refine Hid.out ?_))
     have HPf:Hid (Py κ π c w8 s1 n ((k+1:Nat):Int) zMs):=Lib.hid (HP6.out.setWait (m':=zMs) HB8 ho8)
     have HOf:=Lib.hid (HO6.out.trans ho8 (fun j _ q=>.inr (.inr q)))
     clear HB8 ho8
     refine Lib.hid ?_
     go_wp2_with fail
     go_roundw
     case rel=>exact ⟨k+1,s1,zMs,by omega,HPf,Lib.hid hrest,by omega,HOf⟩
     case measure =>
      have h1:=HPf.out.seenOf
      rw [Int.toNat_natCast] at h1
      rw [h1,Hs0.out];omega
   | answer a1 a2 a3 a4 hrest =>
     have e1:mu=mu1:=by rw [HE.out.2.2,a1,hh1.out.2.2]
     have e2:(mu1==0)=false:=by rw [beq_eq_false_iff_ne,←hh1.out.2.2];exact a2
     have e3:mk=3:=by rw [HE.out.1,a3]
     have e4:mk1=2:=by rw [←hh1.out.1,a4]
     subst e1 e3 e4
     go_quiet (fail)
     have HP5:=Lib.hid (HP4.out.below (jbc (Below.refl _ _) nq))
     have HM5:=Lib.hid (HM4.out.below (jbc (Below.refl _ _) nq) HM4.out.lt)
     have HO5:=Lib.hid (HO4.out.trans (Only.new (fun _=>False) (jbc (Below.refl _ _) nq)) (fun _ _ q=>q.elim))
     clear HP4 HM4 HO4 y4 t0 t9 t10 b0 b9 b10 b11
     generalize w4.drewN nq=w5 at *
     have y2:w5.cell? ⟨π.gy,2,none⟩=some (.slice (some ⟨π.gs,0,none⟩) 1 1):=HP5.out.y.cell 2
     have y4:w5.cell? ⟨π.gy,4,none⟩=some (.slice (some ⟨π.gt,0,none⟩) 1 1):=HP5.out.y.cell 4
     have b0:w5.cell? ⟨wr.heap.size,0,none⟩=some (.int .i64 3):=HM5.out.cell 0
     have b9:w5.cell? ⟨wr.heap.size,9,none⟩=some (.int .i64 mss):=HM5.out.cell 9
     have s0:w5.cell? ⟨π.gs,0,none⟩=some (.int .i64 s1):=HP5.out.ss.cell 0
     have g0:w5.frozen? ⟨π.gs,0,none⟩=false:=HP5.out.ss.frozen 0 (by simp)
     have t0:w5.cell? ⟨π.gt,0,none⟩=some (.int .i64 2):=(HP5.out.tt.cell 0).trans (congrArg (fun z=>some (Value.int .i64 z)) hh1.out.1)
     have t9:w5.cell? ⟨π.gt,9,none⟩=some (.int .i64 ms1):=(HP5.out.tt.cell 9).trans (congrArg (fun z=>some (Value.int .i64 z)) hh1.out.2.1)
     go_wp2_with fail
     go_quiet (fail)
     have HP6:=Lib.hid (HP5.out.below (jbc (Below.refl _ _) nq))
     have HO6:=Lib.hid (HO5.out.trans (Only.new (fun _=>False) (jbc (Below.refl _ _) nq)) (fun _ _ q=>q.elim))
     clear y2 y4 b0 b9 s0 g0 t0 t9 HP5 HO5 HM5
     generalize w5.drewN nq=w7 at *
     have y4:w7.cell? ⟨π.gy,4,none⟩=some (.slice (some ⟨π.gt,0,none⟩) 1 1):=HP6.out.y.cell 4
     go_wp2_with (first
      | (refine jcj (o:=⟨none,.store 39 (.tmp 173) (.tmp 172),_,_,_,_⟩) rfl 39 (.tmp 173) (.tmp 172) rfl π.gt #[.int .i64 0,.int .i64 0,.int .i64 0,.int .i64 0,.int .i64 0,.int .i64 0,.int .i64 0,.int .i64 0,.int .i64 0,.int .i64 0,.int .i64 0,.int .i64 0,.int .i64 0,.int .i64 0,.string ⟨#[]⟩,.slice none 0 0,.int .i64 0,.string ⟨#[]⟩,.slice none 0 0,.string ⟨#[]⟩] (by rfl) (by rfl) _ HP6.out.tt (by rfl) jaj (by simp [Value.oneCell']) ?_;intro w8 HB8 ho8 _;refine Hid.out ?_))
     have HPf:Hid (Py κ π c w8 s1 n ((k+1:Nat):Int) zMs):=Lib.hid (HP6.out.setWait (m':=zMs) HB8 ho8)
     have HOf:=Lib.hid (HO6.out.trans ho8 (fun j _ q=>.inr (.inr q)))
     clear HB8 ho8
     refine Lib.hid ?_
     go_wp2_with fail
     go_roundw
     case rel=>exact ⟨k+1,s1,zMs,by omega,HPf,Lib.hid hrest,by omega,HOf⟩
     case measure =>
      have h1:=HPf.out.seenOf
      rw [Int.toNat_natCast] at h1
      rw [h1,Hs0.out];omega
  ·have hkn:¬(k:Int)<(gs.length:Int):=by omega
   have hke:k=gs.length:=by omega
   go_wp2_with fail
   go_end0
   subst hke
   have hd:(gs.map (·.2)).drop gs.length=[]:=List.drop_eq_nil_of_le (by simp)
   have hH:=HHr.out
   rw [hd] at hH
   cases hH
   exact ⟨rfl,HPr.out,(Only.new (hF π) Hb1.out).trans HOr.out (fun _ _ q=>q)⟩
end
end
end Db
end
section
open Go.RowKit
namespace Db
open Ev
noncomputable section
inductive Chg where
 | o (i:Nat) (x:Ob)
 | r (i n:Nat) (x:Bool) (l:List (Nat×Sc))
def tsetsL (dep:Nat) (l:List (Nat×Sc)) (t:T8 Sc):T8 Sc:=List.rec (motive:=fun _=>T8 Sc→T8 Sc) (fun t=>t) (fun p _ ih t=>T8.fc (tset dep t p.1 p.2) ih) l t
def hrow (H:HT) (i n:Nat) (x:Bool) (l:List (Nat×Sc)) (o:Ob):HT:=match o with
 | .row _ _ dep d t=>T8.fc (tsetsL dep l t) fun t=>hset H i (.row n x dep d t)
 | _=>H
def hch1 (c:Chg) (H:HT):HT:=Chg.rec (fun i x=>hset H i x) (fun i n x l=>hrow H i n x l (hget H i)) c
def hchs (l:List Chg) (H:HT):HT:=List.rec (motive:=fun _=>HT→HT) (fun H=>H) (fun c _ ih H=>T8.fc (hch1 c H) ih) l H
def rcvT (l:List Nat) (os:List Tm) (t:Tm) (H:HT):Option HT:=rcvK l os t.p (jim 50 [.c (.p 0 0),.a (t.sc (bSc t.p 4000))] (wH t.p H) 4001)
def bcvT (l:List Nat) (os:List Tm) (H:HT):Option HT:=rcvK l os none (jim 30 [.c (.p 0 0)] H 4001)
theorem rcv_of {i:Nat} {H K:HT} {t:Tm} {os:List Tm} {l:List Nat} (h:rcvT l os t H=some K) (h0:l.head? =some 0) (hb:Nat.ble l.length 4000=true) (hi:i<3):Rcv i H t K os :=
 fun c w p A n k hN hbt=>step_ok (margs:=[.a (t.sc (bSc t.p 4000))]) (cm:=[msV (t.ms A n k)]) h h0 hb hN (by omega) hbt fun G hG=>.cons (sc_ok t hG) .nil
def Bt (i:Nat) (H K:HT) (os:List Tm):Prop:=∀ (c:Nat→Nat) (w:World) (p:Nat),NodeAt c w i p H→Calls Tryz.prog 30 #[.pointer (some ⟨p,0,none⟩)] w (RcvPost c w i p K os)
theorem bt_of {i:Nat} {H K:HT} {os:List Tm} {l:List Nat} (h:bcvT l os H=some K) (h0:l.head? =some 0) (hb:Nat.ble l.length 4000=true) (hi:i<3):Bt i H K os :=
 fun c w p hN=>step_ok (margs:=[]) (cm:=[]) (A:=none) (n:=0) (k:=0) (q:=none) h h0 hb hN (by omega) ⟨rfl,rfl,rfl⟩ fun G hG=>.nil
end
end Db
end
end Go.Proofs.YtcchekmejnhlmaaGreat
