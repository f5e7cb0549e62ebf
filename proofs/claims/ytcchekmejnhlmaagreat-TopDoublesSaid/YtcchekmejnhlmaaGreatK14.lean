/- Joined texts. -/
import Derived.Test.YtcchekmejnhlmaaGreatK13
namespace Go.Proofs.YtcchekmejnhlmaaGreat
set_option linter.unusedVariables false
set_option maxHeartbeats 4000000
section
open Go.RowKit
namespace Db
open Ev
noncomputable section
def Rcv (i:Nat) (H:HT) (t:Tm) (K:HT) (os:List Tm):Prop:=∀ (c:Nat→Nat) (w:World) (p:Nat) (A:Option Addr) (n k:Nat),NodeAt c w i p H→BatOk w (fun b=>c b=8) t.p A n k →
 Calls Tryz.prog 50 #[.pointer (some ⟨p,0,none⟩),msV (t.ms A n k)] w (RcvPost c w i p K os)
def updN (N:Nat→HT) (i:Nat) (K:HT):Nat→HT:=fun j=>if j=i then K else N j
theorem updN_at (N:Nat→HT) (i:Nat) (K:HT):updN N i K i=K:=if_pos rfl
theorem updN_ne {N:Nat→HT} {i j:Nat} {K:HT} (h:j≠i):updN N i K j=N j:=if_neg h
theorem info_at:(Tryz.prog.info? 79).map (fun i=>(i.zero,i.size,i.bytes))=some (some (.agg #[.int .i64 0,.int .i64 0,.int .i64 0,.int .i64 0,.int .i64 0,.int .i64 0,.int .i64 0,.int .i64 0,.int .i64 0,.int .i64 0,.int .i64 0,.int .i64 0,.int .i64 0,.int .i64 0,.int .i64 0,.string ⟨#[]⟩,.slice none 0 0,.int .i64 0,.string ⟨#[]⟩,.slice none 0 0,.string ⟨#[]⟩]),21,224):=by kernel_rfl
section
variable {κ:Kp} {c:Nat→Nat} {w:World} {N:Nat→HT} {bag:List Tm} {gs:List (Int×Tm)} {vg vs:Value} {tm:Int} {ns:Nat} {xs:List Value}
set_option maxRecDepth 100000 in
set_option maxHeartbeats 2000000 in
theorem deliver_node (h:Wd κ c w N bag gs vg vs tm ns xs) (k:Nat) (hk:k<bag.length) (t:Tm) (ht:bag[k]=t) (i:Nat) (hi:i<3) (hto:t.to=(i:Int)) {K:HT} {os:List Tm} (hs:Rcv i (N i) t K os) (hn:bag.length+os.length≤99999) :
 Calls Tryz.prog 25 #[.pointer (some ⟨κ.gw,0,none⟩),.int .i64 (k:Int)] w fun e w'=>e=.returned (.tuple #[])∧∃ c',Wd κ c' w' (updN N i K) (bag.eraseIdx k++os) gs vg vs tm ns xs∧Stc (fun j=>j≤6) c c' w w':=by
 have c2:w.cell? ⟨κ.gw,2,none⟩=some (.pointer (some ⟨κ.gb,0,none⟩)):=h.st.cell 2
 have hT:=Lib.hid (bTake_any h.bg k hk (by omega))
 rw [ht] at hT
 have H:=Lib.hid h
 have Hs:=Lib.hid hs
 clear h hs
 go_enter Tryz.func25,Tryz.ntmps25
 go_wp2_with fail
 refine hT.out.mono ?_
 rintro e w1 ⟨m,c1,rfl,⟨A,n,cc,hme,hbt⟩,hB1,hC1⟩
 have hW1:Wd κ c1 w1 N (bag.eraseIdx k) gs vg vs tm ns xs:=H.out.part (hC1.stc (by decide)) (by decide) (by decide) (by decide) (by decide) hB1 (fun j hj=>(H.out.nd j hj).stc (hC1.stc (by decide)) (by omega) (by omega))
 have HW1:=Lib.hid hW1
 have HC1:=Lib.hid hC1
 have Hbt:=Lib.hid hbt
 have hmt:m.to=(i:Int):=by rw [hme];exact hto
 have Hme:=Lib.hid hme
 clear hW1 hB1 hC1 hbt hT c2 hme
 obtain ⟨mk,mf,mt,mv,mn,ma,mc,mr,ml,mss,mu,mo,mg,mun,msr,mba,mbn,mbc⟩:=m
 simp only at hmt
 subst hmt
 unfold msV
 simp only
 go_wp2_with (first
  | (refine jap (o:=⟨none,.store 39 (.tmp 4) (.tmp 14),_,_,_,_⟩) rfl 39 (.tmp 4) (.tmp 14) rfl w1.heap.size #[.int .i64 mk,.int .i64 mf,.int .i64 (i:Int),.int .i64 mv,.int .i64 mn,.int .i64 ma,.int .i64 mc,.int .i64 mr,.int .i64 ml,.int .i64 mss,.int .i64 mu,.int .i64 mo,.int .i64 mg,.int .i64 mun,.string msr,.slice mba mbn mbc,.int .i64 0,.string ⟨#[]⟩,.slice none 0 0,.string ⟨#[]⟩] (by rfl) (by rfl) _ _ (Blk.new w1 39 #[.int .i64 0,.int .i64 0,.int .i64 0,.int .i64 0,.int .i64 0,.int .i64 0,.int .i64 0,.int .i64 0,.int .i64 0,.int .i64 0,.int .i64 0,.int .i64 0,.int .i64 0,.int .i64 0,.string ⟨#[]⟩,.slice none 0 0,.int .i64 0,.string ⟨#[]⟩,.slice none 0 0,.string ⟨#[]⟩]) (by rfl) jaj (by simp [Value.oneCell']) ?_;intro w3 HM3 ho3 hs3;refine Hid.out ?_))
 have ha:Below w1.heap.size w1 w3:=((Below.refl _ _).alloc (Nat.le_refl _) (.cells #[.int .i64 0,.int .i64 0,.int .i64 0,.int .i64 0,.int .i64 0,.int .i64 0,.int .i64 0,.int .i64 0,.int .i64 0,.int .i64 0,.int .i64 0,.int .i64 0,.int .i64 0,.int .i64 0,.string ⟨#[]⟩,.slice none 0 0,.int .i64 0,.string ⟨#[]⟩,.slice none 0 0,.string ⟨#[]⟩] 39)).trans (ho3.below (B:=w1.heap.size) (fun k hk q=>by omega) (by simp))
 have HW3:=Lib.hid (HW1.out.below ha)
 have Hbt3:=Lib.hid (Hbt.out.below ha)
 have HC3:Hid (Ch 4 c c1 w w3):=Lib.hid (HC1.out.trans (Ch.below ha))
 have HM3:=Lib.hid HM3
 clear ho3 hs3 ha HW1 Hbt HC1
 refine Lib.hid ?_
 have c2:w3.cell? ⟨w1.heap.size,2,none⟩=some (.int .i64 (i:Int)):=HM3.out.cell 2
 have hup:=Lib.hid (up_any HW3.out i hi)
 go_wp2_with fail
 refine (msgClient_no (w:=w3) (i:Int) (by omega)).mono ?_
 rintro e w4 ⟨rfl,rfl⟩
 go_wp2_with fail
 refine hup.out.mono ?_
 rintro e w4 ⟨rfl,rfl⟩
 have hrc:=Hs.out c1 w3 (κ.P i) A n cc (HW3.out.nd i hi) Hbt3.out
 rw [←Hme.out] at hrc
 unfold msV at hrc
 simp only at hrc
 have hrc:=Lib.hid hrc
 go_wp2_with (first
  | (refine jba (o:=⟨some 42,.load 39 (.tmp 4),_,_,_,_⟩) rfl 39 (.tmp 4) rfl w1.heap.size (by rfl) _ _ _ HM3.out Tryz.underlying39 rfl jaj ?_))
 refine hrc.out.mono ?_
 rintro e w5 ⟨v,c5,rfl,s5,hN5,A5,cap5,ms5,rfl,hr5,hm5,hA5⟩
 have hW5:Wd κ c5 w5 (updN N i K) (bag.eraseIdx k) gs vg vs tm ns xs:=HW3.out.part s5 (by omega) (by omega) (by omega) (by omega) (HW3.out.bg.stc s5 (by omega)) (fun j hj=>by
  by_cases e:j=i
  ·subst e;rw [updN_at];exact hN5
  ·rw [updN_ne e];exact (HW3.out.nd j hj).stc s5 e (by omega))
 have hlen:(bag.eraseIdx k).length+os.length≤99999:=by rw [List.length_eraseIdx_of_lt hk];omega
 have hput:=Lib.hid (put_any (cap:=cap5) (hW5.st.cell 2) hW5.st.lt hW5.stc hW5.bg hr5 hm5 (fun h0 a ha=>by rcases hA5 h0 a ha with q | q<;>rw [q]<;>omega) hlen)
 have HW5:=Lib.hid hW5
 have S5:=Lib.hid s5
 clear hW5 s5 hN5 hr5 hm5 hA5 hrc hup HM3 c2
 go_wp2_with fail
 refine hput.out.mono ?_
 rintro e w6 ⟨rfl,c6,hB6,hC6⟩
 have s6:=hC6.stc (by decide)
 go_wp2_with fail
 go_end0
 refine ⟨rfl,c6,HW5.out.part s6 (by decide) (by decide) (by decide) (by decide) hB6 (fun j hj=>(HW5.out.nd j hj).stc s6 (by omega) (by omega)),?_⟩
 have k1:Stc (fun j=>j≤6) c c1 w w3:=(HC3.out.stc (by decide)).mono (by decide) (fun j q=>by omega)
 have k2:Stc (fun j=>j≤6) c1 c5 w3 w5:=S5.out.mono (by decide) (fun j q=>by omega)
 exact (k1.trans k2).trans (s6.mono (by decide) (fun j q=>by omega))
set_option maxRecDepth 100000 in
set_option maxHeartbeats 2000000 in
theorem jjb (h:Wd κ c w N bag gs vg vs tm ns xs) (k:Nat) (hk:k<bag.length) (t:Tm) (ht:bag[k]=t) (hto:t.to=100) (hp:t.p=none) (hn:bag.length≤99999) (hg:gs.length≤99999) :
 Calls Tryz.prog 25 #[.pointer (some ⟨κ.gw,0,none⟩),.int .i64 (k:Int)] w fun e w'=>e=.returned (.tuple #[])∧∃ c' vg',Wd κ c' w' N (bag.eraseIdx k) (gs++[(tm,t)]) vg' vs tm ns xs∧Stc (fun j=>j≤6) c c' w w':=by
 obtain ⟨i0,hi,hz0,hz1,hz2⟩:=info_parts info_at
 have c2:w.cell? ⟨κ.gw,2,none⟩=some (.pointer (some ⟨κ.gb,0,none⟩)):=h.st.cell 2
 have hT:=Lib.hid (bTake_any h.bg k hk (by omega))
 rw [ht] at hT
 have H:=Lib.hid h
 clear h
 go_enter Tryz.func25,Tryz.ntmps25
 go_wp2_with fail
 refine hT.out.mono ?_
 rintro e w1 ⟨m,c1,rfl,⟨A,n,cc,hme,hbt⟩,hB1,hC1⟩
 rw [hp] at hbt
 obtain ⟨rfl,rfl,rfl⟩:=hbt
 have hW1:Wd κ c1 w1 N (bag.eraseIdx k) gs vg vs tm ns xs:=H.out.part (hC1.stc (by decide)) (by decide) (by decide) (by decide) (by decide) hB1 (fun j hj=>(H.out.nd j hj).stc (hC1.stc (by decide)) (by omega) (by omega))
 have HW1:=Lib.hid hW1
 have HC1:=Lib.hid hC1
 have hmt:m.to=100:=by rw [hme];exact hto
 have hmb:m.ba=none∧m.bn=0∧m.bc=0:=by rw [hme];exact ⟨rfl,rfl,rfl⟩
 have hgc:gotC (tm,t)=.int .i64 tm::msC m:=by rw [hme];rfl
 have Hgc:=Lib.hid hgc
 clear hW1 hB1 hC1 hT c2 hme hgc
 obtain ⟨mk,mf,mt,mv,mn,ma,mc,mr,ml,mss,mu,mo,mg,mun,msr,mba,mbn,mbc⟩:=m
 simp only at hmt hmb
 obtain ⟨rfl,rfl,rfl⟩:=hmb
 subst hmt
 unfold msV
 simp only
 go_wp2_with (first
  | (refine jap (o:=⟨none,.store 39 (.tmp 4) (.tmp 14),_,_,_,_⟩) rfl 39 (.tmp 4) (.tmp 14) rfl w1.heap.size #[.int .i64 mk,.int .i64 mf,.int .i64 100,.int .i64 mv,.int .i64 mn,.int .i64 ma,.int .i64 mc,.int .i64 mr,.int .i64 ml,.int .i64 mss,.int .i64 mu,.int .i64 mo,.int .i64 mg,.int .i64 mun,.string msr,.slice none 0 0,.int .i64 0,.string ⟨#[]⟩,.slice none 0 0,.string ⟨#[]⟩] (by rfl) (by rfl) _ _ (Blk.new w1 39 #[.int .i64 0,.int .i64 0,.int .i64 0,.int .i64 0,.int .i64 0,.int .i64 0,.int .i64 0,.int .i64 0,.int .i64 0,.int .i64 0,.int .i64 0,.int .i64 0,.int .i64 0,.int .i64 0,.string ⟨#[]⟩,.slice none 0 0,.int .i64 0,.string ⟨#[]⟩,.slice none 0 0,.string ⟨#[]⟩]) (by rfl) jaj (by simp [Value.oneCell']) ?_;intro w3 HM3 ho3 hs3;refine Hid.out ?_))
 have ha:Below w1.heap.size w1 w3:=((Below.refl _ _).alloc (Nat.le_refl _) (.cells #[.int .i64 0,.int .i64 0,.int .i64 0,.int .i64 0,.int .i64 0,.int .i64 0,.int .i64 0,.int .i64 0,.int .i64 0,.int .i64 0,.int .i64 0,.int .i64 0,.int .i64 0,.int .i64 0,.string ⟨#[]⟩,.slice none 0 0,.int .i64 0,.string ⟨#[]⟩,.slice none 0 0,.string ⟨#[]⟩] 39)).trans (ho3.below (B:=w1.heap.size) (fun k hk q=>by omega) (by simp))
 have HW3:=Lib.hid (HW1.out.below ha)
 have HC3:Hid (Ch 4 c c1 w w3):=Lib.hid (HC1.out.trans (Ch.below ha))
 have HM3:=Lib.hid HM3
 clear ho3 hs3 ha HC1
 refine Lib.hid ?_
 have c2:w3.cell? ⟨w1.heap.size,2,none⟩=some (.int .i64 100):=HM3.out.cell 2
 have Hs3:Hid (w1.heap.size<w3.heap.size):=Lib.hid HM3.out.lt
 have Hgl:Hid (κ.gw<w1.heap.size):=Lib.hid HW1.out.st.lt
 go_wp2_with fail
 refine (jdm (w:=w3) 100 (by omega) (by omega)).mono ?_
 rintro e w4 ⟨rfl,rfl⟩
 go_wp2_with fail
 have hvl:∀ q,vg.ownBlock=some q→q<w1.heap.size:=fun q hq=>(jcf HW1.out.gt hq).2
 have hvg:∀ q,vg.ownBlock=some q→q≠κ.gw:=fun q hq e=>by
  have:=HW1.out.gtc q hq
  rw [e,HW1.out.stc] at this;cases this
 have HS:Hid (∀ W,Only (fun q=>vg.ownBlock=some q) w3 W→W.cell? ⟨κ.gw,3,none⟩=some vg∧W.cell? ⟨κ.gw,5,none⟩=some (.int .i64 tm)∧Blk W w1.heap.size 39 #[.int .i64 mk,.int .i64 mf,.int .i64 100,.int .i64 mv,.int .i64 mn,.int .i64 ma,.int .i64 mc,.int .i64 mr,.int .i64 ml,.int .i64 mss,.int .i64 mu,.int .i64 mo,.int .i64 mg,.int .i64 mun,.string msr,.slice none 0 0,.int .i64 0,.string ⟨#[]⟩,.slice none 0 0,.string ⟨#[]⟩]):=Lib.hid (fun W ho=>by
  have hb:=HW3.out.st.only ho (fun q=>hvg _ q rfl)
  exact ⟨hb.cell 3,hb.cell 5,HM3.out.only ho (fun q=>by have:=hvl _ q;omega)⟩)
 obtain ⟨Ag,cg,rfl,_,_⟩:=jar HW3.out.gt
 have Hvl:=Lib.hid hvl
 have Hvg:=Lib.hid hvg
 have HGT:=Lib.hid (jhr HW3.out.gt)
 clear hvl hvg
 refine jan (S:=(fun W=>W.cell? ⟨κ.gw,3,none⟩=some (.slice Ag gs.length cg)∧W.cell? ⟨κ.gw,5,none⟩=some (.int .i64 tm)∧Blk W w1.heap.size 39 #[.int .i64 mk,.int .i64 mf,.int .i64 100,.int .i64 mv,.int .i64 mn,.int .i64 ma,.int .i64 mc,.int .i64 mr,.int .i64 ml,.int .i64 mss,.int .i64 mu,.int .i64 mo,.int .i64 mg,.int .i64 mun,.string msr,.slice none 0 0,.int .i64 0,.string ⟨#[]⟩,.slice none 0 0,.string ⟨#[]⟩])) [15] (by kernel_rfl) ?_ (fun hHeld=>?_)
 ·exact HS.out _ ((Only.refl _ _).drew)
 refine tK 0 19 (v:=?_) rfl ?_ ?_;rotate_left 1;(focus intro w hSw;(try dsimp only at hSw);go_simp;try with_reducible rfl);try simp only [Act.put,zsA,zsB,zsC]
 refine tK 1 20 (v:=?_) rfl ?_ ?_;rotate_left 1;(focus intro w hSw;(try dsimp only at hSw);go_simp;try with_reducible rfl);try simp only [Act.put,zsA,zsB,zsC]
 refine tK 2 21 (v:=?_) rfl ?_ ?_;rotate_left 1;(focus intro w hSw;(try dsimp only at hSw);go_simp;try with_reducible rfl);try simp only [Act.put,zsA,zsB,zsC]
 refine tK 3 22 (v:=?_) rfl ?_ ?_;rotate_left 1;(focus intro w hSw;(try dsimp only at hSw);go_simp;try with_reducible rfl);try simp only [Act.put,zsA,zsB,zsC]
 refine tK 4 23 (v:=?_) rfl ?_ ?_;rotate_left 1;(focus intro w hSw;(try dsimp only at hSw);go_simp;try with_reducible rfl);try simp only [Act.put,zsA,zsB,zsC]
 refine tK 5 24 (v:=?_) rfl ?_ ?_;rotate_left 1;(focus intro w hSw;(try dsimp only at hSw);go_simp;try with_reducible rfl);try simp only [Act.put,zsA,zsB,zsC]
 refine tK 6 25 (v:=?_) rfl ?_ ?_;rotate_left 1;(focus intro w hSw;(try dsimp only at hSw);go_simp;try with_reducible rfl);try simp only [Act.put,zsA,zsB,zsC]
 refine tK 7 26 (v:=?_) rfl ?_ ?_;rotate_left 1;(focus intro w hSw;(try dsimp only at hSw);go_simp;try with_reducible rfl);try simp only [Act.put,zsA,zsB,zsC]
 refine tK 8 27 (v:=?_) rfl ?_ ?_;rotate_left 1;(focus intro w hSw;(try dsimp only at hSw);go_simp;try with_reducible rfl);try simp only [Act.put,zsA,zsB,zsC]
 refine jaw (i:=9) (oi:=⟨some 28,_,_,_,_,_⟩) rfl (by kernel_rfl) (fun _ _ _ h=>h) (jaz (by rfl) 39 (.tmp 4) rfl w1.heap.size 0 (by rfl) 39 #[.int .i64 mk,.int .i64 mf,.int .i64 100,.int .i64 mv,.int .i64 mn,.int .i64 ma,.int .i64 mc,.int .i64 mr,.int .i64 ml,.int .i64 mss,.int .i64 mu,.int .i64 mo,.int .i64 mg,.int .i64 mun,.string msr,.slice none 0 0,.int .i64 0,.string ⟨#[]⟩,.slice none 0 0,.string ⟨#[]⟩] [.int .i64 mk,.int .i64 mf,.int .i64 100,.int .i64 mv,.int .i64 mn,.int .i64 ma,.int .i64 mc,.int .i64 mr,.int .i64 ml,.int .i64 mss,.int .i64 mu,.int .i64 mo,.int .i64 mg,.int .i64 mun,.string msr,.slice none 0 0,.int .i64 0,.string ⟨#[]⟩,.slice none 0 0,.string ⟨#[]⟩] _ (fun _ h=>h.2.2) rfl Tryz.underlying39 rfl jaj) (by assumption) ?_
 try simp only [Act.put,zsA,zsB,zsC]
 refine tK 10 29 (v:=?_) rfl ?_ ?_;rotate_left 1;(focus intro w hSw;(try dsimp only at hSw);go_simp;try with_reducible rfl);try simp only [Act.put,zsA,zsB,zsC]
 refine jah (i:=11) (o:=⟨some 30,_,_,_,_,_⟩) (by kernel_rfl) rfl (fun K' hK=>?_)
 go_simp
 refine hK.out _ _ (fun _=>?_) (fun hHeld'=>?_)
 ·exact HS.out _ (((Only.refl _ _).drew).alloc _)
 have hHeld:=hHeld' rfl
 clear hK K'
 try simp only [Act.put,zsA,zsB,zsC]
 refine jah (i:=12) (o:=⟨some 31,_,_,_,_,_⟩) (by kernel_rfl) rfl (fun K' hK=>?_)
 (refine jed (o:=⟨some 31,_,_,_,_,_⟩) _ rfl (.tmp 23) (.tmp 30) 66 (by rfl) 0 79 i0 _ 21 224 Tryz.underlying66 hi hz0 hz1 hz2 rfl (by decide) (.slice Ag gs.length cg) gs.length _ (by rfl) (HGT.out.alloc _) w3.drew.heap.size (.int .i64 tm::msC ⟨mk,mf,100,mv,mn,ma,mc,mr,ml,mss,mu,mo,mg,mun,msr,none,0,0⟩) (by rfl) rfl (Blk.new w3.drew _ _) (fun u hu=>by rcases List.mem_cons.1 hu with q | q;rw [q];rfl;exact jjj _ u q) (by unfold maxLen;omega) (by omega) (Nat.zero_le _) _ rfl ?_;intro gg cap w6 hown6 hgr6 hat6;have HO6:Hid (Only (fun q=>(Value.slice Ag gs.length cg).ownBlock=some q) w3 w6):=Lib.hid ((((Only.refl _ _).drew).alloc _).trans (Only.of_grown (S:=fun q=>(Value.slice Ag gs.length cg).ownBlock=some q) hgr6 (fun k hk _=>hk)) (fun _ _ h=>h));have f3:=(HW3.out.st.only HO6.out (fun q=>Hvg.out _ q rfl)).frozen 3 (by simp);have c3:=(HS.out _ HO6.out).1)
 refine hK.out _ _ (fun _=>?_) (fun hHeld'=>?_)
 ·exact HS.out _ HO6.out
 have hHeld:=hHeld' rfl
 clear hK K'
 try simp only [Act.put,zsA,zsB,zsC]
 refine tK 13 32 (v:=?_) rfl ?_ ?_;rotate_left 1;(focus intro w hSw;(try dsimp only at hSw);go_simp;try with_reducible rfl);try simp only [Act.put,zsA,zsB,zsC]
 refine tK 14 33 (v:=?_) rfl ?_ ?_;rotate_left 1;(focus intro w hSw;(try dsimp only at hSw);go_simp;try with_reducible rfl);try simp only [Act.put,zsA,zsB,zsC]
 refine jah (i:=15) (o:=⟨none,_,_,_,_,_⟩) (by kernel_rfl) rfl (fun K' hK=>?_)
 go_simp
 refine hK.out _ _ (fun h=>absurd h (by decide)) (fun _=>?_)
 clear hK K'
 try simp only [Act.put]
 refine jao (by kernel_rfl) ?_ _
 have HB6:Hid (Bx w6 κ.gw _):=Lib.hid (HW3.out.st.only HO6.out (fun q=>Hvg.out _ q rfl))
 have hgg:gg≠κ.gw:=by
  rcases hat6 with q | q
  ·exact Hvg.out _ q
  ·have:=Hgl.out;have:=Hs3.out;rw [q];simp;omega
 have hlt6:w3.heap.size≤w6.heap.size:=HO6.out.size
 go_wp2_with fail
 refine bodyPost_ret (results_none rfl _ _ _) rfl ?_
 have hch:Stc (fun j=>j=5∨j=3) c1 (jbr c1 w3.heap.size 5 (some gg)) w3 (w6.setCell ⟨κ.gw,3,none⟩ (.slice (some ⟨gg,0,none⟩) (gs.length+1) cap)):=Stc.of_only (by decide) ((HO6.out.mono (S':=fun b=>c1 b=5∨c1 b=3) (fun j _ hj=>.inl (HW3.out.gtc j hj))).setCell (p:=⟨κ.gw,3,none⟩) (fun _=>.inr HW3.out.stc) _) fun b hb _=>if_pos hb
 have hs6:(w6.setCell ⟨κ.gw,3,none⟩ (.slice (some ⟨gg,0,none⟩) (gs.length+1) cap)).heap.size=w6.heap.size:=by simp [World.setCell]
 have hgl3:κ.gw<w3.heap.size:=HW3.out.st.lt
 have r1:=hch.own HW3.out.sn HW3.out.snc (by decide) (by decide)
 refine ⟨rfl,jbr c1 w3.heap.size 5 (some gg),.slice (some ⟨gg,0,none⟩) (gs.length+1) cap,⟨HB6.out.set_ 3 _,(if_pos hgl3).trans HW3.out.stc,fun i hi=>?_,Nat.lt_of_lt_of_le HW3.out.rowl hch.size,(if_pos HW3.out.rowl).trans HW3.out.rowc,HW3.out.bg.stc hch (by decide),?_,fun q hq=>?_,?_,r1.1,r1.2,fun i hi=>(HW3.out.nd i hi).stc hch (by omega) (by omega)⟩,?_⟩
 ·rw [hch.only.cell (p:=⟨κ.gn,i,none⟩) HW3.out.rowl (by show ¬((c1 κ.gn=5∨c1 κ.gn=3)∨c1 κ.gn=8);rw [HW3.out.rowc];decide)]
  exact HW3.out.row i hi
 ·rw [List.length_append,List.flatMap_append]
  have:=jeb hown6 (p:=⟨κ.gw,3,none⟩) (by intro q;exact hgg (by simpa [Value.ownBlock] using q)) (.slice (some ⟨gg,0,none⟩) (gs.length+1) cap)
  rw [←Hgc.out] at this
  simpa using this
 ·have hq':gg=q:=by simpa [Value.ownBlock] using hq
  subst hq'
  unfold jbr
  split
  ·rename_i hlt
   rcases hat6 with z | z
   ·exact HW3.out.gtc _ z
   ·rw [z] at hlt;simp at hlt;omega
  ·rw [if_pos rfl]
 ·intro x hx
  rcases List.mem_append.1 hx with q | q
  ·exact HW3.out.gtn x q
  ·rw [List.mem_singleton] at q;rw [q];exact hp
 ·exact ((HC3.out.stc (by decide)).mono (by decide) (fun j q=>by omega)).trans (hch.mono (by decide) (fun j q=>by omega))
end
end
end Db
end
section
open Go.RowKit
namespace Db
open Ev
noncomputable section
theorem info_at1:(Tryz.prog.info? 79).map (·.size)=some 21:=by kernel_rfl
def cliC (t:Tm):List Value:=msC (t.ms none 0 0)
section
variable {κ:Kp} {c:Nat→Nat} {w:World} {N:Nat→HT} {bag:List Tm} {gs:List (Int×Tm)} {vg vs:Value} {tm:Int} {ns:Nat} {xs:List Value}
set_option maxRecDepth 100000 in
theorem bag_any (h:Wd κ c w N bag gs vg vs tm ns xs) (hn:bag.length≤100000):Calls Tryz.prog 17 #[.pointer (some ⟨κ.gw,0,none⟩)] w fun e w'=>∃ A k,e=.returned (.slice A bag.length k)∧Below w.heap.size w w':=by
 have c2:w.cell? ⟨κ.gw,2,none⟩=some (.pointer (some ⟨κ.gb,0,none⟩)):=h.st.cell 2
 have hA:=Lib.hid (bAll_any h.bg hn)
 clear h
 go_enter Tryz.func17,Tryz.ntmps17
 go_wp2_with fail
 refine hA.out.mono ?_
 rintro e w2 ⟨A,k,rfl,hb⟩
 go_wp2_with fail
 go_ret
 exact ⟨A,k,rfl,hb⟩
set_option maxRecDepth 100000 in
set_option maxHeartbeats 2000000 in
theorem got_any (h:Wd κ c w N bag gs vg vs tm ns xs) (hn:gs.length≤100000):Calls Tryz.prog 14 #[.pointer (some ⟨κ.gw,0,none⟩)] w fun e w'=>∃ v,e=.returned v∧w'.ownsRow w.heap.size 39 20 v gs.length ((gs.map (·.2)).flatMap cliC)∧Below w.heap.size w w':=by
 obtain ⟨i0,hi,hz0,hz1,hz2⟩:=info_parts jfg
 obtain ⟨A,cg,rfl,_,_⟩:=jar h.gt
 have c3:w.cell? ⟨κ.gw,3,none⟩=some (.slice A gs.length cg):=h.st.cell 3
 have HG:=Lib.hid h.gt
 have HN:=Lib.hid h.gtn
 clear h
 go_enter Tryz.func14,Tryz.ntmps14
 go_wp2_with fail
 go_loopw [3,5,13] (fun v _ i wr=>∃ (k:Nat),k≤gs.length∧i=.int .i64 (k:Int)∧Hid (wr.ownsRow w.heap.size 39 20 v k (((gs.take k).map (·.2)).flatMap cliC))∧Hid (Below w.heap.size w wr)) (fun _ _ i _=>gs.length-(intOf i).toNat)
 case atStart=>exact ⟨0,Nat.zero_le _,rfl,Lib.hid (by exact jcu _ _ _ _),Below.refl _ _⟩
 case round =>
  obtain ⟨k,hk,rfl,HO,Hb⟩:=hrel
  obtain ⟨A2,c2,rfl,_,_⟩:=jar HO.out
  by_cases hlt:k<gs.length
  ·obtain ⟨gb,rfl,_,_⟩:=jcr HG.out (by omega)
   have hcap:=jer HG.out
   have hk0:(0:Int)≤(k:Int):=by omega
   have hkn:(k:Int)<(gs.length:Int):=by omega
   have hmm:∃ x,Hid (gs[k]=x):=⟨_,rfl⟩
   obtain ⟨x,Hm⟩:=hmm
   have HX:Hid (wr.rangeAt gb (k*21) (gotC x)):=by
    rw [←Hm.out]
    intro j v hj
    refine jdj (jbb HG.out (Only.new (fun _=>False) Hb.out) (fun _ _ q=>q)) ?_
    rw [jbz gotC 21 (fun _=>rfl) gs k j hlt ((List.getElem?_eq_some_iff.1 hj).1)]
    exact hj
   have hsn:((gs.take k).map (·.2)).flatMap cliC++cliC x.2=((gs.take (k+1)).map (·.2)).flatMap cliC:=by
    rw [List.take_succ_eq_append_getElem hlt,Hm.out];simp
   obtain ⟨ti,t⟩:=x
   have hmq:∃ m:Ms,t.ms none 0 0=m:=⟨_,rfl⟩
   obtain ⟨m,hmq⟩:=hmq
   have hmb:m.ba=none∧m.bn=0∧m.bc=0:=by rw [←hmq];exact ⟨rfl,rfl,rfl⟩
   have HX:Hid (wr.rangeAt gb (k*21) (.int .i64 ti::msC m)):=by rw [←hmq];exact HX
   have Hsn:Hid (((gs.take k).map (·.2)).flatMap cliC++msC m=((gs.take (k+1)).map (·.2)).flatMap cliC):=by rw [←hmq];exact Lib.hid hsn
   clear hsn Hm hmq
   obtain ⟨mk,mf,mt,mv,mn,ma,mc,mr,ml,mss,mu,mo,mg,mun,msr,mba,mbn,mbc⟩:=m
   simp only at hmb
   obtain ⟨rfl,rfl,rfl⟩:=hmb
   have HCL:=fun (W:World)=>jcy (w:=W) (D:=fun _=>False) (p:=none) ⟨mk,mf,mt,mv,mn,ma,mc,mr,ml,mss,mu,mo,mg,mun,msr,none,0,0⟩ ⟨rfl,rfl,rfl⟩
   unfold msV Ms.bat at HCL
   simp only at HCL
   have HCL:=fun (W:World)=>Lib.hid (HCL W)
   go_wp2_with (first
    | (refine wpList_load_mid (op:=⟨some 16,.load 79 (.tmp 15),_,_,_,_⟩) rfl 79 (.tmp 15) rfl gb (k*21) (by rfl) (.int .i64 ti::msC ⟨mk,mf,mt,mv,mn,ma,mc,mr,ml,mss,mu,mo,mg,mun,msr,none,0,0⟩) _ HX.out Tryz.underlying79 rfl info_at1 ?_)
    | (refine jap (o:=⟨none,.store 79 (.tmp 5) (.tmp 16),_,_,_,_⟩) rfl 79 (.tmp 5) (.tmp 16) rfl wr.heap.size #[.int .i64 ti,.int .i64 mk,.int .i64 mf,.int .i64 mt,.int .i64 mv,.int .i64 mn,.int .i64 ma,.int .i64 mc,.int .i64 mr,.int .i64 ml,.int .i64 mss,.int .i64 mu,.int .i64 mo,.int .i64 mg,.int .i64 mun,.string msr,.slice none 0 0,.int .i64 0,.string ⟨#[]⟩,.slice none 0 0,.string ⟨#[]⟩] (by rfl) (by rfl) _ _ (Blk.new wr 79 #[.int .i64 0,.int .i64 0,.int .i64 0,.int .i64 0,.int .i64 0,.int .i64 0,.int .i64 0,.int .i64 0,.int .i64 0,.int .i64 0,.int .i64 0,.int .i64 0,.int .i64 0,.int .i64 0,.int .i64 0,.string ⟨#[]⟩,.slice none 0 0,.int .i64 0,.string ⟨#[]⟩,.slice none 0 0,.string ⟨#[]⟩]) (by rfl) info_at1 (by simp [Value.oneCell']) ?_;intro w3 HM3 ho3 hs3;refine Hid.out ?_))
   have HM3:=Lib.hid HM3
   have h13:Below wr.heap.size wr w3:=((Below.refl _ _).alloc (Nat.le_refl _) (.cells #[.int .i64 0,.int .i64 0,.int .i64 0,.int .i64 0,.int .i64 0,.int .i64 0,.int .i64 0,.int .i64 0,.int .i64 0,.int .i64 0,.int .i64 0,.int .i64 0,.int .i64 0,.int .i64 0,.int .i64 0,.string ⟨#[]⟩,.slice none 0 0,.int .i64 0,.string ⟨#[]⟩,.slice none 0 0,.string ⟨#[]⟩] 79)).trans (ho3.below (B:=wr.heap.size) (fun k hk q=>by omega) (by simp))
   have HO3:=Lib.hid (jbb HO.out (Only.new (fun _=>False) h13) (fun _ _ h=>h))
   have Hb3:=Lib.hid (Hb.out.trans (h13.mono Hb.out.size))
   clear ho3 hs3 h13 HO Hb HX
   refine Lib.hid ?_
   go_wp2_with (first
    | (refine jgk (o:=⟨some 19,.load 39 (.tmp 18),_,_,_,_⟩) rfl 39 (.tmp 18) rfl wr.heap.size 1 (by rfl) _ _ [.int .i64 mk,.int .i64 mf,.int .i64 mt,.int .i64 mv,.int .i64 mn,.int .i64 ma,.int .i64 mc,.int .i64 mr,.int .i64 ml,.int .i64 mss,.int .i64 mu,.int .i64 mo,.int .i64 mg,.int .i64 mun,.string msr,.slice none 0 0,.int .i64 0,.string ⟨#[]⟩,.slice none 0 0,.string ⟨#[]⟩] _ HM3.out rfl Tryz.underlying39 rfl jaj ?_))
   refine (HCL _).out.mono ?_
   rintro e w4 ⟨A4,n4,c4,rfl,⟨rfl,rfl,rfl⟩,hb4⟩
   have HO4:=Lib.hid (jbb HO3.out (Only.new (fun _=>False) hb4) (fun _ _ h=>h))
   have Hb4:=Lib.hid (Hb3.out.trans (hb4.mono Hb3.out.size))
   have hs4:=Hb4.out.size
   clear hb4 HO3 Hb3 HM3 HCL
   go_wp2_with (at_builtin;refine jck _ rfl _ _ 30 rfl w.heap.size 39 i0 _ 20 216 Tryz.underlying30 hi hz0 hz1 hz2 rfl (by decide) _ k _ (by rfl) HO4.out (msC ⟨mk,mf,mt,mv,mn,ma,mc,mr,ml,mss,mu,mo,mg,mun,msr,none,0,0⟩) (by rfl) rfl (jjj _) (by unfold maxLen;omega) (by omega) w Hb4.out hs4 ?_;intro v8 w8 hown8 hb8)
   rw [Hsn.out] at hown8
   have HO8:=Lib.hid hown8
   have Hb8:=Lib.hid hb8
   obtain ⟨A8,c8,rfl,_,_⟩:=jar HO8.out
   clear hown8 hb8 HO4 Hb4
   go_wp2_with fail
   go_roundw
   case rel=>exact ⟨k+1,by omega,by go_num,HO8,Hb8⟩
   case measure=>simp [intOf];omega
  ·have hkn:¬(k:Int)<(gs.length:Int):=by omega
   have hke:Hid (k=gs.length):=Lib.hid (by omega)
   go_wp2_with fail
   go_ret
   refine ⟨_,rfl,?_,Hb.out⟩
   have:=HO.out
   rw [hke.out,List.take_length] at this
   rw [hke.out]
   exact this
end
end
end Db
end
section
open Go.RowKit
namespace Db
open Ev
noncomputable section
section
variable {w w':World} {g:Nat} {cs:Array Value}
theorem Bx.rangeOf (h:Bx w g cs) (o n:Nat) (vs:List Value) (hv:(cs.toList.drop o).take n=vs):w.rangeAt g o vs:=by
 intro j v hj
 subst hv
 rw [h.cell]
 have hjn:j<n:=by
  have:=(List.getElem?_eq_some_iff.1 hj).1
  rw [List.length_take] at this;omega
 rw [List.getElem?_take_of_lt hjn,List.getElem?_drop] at hj
 rw [←Array.getElem?_toList];exact hj
theorem Bx.thereOf (h:Bx w g cs) (o n:Nat) (hn:o+n≤cs.size):w.there g o n:=fun j hj=>by
 refine ⟨?_,h.frozen _ (by omega)⟩
 rw [h.cell,Array.getElem?_eq_getElem (by omega)];rfl
theorem Bx.setCells (vs:List Value):∀ {w:World} {cs:Array Value} (h:Bx w g cs) (o:Nat),Bx (w.setCells g o vs) g (setL cs.toList o vs).toArray:=by
 induction vs with
 | nil=>intro w cs h o;simpa [World.setCells,setL] using h
 | cons v r ih =>
   intro w cs h o
   have:=ih (h.set_ o v) (o+1)
   simpa [World.setCells,setL] using this
theorem Bx.setAll {cells:Array Value} (h:Bx w g cs) (hn:cells.size=cs.size):Bx (w.setCells g 0 cells.toList) g cells:=by
 have:=h.setCells cells.toList 0
 rwa [setL_all hn] at this
end
section
variable {P:Program} {ops:Array Oper} {rest:List Oper} {o:Oper} {a:Act} {w:World} {Q:Exit→Act→World→Prop} {K:Act→World→Prop}
theorem jcj (hgd:o.guard=none) (ty:TypeId) (x y:Operand) (ho:o.op=.store ty x y)
 (g:Nat) (cells:Array Value) (hx:a.eval x=.pointer (some ⟨g,0,none⟩)) (hy:a.eval y=.agg cells) (cs:Array Value) (hg:Bx w g cs)
 (hn:cells.size=cs.size) (hi:(P.info? ty).map (·.size)=some cells.size) (h1:cells.all (·.oneCell')=true)
 (h:∀ w',Bx w' g cells→Only (fun k=>k=g) w w'→w'.heap.size=w.heap.size→wpList P ops Q rest (a.put o.dst undef) w'):wpList P ops Q (o::rest) a w :=
 wpList_store_mid hgd ty x y ho g 0 cells hx hy (hg.thereOf 0 _ (by omega)) hi h1 (h _ (hg.setAll hn) (jbt _ _ _) (jdg _ _ _))
theorem jde {E:Prop} (hgd:o.guard=none) (ty:TypeId) (x y:Operand) (ho:o.op=.store ty x y)
 (g:Nat) (cells:Array Value) (hx:a.eval x=.pointer (some ⟨g,0,none⟩)) (hy:a.eval y=.agg cells) (cs:Array Value) (hg:Bx w g cs)
 (hn:cells.size=cs.size) (hi:(P.info? ty).map (·.size)=some cells.size) (h1:cells.all (·.oneCell')=true)
 (h:∀ w',Bx w' g cells→Only (fun k=>k=g) w w'→w'.heap.size=w.heap.size→K (a.put o.dst undef) w'):if Region.wanted o (yielded ops a.tmps)=true then Oper.wp P o a w K Q else E:=by
 have hw:Region.wanted o (yielded ops a.tmps)=true:=by simp [Region.wanted,hgd]
 rw [if_pos hw]
 exact wp_store_mid ty x y ho g 0 cells hx hy (hg.thereOf 0 _ (by omega)) hi h1 (h _ (hg.setAll hn) (jbt _ _ _) (jdg _ _ _))
end
structure Pp where
 gy:Nat
 gs:Nat
 gn:Nat
 gt:Nat
structure Py (κ:Kp) (π:Pp) (c:Nat→Nat) (w:World) (s n seen:Int) (wm:Ms):Prop where
 y:Bx w π.gy #[.pointer (some ⟨κ.gw,0,none⟩),.int .i64 3,.slice (some ⟨π.gs,0,none⟩) 1 1,.slice (some ⟨π.gn,0,none⟩) 1 1,.slice (some ⟨π.gt,0,none⟩) 1 1,.int .i64 seen,.int .i64 0,.bool true]
 ss:Bx w π.gs #[.int .i64 s]
 nn:Bx w π.gn #[.int .i64 n]
 tt:Bx w π.gt #[.int .i64 wm.k,.int .i64 wm.fr,.int .i64 wm.to,.int .i64 wm.vw,.int .i64 wm.nm,.int .i64 wm.at_,.int .i64 wm.cm,.int .i64 wm.rd,.int .i64 wm.cl,.int .i64 wm.se,.int .i64 wm.nu,.int .i64 wm.co,.int .i64 wm.ag,.int .i64 wm.un,.string wm.sr,.slice wm.ba wm.bn wm.bc,.int .i64 0,.string ⟨#[]⟩,.slice none 0 0,.string ⟨#[]⟩]
 cy:c π.gy=7
 cs:c π.gs=7
 cn:c π.gn=7
 ct:c π.gt=7
 n1:π.gy≠π.gs
 n2:π.gy≠π.gn
 n3:π.gy≠π.gt
 n4:π.gs≠π.gn
 n5:π.gs≠π.gt
 n6:π.gn≠π.gt
section
variable {κ:Kp} {π:Pp} {c c':Nat→Nat} {w w':World} {s n seen:Int} {wm:Ms}
theorem Py.stc {K:Nat→Prop} (h:Py κ π c w s n seen wm) (st:Stc K c c' w w') (h7:¬K 7):Py κ π c' w' s n seen wm:=by
 have a1:=st.bx h.y h.cy h7 (by decide)
 have a2:=st.bx h.ss h.cs h7 (by decide)
 have a3:=st.bx h.nn h.cn h7 (by decide)
 have a4:=st.bx h.tt h.ct h7 (by decide)
 exact ⟨a1.1,a2.1,a3.1,a4.1,a1.2,a2.2,a3.2,a4.2,h.n1,h.n2,h.n3,h.n4,h.n5,h.n6⟩
theorem Py.below (h:Py κ π c w s n seen wm) (hb:Below w.heap.size w w'):Py κ π c w' s n seen wm:=h.stc (Stc.of_only (K:=fun _=>False) id (Only.new _ hb) fun _ _ _=>rfl) id
end
def zMs:Ms:=⟨0,0,0,0,0,0,0,0,0,0,0,0,0,0,⟨#[]⟩,none,0,0⟩
inductive Hear:Int→Ms→List Tm→Int→Ms→Prop
 | nil {s wm}:Hear s wm [] s wm
 | skip {s wm t r s' wm'}:t.nu≠wm.nu→Hear s wm r s' wm'→Hear s wm (t::r) s' wm'
 | opens {s wm t r s' wm'}:t.nu=wm.nu→wm.nu≠0→t.k=1→wm.k=0→wm.se=0→s=0→Hear t.se zMs r s' wm'→Hear s wm (t::r) s' wm'
 | reply {s wm t r s' wm'}:t.nu=wm.nu→wm.nu≠0→t.k=1→wm.k=0→wm.se≠0→t.se=wm.se→Hear s zMs r s' wm'→Hear s wm (t::r) s' wm'
 | answer {s wm t r s' wm'}:t.nu=wm.nu→wm.nu≠0→t.k=3→wm.k=2→Hear s zMs r s' wm'→Hear s wm (t::r) s' wm'
end
end Db
end
end Go.Proofs.YtcchekmejnhlmaaGreat
