/- Joined texts. -/
import Derived.Test.YtcchekmejnhlmaaGreatK15
import Derived.Test.YtcchekmejnhlmaaGreatK16
namespace Go.Proofs.YtcchekmejnhlmaaGreat
set_option linter.unusedVariables false
set_option maxHeartbeats 4000000
section
open Go.RowKit
namespace Db
open Ev
noncomputable section
section
variable {κ:Kp} {c c':Nat→Nat} {w w':World} {N:Nat→HT} {bag:List Tm} {gs:List (Int×Tm)} {vg vs:Value} {tm:Int} {ns:Nat} {xs:List Value}
theorem Wd.tick (h:Wd κ c w N bag gs vg vs tm ns xs) (x:Int):Wd κ c (w.setCell ⟨κ.gw,5,none⟩ (.int .i64 x)) N bag gs vg vs x ns xs∧Stc (fun j=>j=3) c c w (w.setCell ⟨κ.gw,5,none⟩ (.int .i64 x)):=by
 have s:Stc (fun j=>j=3) c c w (w.setCell ⟨κ.gw,5,none⟩ (.int .i64 x)):=Stc.of_only (by decide) ((Only.refl _ _).setCell (p:=⟨κ.gw,5,none⟩) (fun _=>h.stc) _) fun _ _ _=>rfl
 have k2:=s.own h.gt h.gtc (by decide) (by decide)
 have k3:=s.own h.sn h.snc (by decide) (by decide)
 refine ⟨⟨h.st.set_ 5 _,h.stc,fun i hi=>?_,Nat.lt_of_lt_of_le h.rowl s.size,h.rowc,h.bg.stc s (by decide),k2.1,k2.2,h.gtn,k3.1,k3.2,fun i hi=>(h.nd i hi).stc s (by omega) (by omega)⟩,s⟩
 rw [s.only.cell (p:=⟨κ.gn,i,none⟩) h.rowl (by show ¬(c κ.gn=3∨c κ.gn=8);rw [h.rowc];decide)]
 exact h.row i hi
def fre (c:Nat→Nat) (w:World) (b:Nat):Nat:=if b<w.heap.size then c b else 10
theorem jkc {K:Nat→Prop} (h8:¬K 8):Stc K c (fre c w) w w:=Stc.of_only h8 (Only.refl _ _) fun b hb _=>if_pos hb
theorem Wd.fre (h:Wd κ c w N bag gs vg vs tm ns xs):Wd κ (fre c w) w N bag gs vg vs tm ns xs:=h.stc_ (jkc (K:=fun _=>False) id) fun _ _ _=>id
set_option maxRecDepth 100000 in
set_option maxHeartbeats 2000000 in
theorem jjs (h:Wd κ c w N bag gs vg vs tm ns xs) (k:Nat) (hk:k<bag.length) {Q:(Nat→Nat)→World→Int→Prop}
 (hD:∀ (W:World) (x:Int),Wd κ c W N bag gs vg vs x ns xs→Stc (fun j=>j≤6) c c w W→Calls Tryz.prog 25 #[.pointer (some ⟨κ.gw,0,none⟩),.int .i64 (k:Int)] W fun e w'=>e=.returned (.tuple #[])∧∃ c',Q c' w' x∧Stc (fun j=>j≤6) c c' W w') :
 Calls Tryz.prog 11 #[.pointer (some ⟨κ.gw,0,none⟩),.agg #[.int .i64 0,.int .i64 (k:Int),.int .i64 0,.int .i64 0,.int .i64 0,.int .i64 0,.int .i64 0,.int .i64 0,.int .i64 0,.int .i64 0,.int .i64 0,.int .i64 0,.int .i64 0,.int .i64 0,.int .i64 0,.int .i64 0,.int .i64 0,.int .i64 0,.string ⟨#[]⟩,.slice none 0 0,.int .i64 0,.string ⟨#[]⟩,.slice none 0 0,.string ⟨#[]⟩]] w fun e w'=>e=.returned (.int .i64 0)∧∃ c' x,Q c' w' x∧Stc (fun j=>j≤6) c c' w w':=by
 have ha:Below w.heap.size w (w.alloc (.cells #[.int .i64 0,.int .i64 (k:Int),.int .i64 0,.int .i64 0,.int .i64 0,.int .i64 0,.int .i64 0,.int .i64 0,.int .i64 0,.int .i64 0,.int .i64 0,.int .i64 0,.int .i64 0,.int .i64 0,.int .i64 0,.int .i64 0,.int .i64 0,.int .i64 0,.string ⟨#[]⟩,.slice none 0 0,.int .i64 0,.string ⟨#[]⟩,.slice none 0 0,.string ⟨#[]⟩] 41)):=(Below.refl _ _).alloc (Nat.le_refl _) _
 have HW:=Lib.hid (h.below ha)
 have HB:=Lib.hid (Blk.new w 41 #[.int .i64 0,.int .i64 (k:Int),.int .i64 0,.int .i64 0,.int .i64 0,.int .i64 0,.int .i64 0,.int .i64 0,.int .i64 0,.int .i64 0,.int .i64 0,.int .i64 0,.int .i64 0,.int .i64 0,.int .i64 0,.int .i64 0,.int .i64 0,.int .i64 0,.string ⟨#[]⟩,.slice none 0 0,.int .i64 0,.string ⟨#[]⟩,.slice none 0 0,.string ⟨#[]⟩])
 have Ha:=Lib.hid ha
 have hgl:=h.st.lt
 have hm:=Lib.hid (may_bag HW.out 0 (.inl rfl) k hk)
 have HD:=Lib.hid hD
 clear h ha hD
 go_enter Tryz.func11,Tryz.ntmps11
 go_wp2_with (first
  | (refine jba (o:=⟨some 10,.load 41 (.tmp 3),_,_,_,_⟩) rfl 41 (.tmp 3) rfl w.heap.size (by rfl) _ _ _ HB.out Tryz.underlying41 rfl jgv ?_))
 refine hm.out.mono ?_
 rintro e w2 ⟨rfl,hb2⟩
 have HW2:=Lib.hid (HW.out.below hb2)
 have HB2:=Lib.hid (HB.out.below hb2 HB.out.lt)
 have Hb2:=Lib.hid (Ha.out.trans (hb2.mono Ha.out.size))
 have c5:w2.cell? ⟨κ.gw,5,none⟩=some (.int .i64 tm):=HW2.out.st.cell 5
 have f5:w2.frozen? ⟨κ.gw,5,none⟩=false:=HW2.out.st.frozen 5 (by simp)
 have hne:w.heap.size≠κ.gw:=by omega
 have k0:w2.cell? ⟨w.heap.size,0,none⟩=some (.int .i64 0):=HB2.out.cell 0
 have k1:w2.cell? ⟨w.heap.size,1,none⟩=some (.int .i64 (k:Int)):=HB2.out.cell 1
 clear HB HB2 hm hb2 HW Ha
 go_wp2_with fail
 refine (HD.out _ _ (HW2.out.tick _).1 ?_).mono ?_
 ·exact (Stc.of_only (by decide) (Only.new _ Hb2.out) (fun _ _ _=>rfl)).trans ((HW2.out.tick _).2.mono (by decide) (fun j q=>by omega))
 rintro e w3 ⟨rfl,c3,hQ,hS⟩
 go_wp2_with fail
 go_ret
 exact ⟨rfl,c3,_,hQ,((Stc.of_only (by decide) (Only.new _ Hb2.out) (fun _ _ _=>rfl)).trans ((HW2.out.tick _).2.mono (by decide) (fun j q=>by omega))).trans hS⟩
set_option maxRecDepth 100000 in
set_option maxHeartbeats 2000000 in
theorem do_double (h:Wd κ c w N bag gs vg vs tm ns xs) (k:Nat) (hk:k<bag.length) (hn:bag.length≤99999) :
 Calls Tryz.prog 11 #[.pointer (some ⟨κ.gw,0,none⟩),.agg #[.int .i64 2,.int .i64 (k:Int),.int .i64 0,.int .i64 0,.int .i64 0,.int .i64 0,.int .i64 0,.int .i64 0,.int .i64 0,.int .i64 0,.int .i64 0,.int .i64 0,.int .i64 0,.int .i64 0,.int .i64 0,.int .i64 0,.int .i64 0,.int .i64 0,.string ⟨#[]⟩,.slice none 0 0,.int .i64 0,.string ⟨#[]⟩,.slice none 0 0,.string ⟨#[]⟩]] w fun e w'=>e=.returned (.int .i64 0)∧∃ c' x,Wd κ c' w' N (bag++[bag[k]]) gs vg vs x ns xs∧Stc (fun j=>j≤6) c c' w w':=by
 have ha:Below w.heap.size w (w.alloc (.cells #[.int .i64 2,.int .i64 (k:Int),.int .i64 0,.int .i64 0,.int .i64 0,.int .i64 0,.int .i64 0,.int .i64 0,.int .i64 0,.int .i64 0,.int .i64 0,.int .i64 0,.int .i64 0,.int .i64 0,.int .i64 0,.int .i64 0,.int .i64 0,.int .i64 0,.string ⟨#[]⟩,.slice none 0 0,.int .i64 0,.string ⟨#[]⟩,.slice none 0 0,.string ⟨#[]⟩] 41)):=(Below.refl _ _).alloc (Nat.le_refl _) _
 have HW:=Lib.hid (h.below ha)
 have HB:=Lib.hid (Blk.new w 41 #[.int .i64 2,.int .i64 (k:Int),.int .i64 0,.int .i64 0,.int .i64 0,.int .i64 0,.int .i64 0,.int .i64 0,.int .i64 0,.int .i64 0,.int .i64 0,.int .i64 0,.int .i64 0,.int .i64 0,.int .i64 0,.int .i64 0,.int .i64 0,.int .i64 0,.string ⟨#[]⟩,.slice none 0 0,.int .i64 0,.string ⟨#[]⟩,.slice none 0 0,.string ⟨#[]⟩])
 have Ha:=Lib.hid ha
 have hgl:=h.st.lt
 have hm:=Lib.hid (may_bag HW.out 2 (.inr rfl) k hk)
 clear h ha
 go_enter Tryz.func11,Tryz.ntmps11
 go_wp2_with (first
  | (refine jba (o:=⟨some 10,.load 41 (.tmp 3),_,_,_,_⟩) rfl 41 (.tmp 3) rfl w.heap.size (by rfl) _ _ _ HB.out Tryz.underlying41 rfl jgv ?_))
 refine hm.out.mono ?_
 rintro e w2 ⟨rfl,hb2⟩
 have HW2:=Lib.hid (HW.out.below hb2)
 have HB2:=Lib.hid (HB.out.below hb2 HB.out.lt)
 have Hb2:=Lib.hid (Ha.out.trans (hb2.mono Ha.out.size))
 have c5:w2.cell? ⟨κ.gw,5,none⟩=some (.int .i64 tm):=HW2.out.st.cell 5
 have f5:w2.frozen? ⟨κ.gw,5,none⟩=false:=HW2.out.st.frozen 5 (by simp)
 have hne:w.heap.size≠κ.gw:=by omega
 have k0:w2.cell? ⟨w.heap.size,0,none⟩=some (.int .i64 2):=HB2.out.cell 0
 clear HB hm hb2 HW Ha
 go_wp2_with fail
 generalize hx:w2.setCell ⟨κ.gw,5,none⟩ _=w3
 obtain ⟨x,hx⟩:∃ x,w2.setCell ⟨κ.gw,5,none⟩ (.int .i64 x)=w3:=⟨_,hx⟩
 subst hx
 have hT:=HW2.out.tick x
 have HW3:=Lib.hid hT.1
 have HS3:Hid (Stc (fun j=>j≤6) c c w (w2.setCell ⟨κ.gw,5,none⟩ (.int .i64 x))):=Lib.hid ((Stc.of_only (by decide) (Only.new _ Hb2.out) (fun _ _ _=>rfl)).trans (hT.2.mono (by decide) (fun j q=>by omega)))
 have HB3:=Lib.hid (HB2.out.far (p:=⟨κ.gw,5,none⟩) hne (.int .i64 x))
 clear hT k0 c5 f5 HB2 HW2 Hb2
 generalize w2.setCell ⟨κ.gw,5,none⟩ (.int .i64 x)=w3 at *
 have HC:=Lib.hid (bCopy_any (c:=c) (w:=w3.drew) (HW3.out.bg.below (Below.refl _ _).drew) k hk hn)
 refine jan (S:=(fun W=>W.cell? ⟨κ.gw,2,none⟩=some (.pointer (some ⟨κ.gb,0,none⟩))∧W.cell? ⟨w.heap.size,1,none⟩=some (.int .i64 (k:Int)))) [6] (by kernel_rfl) ?_ (fun hHeld=>?_)
 ·exact ⟨HW3.out.st.cell 2,HB3.out.cell 1⟩
 refine tK 0 50 (v:=?_) rfl ?_ ?_;rotate_left 1;(focus intro w hSw;(try dsimp only at hSw);go_simp;try with_reducible rfl);try simp only [Act.put,zsA,zsB,zsC]
 refine tK 1 51 (v:=?_) rfl ?_ ?_;rotate_left 1;(focus intro w hSw;(try dsimp only at hSw);go_simp;try with_reducible rfl);try simp only [Act.put,zsA,zsB,zsC]
 refine tK 2 52 (v:=?_) rfl ?_ ?_;rotate_left 1;(focus intro w hSw;(try dsimp only at hSw);go_simp;try with_reducible rfl);try simp only [Act.put,zsA,zsB,zsC]
 refine tK 3 53 (v:=?_) rfl ?_ ?_;rotate_left 1;(focus intro w hSw;(try dsimp only at hSw);go_simp;try with_reducible rfl);try simp only [Act.put,zsA,zsB,zsC]
 refine tK 4 54 (v:=?_) rfl ?_ ?_;rotate_left 1;(focus intro w hSw;(try dsimp only at hSw);go_simp;try with_reducible rfl);try simp only [Act.put,zsA,zsB,zsC]
 refine tK 5 55 (v:=?_) rfl ?_ ?_;rotate_left 1;(focus intro w hSw;(try dsimp only at hSw);go_simp;try with_reducible rfl);try simp only [Act.put,zsA,zsB,zsC]
 refine jah (i:=6) (o:=⟨some 56,_,_,_,_,_⟩) (by kernel_rfl) rfl (fun K' hK=>?_)
 go_simp
 ((with_reducible refine HC.out.mono ?_);rintro e w5 ⟨⟨y,rfl⟩,c5,hB5,hC5⟩)
 go_wp2_with fail
 refine hK.out _ _ (fun h=>absurd h (by decide)) (fun _=>?_)
 clear hK K'
 try simp only [Act.put,zsA,zsB,zsC]
 refine jao (by kernel_rfl) ?_ _
 have s5:Stc (fun j=>j=4) c c5 w3 w5:=(Stc.of_only (K:=fun j=>j=4) (by decide) (Only.new _ ((Below.refl _ _).drew)) (fun _ _ _=>rfl)).trans (hC5.stc (by decide))
 have HW5:=Lib.hid (HW3.out.part s5 (by decide) (by decide) (by decide) (by decide) hB5 (fun j hj=>(HW3.out.nd j hj).stc s5 (by omega) (by omega)))
 have HS5:=Lib.hid (HS3.out.trans (s5.mono (by decide) (fun j q=>by omega)))
 clear s5 hB5 hC5 HC
 go_wp2_with fail
 go_ret
 exact ⟨rfl,c5,x,HW5.out,HS5.out⟩
def actV (m:Ms):Value:=.agg #[.int .i64 7,.int .i64 0,.int .i64 0,.int .i64 0,.int .i64 m.k,.int .i64 m.fr,.int .i64 m.to,.int .i64 m.vw,.int .i64 m.nm,.int .i64 m.at_,.int .i64 m.cm,.int .i64 m.rd,.int .i64 m.cl,.int .i64 m.se,.int .i64 m.nu,.int .i64 m.co,.int .i64 m.ag,.int .i64 m.un,.string m.sr,.slice m.ba m.bn m.bc,.int .i64 0,.string ⟨#[]⟩,.slice none 0 0,.string ⟨#[]⟩]
set_option maxRecDepth 100000 in
set_option maxHeartbeats 2000000 in
theorem do_send0 (h:Wd κ c w N bag gs vg vs tm ns xs) (hc8:∀ b,w.heap.size≤b→c b=10) (t:Tm) (m:Ms) (A:Option Addr) (nn kk:Nat) (hme:m=t.ms A nn kk) (hbt:BatOk w (fun b=>c b=8) t.p A nn kk) (hn:bag.length≤99998) (hns:ns≤99999)
 (hmay:∀ W,Below w.heap.size w W→Calls Tryz.prog 24 #[.pointer (some ⟨κ.gw,0,none⟩),actV m] W fun e w'=>e=.returned (.bool true)∧Below W.heap.size W w') :
 Calls Tryz.prog 11 #[.pointer (some ⟨κ.gw,0,none⟩),actV m] w fun e w'=>e=.returned (.int .i64 0)∧∃ c' x vs' xs',Wd κ c' w' N (bag++[t]) gs vg vs' x (ns+1) xs'∧Stc (fun j=>j≤6) c c' w w':=by
 obtain ⟨i0,hi,hz0,hz1,hz2⟩:=info_parts info_at
 have Hme:=Lib.hid hme
 have hmb:m.ba=A∧m.bn=nn∧m.bc=kk:=by rw [hme];exact ⟨rfl,rfl,rfl⟩
 clear hme
 obtain ⟨mk,mf,mt,mv,mn,ma,mc,mr,ml,mss,mu,mo,mg,mun,msr,mba,mbn,mbc⟩:=m
 simp only at hmb
 obtain ⟨rfl,rfl,rfl⟩:=hmb
 unfold actV at hmay ⊢
 simp only at hmay ⊢
 have ha:Below w.heap.size w (w.alloc (.cells #[.int .i64 7,.int .i64 0,.int .i64 0,.int .i64 0,.int .i64 mk,.int .i64 mf,.int .i64 mt,.int .i64 mv,.int .i64 mn,.int .i64 ma,.int .i64 mc,.int .i64 mr,.int .i64 ml,.int .i64 mss,.int .i64 mu,.int .i64 mo,.int .i64 mg,.int .i64 mun,.string msr,.slice mba mbn mbc,.int .i64 0,.string ⟨#[]⟩,.slice none 0 0,.string ⟨#[]⟩] 41)):=(Below.refl _ _).alloc (Nat.le_refl _) _
 have HW:=Lib.hid (h.below ha)
 have HB:=Lib.hid (Blk.new w 41 #[.int .i64 7,.int .i64 0,.int .i64 0,.int .i64 0,.int .i64 mk,.int .i64 mf,.int .i64 mt,.int .i64 mv,.int .i64 mn,.int .i64 ma,.int .i64 mc,.int .i64 mr,.int .i64 ml,.int .i64 mss,.int .i64 mu,.int .i64 mo,.int .i64 mg,.int .i64 mun,.string msr,.slice mba mbn mbc,.int .i64 0,.string ⟨#[]⟩,.slice none 0 0,.string ⟨#[]⟩])
 have Ha:=Lib.hid ha
 have hgl:=h.st.lt
 have hm:=Lib.hid (hmay _ ha)
 have Hbt:=Lib.hid (hbt.below ha)
 have hcB:c w.heap.size=10:=hc8 _ (Nat.le_refl _)
 clear h ha hmay hbt
 go_enter Tryz.func11,Tryz.ntmps11
 go_wp2_with (first
  | (refine jba (o:=⟨some 10,.load 41 (.tmp 3),_,_,_,_⟩) rfl 41 (.tmp 3) rfl w.heap.size (by rfl) _ _ _ HB.out Tryz.underlying41 rfl jgv ?_))
 refine hm.out.mono ?_
 rintro e w2 ⟨rfl,hb2⟩
 have HW2:=Lib.hid (HW.out.below hb2)
 have HB2:=Lib.hid (HB.out.below hb2 HB.out.lt)
 have Hb2:=Lib.hid (Ha.out.trans (hb2.mono Ha.out.size))
 have Hbt2:=Lib.hid (Hbt.out.below hb2)
 have c5:w2.cell? ⟨κ.gw,5,none⟩=some (.int .i64 tm):=HW2.out.st.cell 5
 have f5:w2.frozen? ⟨κ.gw,5,none⟩=false:=HW2.out.st.frozen 5 (by simp)
 have hne:w.heap.size≠κ.gw:=by omega
 have k0:w2.cell? ⟨w.heap.size,0,none⟩=some (.int .i64 7):=HB2.out.cell 0
 clear HB hm hb2 HW Ha Hbt
 go_wp2_with fail
 generalize hx:w2.setCell ⟨κ.gw,5,none⟩ _=w3
 obtain ⟨x,hx⟩:∃ x,w2.setCell ⟨κ.gw,5,none⟩ (.int .i64 x)=w3:=⟨_,hx⟩
 subst hx
 have hT:=HW2.out.tick x
 have HW3:=Lib.hid hT.1
 have HS3:Hid (Stc (fun j=>j≤6) c c w (w2.setCell ⟨κ.gw,5,none⟩ (.int .i64 x))):=Lib.hid ((Stc.of_only (by decide) (Only.new _ Hb2.out) (fun _ _ _=>rfl)).trans (hT.2.mono (by decide) (fun j q=>by omega)))
 have HB3:=Lib.hid (HB2.out.far (p:=⟨κ.gw,5,none⟩) hne (.int .i64 x))
 have Hbt3:=Lib.hid (hT.2.batOk Hbt2.out)
 have hlt3:w.heap.size<(w2.setCell ⟨κ.gw,5,none⟩ (.int .i64 x)).heap.size:=HB3.out.lt
 clear hT k0 c5 f5 HB2 HW2 Hb2 Hbt2
 generalize w2.setCell ⟨κ.gw,5,none⟩ (.int .i64 x)=w3 at *
 have HP:=bPut_any (c:=c) (w:=w3.drew) (t:=t) (m:=⟨mk,mf,mt,mv,mn,ma,mc,mr,ml,mss,mu,mo,mg,mun,msr,mba,mbn,mbc⟩) (HW3.out.bg.below (Below.refl _ _).drew) ⟨_,_,_,Hme.out,Hbt3.out.drew⟩ (by omega)
 unfold msV at HP
 simp only at HP
 have HP:=Lib.hid HP
 refine jan (S:=(fun W=>W.cell? ⟨κ.gw,2,none⟩=some (.pointer (some ⟨κ.gb,0,none⟩))∧Blk W w.heap.size 41 #[.int .i64 7,.int .i64 0,.int .i64 0,.int .i64 0,.int .i64 mk,.int .i64 mf,.int .i64 mt,.int .i64 mv,.int .i64 mn,.int .i64 ma,.int .i64 mc,.int .i64 mr,.int .i64 ml,.int .i64 mss,.int .i64 mu,.int .i64 mo,.int .i64 mg,.int .i64 mun,.string msr,.slice mba mbn mbc,.int .i64 0,.string ⟨#[]⟩,.slice none 0 0,.string ⟨#[]⟩])) [6] (by kernel_rfl) ?_ (fun hHeld=>?_)
 ·exact ⟨HW3.out.st.cell 2,HB3.out⟩
 refine tK 0 90 (v:=?_) rfl ?_ ?_;rotate_left 1;(focus intro w hSw;(try dsimp only at hSw);go_simp;try with_reducible rfl);try simp only [Act.put,zsA,zsB,zsC]
 refine tK 1 91 (v:=?_) rfl ?_ ?_;rotate_left 1;(focus intro w hSw;(try dsimp only at hSw);go_simp;try with_reducible rfl);try simp only [Act.put,zsA,zsB,zsC]
 refine tK 2 92 (v:=?_) rfl ?_ ?_;rotate_left 1;(focus intro w hSw;(try dsimp only at hSw);go_simp;try with_reducible rfl);try simp only [Act.put,zsA,zsB,zsC]
 refine tK 3 93 (v:=?_) rfl ?_ ?_;rotate_left 1;(focus intro w hSw;(try dsimp only at hSw);go_simp;try with_reducible rfl);try simp only [Act.put,zsA,zsB,zsC]
 refine tK 4 94 (v:=?_) rfl ?_ ?_;rotate_left 1;(focus intro w hSw;(try dsimp only at hSw);go_simp;try with_reducible rfl);try simp only [Act.put,zsA,zsB,zsC]
 refine jaw (i:=5) (oi:=⟨some 95,_,_,_,_,_⟩) rfl (by kernel_rfl) (fun _ _ _ h=>h) (jaz (by rfl) 39 (.tmp 94) rfl w.heap.size 4 (by rfl) 41 #[.int .i64 7,.int .i64 0,.int .i64 0,.int .i64 0,.int .i64 mk,.int .i64 mf,.int .i64 mt,.int .i64 mv,.int .i64 mn,.int .i64 ma,.int .i64 mc,.int .i64 mr,.int .i64 ml,.int .i64 mss,.int .i64 mu,.int .i64 mo,.int .i64 mg,.int .i64 mun,.string msr,.slice mba mbn mbc,.int .i64 0,.string ⟨#[]⟩,.slice none 0 0,.string ⟨#[]⟩] [.int .i64 mk,.int .i64 mf,.int .i64 mt,.int .i64 mv,.int .i64 mn,.int .i64 ma,.int .i64 mc,.int .i64 mr,.int .i64 ml,.int .i64 mss,.int .i64 mu,.int .i64 mo,.int .i64 mg,.int .i64 mun,.string msr,.slice mba mbn mbc,.int .i64 0,.string ⟨#[]⟩,.slice none 0 0,.string ⟨#[]⟩] _ (fun _ h=>h.2) rfl Tryz.underlying39 rfl jaj) (by assumption) ?_
 try simp only [Act.put,zsA,zsB,zsC]
 refine jah (i:=6) (o:=⟨some 96,_,_,_,_,_⟩) (by kernel_rfl) rfl (fun K' hK=>?_)
 go_simp
 ((with_reducible refine HP.out.mono ?_);rintro e w5 ⟨rfl,c5,hB5,hC5⟩)
 go_wp2_with fail
 refine hK.out _ _ (fun h=>absurd h (by decide)) (fun _=>?_)
 clear hK K'
 try simp only [Act.put,zsA,zsB,zsC]
 refine jao (by kernel_rfl) ?_ _
 have s5:Ch 4 c c5 w3 w5:=(Ch.below (Below.refl _ _).drew).trans hC5
 have HW5:=Lib.hid (HW3.out.part (s5.stc (by decide)) (by decide) (by decide) (by decide) (by decide) hB5 (fun j hj=>(HW3.out.nd j hj).stc (s5.stc (by decide)) (by omega) (by omega)))
 have HS5:=Lib.hid (HS3.out.trans ((s5.stc (by decide)).mono (by decide) (fun j q=>by omega)))
 have Hbt5:=Lib.hid ((s5.stc (by decide)).batOk Hbt3.out)
 have HB5:=Lib.hid (HB3.out.only s5.only (by rw [hcB];decide))
 have HcB5:Hid (c5 w.heap.size=10):=Lib.hid ((s5.agr _ hlt3).trans hcB)
 have hlt5:w.heap.size<w5.heap.size:=HB5.out.lt
 clear s5 hB5 hC5 HP HB3 HW3 HS3 Hbt3
 go_wp2_with fail
 have hvs:∀ q,vs.ownBlock=some q→q<w5.heap.size∧c5 q=6:=fun q hq=>⟨(jcf HW5.out.sn hq).2,HW5.out.snc q hq⟩
 have hvg:∀ q,vs.ownBlock=some q→q≠κ.gw:=fun q hq e=>by
  have:=(hvs q hq).2
  rw [e,HW5.out.stc] at this;cases this
 have hvB:∀ q,vs.ownBlock=some q→q≠w.heap.size:=fun q hq e=>by
  have:=(hvs q hq).2
  rw [e,HcB5.out] at this;cases this
 obtain ⟨As,cs,rfl,_,_⟩:=jar HW5.out.sn
 have HS:Hid (∀ W,Only (fun q=>(Value.slice As ns cs).ownBlock=some q) w5 W→W.cell? ⟨κ.gw,4,none⟩=some (.slice As ns cs)∧W.cell? ⟨κ.gw,5,none⟩=some (.int .i64 x)∧Blk W w.heap.size 41 #[.int .i64 7,.int .i64 0,.int .i64 0,.int .i64 0,.int .i64 mk,.int .i64 mf,.int .i64 mt,.int .i64 mv,.int .i64 mn,.int .i64 ma,.int .i64 mc,.int .i64 mr,.int .i64 ml,.int .i64 mss,.int .i64 mu,.int .i64 mo,.int .i64 mg,.int .i64 mun,.string msr,.slice mba mbn mbc,.int .i64 0,.string ⟨#[]⟩,.slice none 0 0,.string ⟨#[]⟩]):=Lib.hid (fun W ho=>by
  have hb:=HW5.out.st.only ho (fun q=>hvg _ q rfl)
  exact ⟨hb.cell 4,hb.cell 5,HB5.out.only ho (fun q=>hvB _ q rfl)⟩)
 have HCL:=jcy (w:=w5.drew) (D:=fun b=>c5 b=8) (p:=t.p) ⟨mk,mf,mt,mv,mn,ma,mc,mr,ml,mss,mu,mo,mg,mun,msr,mba,mbn,mbc⟩ Hbt5.out.drew
 unfold msV Ms.bat at HCL
 simp only at HCL
 have HCL:=Lib.hid HCL
 have Hvg:=Lib.hid hvg
 have Hvs:=Lib.hid hvs
 clear hvg hvs hvB
 refine jan (S:=(fun W=>W.cell? ⟨κ.gw,4,none⟩=some (.slice As ns cs)∧W.cell? ⟨κ.gw,5,none⟩=some (.int .i64 x)∧Blk W w.heap.size 41 #[.int .i64 7,.int .i64 0,.int .i64 0,.int .i64 0,.int .i64 mk,.int .i64 mf,.int .i64 mt,.int .i64 mv,.int .i64 mn,.int .i64 ma,.int .i64 mc,.int .i64 mr,.int .i64 ml,.int .i64 mss,.int .i64 mu,.int .i64 mo,.int .i64 mg,.int .i64 mun,.string msr,.slice mba mbn mbc,.int .i64 0,.string ⟨#[]⟩,.slice none 0 0,.string ⟨#[]⟩])) [17] (by kernel_rfl) ?_ (fun hHeld=>?_)
 ·exact HS.out _ ((Only.refl _ _).drew)
 refine tK 0 97 (v:=?_) rfl ?_ ?_;rotate_left 1;(focus intro w hSw;(try dsimp only at hSw);go_simp;try with_reducible rfl);try simp only [Act.put,zsA,zsB,zsC]
 refine tK 1 98 (v:=?_) rfl ?_ ?_;rotate_left 1;(focus intro w hSw;(try dsimp only at hSw);go_simp;try with_reducible rfl);try simp only [Act.put,zsA,zsB,zsC]
 refine tK 2 99 (v:=?_) rfl ?_ ?_;rotate_left 1;(focus intro w hSw;(try dsimp only at hSw);go_simp;try with_reducible rfl);try simp only [Act.put,zsA,zsB,zsC]
 refine tK 3 100 (v:=?_) rfl ?_ ?_;rotate_left 1;(focus intro w hSw;(try dsimp only at hSw);go_simp;try with_reducible rfl);try simp only [Act.put,zsA,zsB,zsC]
 refine tK 4 101 (v:=?_) rfl ?_ ?_;rotate_left 1;(focus intro w hSw;(try dsimp only at hSw);go_simp;try with_reducible rfl);try simp only [Act.put,zsA,zsB,zsC]
 refine tK 5 102 (v:=?_) rfl ?_ ?_;rotate_left 1;(focus intro w hSw;(try dsimp only at hSw);go_simp;try with_reducible rfl);try simp only [Act.put,zsA,zsB,zsC]
 refine tK 6 103 (v:=?_) rfl ?_ ?_;rotate_left 1;(focus intro w hSw;(try dsimp only at hSw);go_simp;try with_reducible rfl);try simp only [Act.put,zsA,zsB,zsC]
 refine tK 7 104 (v:=?_) rfl ?_ ?_;rotate_left 1;(focus intro w hSw;(try dsimp only at hSw);go_simp;try with_reducible rfl);try simp only [Act.put,zsA,zsB,zsC]
 refine tK 8 105 (v:=?_) rfl ?_ ?_;rotate_left 1;(focus intro w hSw;(try dsimp only at hSw);go_simp;try with_reducible rfl);try simp only [Act.put,zsA,zsB,zsC]
 refine tK 9 106 (v:=?_) rfl ?_ ?_;rotate_left 1;(focus intro w hSw;(try dsimp only at hSw);go_simp;try with_reducible rfl);try simp only [Act.put,zsA,zsB,zsC]
 refine jaw (i:=10) (oi:=⟨some 107,_,_,_,_,_⟩) rfl (by kernel_rfl) (fun _ _ _ h=>h) (jaz (by rfl) 39 (.tmp 106) rfl w.heap.size 4 (by rfl) 41 #[.int .i64 7,.int .i64 0,.int .i64 0,.int .i64 0,.int .i64 mk,.int .i64 mf,.int .i64 mt,.int .i64 mv,.int .i64 mn,.int .i64 ma,.int .i64 mc,.int .i64 mr,.int .i64 ml,.int .i64 mss,.int .i64 mu,.int .i64 mo,.int .i64 mg,.int .i64 mun,.string msr,.slice mba mbn mbc,.int .i64 0,.string ⟨#[]⟩,.slice none 0 0,.string ⟨#[]⟩] [.int .i64 mk,.int .i64 mf,.int .i64 mt,.int .i64 mv,.int .i64 mn,.int .i64 ma,.int .i64 mc,.int .i64 mr,.int .i64 ml,.int .i64 mss,.int .i64 mu,.int .i64 mo,.int .i64 mg,.int .i64 mun,.string msr,.slice mba mbn mbc,.int .i64 0,.string ⟨#[]⟩,.slice none 0 0,.string ⟨#[]⟩] _ (fun _ h=>h.2.2) rfl Tryz.underlying39 rfl jaj) (by assumption) ?_
 try simp only [Act.put,zsA,zsB,zsC]
 refine jah (i:=11) (o:=⟨some 108,_,_,_,_,_⟩) (by kernel_rfl) rfl (fun K' hK=>?_)
 go_simp
 ((with_reducible refine HCL.out.mono ?_);rintro e w6 ⟨A6,n6,c6,rfl,_,hb6⟩;have HO6:Hid (Only (fun q=>(Value.slice As ns cs).ownBlock=some q) w5 w6):=Lib.hid (((Only.refl _ w5).drew).trans (Only.new (fun _=>False) hb6) (fun _ _ h=>h.elim));have HR6:=Lib.hid (jbb (jhr HW5.out.sn) (Only.new (fun _=>False) hb6) (fun _ _ h=>h));clear hb6)
 go_wp2_with fail
 refine hK.out _ _ (fun _=>?_) (fun hHeld'=>?_)
 ·exact HS.out _ HO6.out
 have hHeld:=hHeld' rfl
 clear hK K'
 try simp only [Act.put,zsA,zsB,zsC]
 refine tK 12 109 (v:=?_) rfl ?_ ?_;rotate_left 1;(focus intro w hSw;(try dsimp only at hSw);go_simp;try with_reducible rfl);try simp only [Act.put,zsA,zsB,zsC]
 refine jah (i:=13) (o:=⟨some 110,_,_,_,_,_⟩) (by kernel_rfl) rfl (fun K' hK=>?_)
 go_simp
 refine hK.out _ _ (fun _=>?_) (fun hHeld'=>?_)
 ·exact HS.out _ (HO6.out.alloc _)
 have hHeld:=hHeld' rfl
 clear hK K'
 try simp only [Act.put,zsA,zsB,zsC]
 refine jah (i:=14) (o:=⟨some 111,_,_,_,_,_⟩) (by kernel_rfl) rfl (fun K' hK=>?_)
 (refine jed (o:=⟨some 111,_,_,_,_,_⟩) _ rfl (.tmp 101) (.tmp 110) 66 (by rfl) 0 79 i0 _ 21 224 Tryz.underlying66 hi hz0 hz1 hz2 rfl (by decide) (.slice As ns cs) ns _ (by rfl) (HR6.out.alloc _) w6.heap.size (.int .i64 x::msC ⟨mk,mf,mt,mv,mn,ma,mc,mr,ml,mss,mu,mo,mg,mun,msr,A6,n6,c6⟩) (by rfl) rfl (Blk.new w6 _ _) (fun u hu=>by rcases List.mem_cons.1 hu with q | q;rw [q];rfl;exact jjj _ u q) (by unfold maxLen;omega) (by omega) (Nat.zero_le _) _ rfl ?_;intro gg cap w7 hown7 hgr7 hat7;have HO7:Hid (Only (fun q=>(Value.slice As ns cs).ownBlock=some q) w5 w7):=Lib.hid ((HO6.out.alloc _).trans (Only.of_grown (S:=fun q=>(Value.slice As ns cs).ownBlock=some q) hgr7 (fun k hk _=>hk)) (fun _ _ h=>h));have f4:=(HW5.out.st.only HO7.out (fun q=>Hvg.out _ q rfl)).frozen 4 (by simp);have c4:=(HS.out _ HO7.out).1)
 refine hK.out _ _ (fun _=>?_) (fun hHeld'=>?_)
 ·exact HS.out _ HO7.out
 have hHeld:=hHeld' rfl
 clear hK K'
 try simp only [Act.put,zsA,zsB,zsC]
 refine tK 15 112 (v:=?_) rfl ?_ ?_;rotate_left 1;(focus intro w hSw;(try dsimp only at hSw);go_simp;try with_reducible rfl);try simp only [Act.put,zsA,zsB,zsC]
 refine tK 16 113 (v:=?_) rfl ?_ ?_;rotate_left 1;(focus intro w hSw;(try dsimp only at hSw);go_simp;try with_reducible rfl);try simp only [Act.put,zsA,zsB,zsC]
 refine jah (i:=17) (o:=⟨none,_,_,_,_,_⟩) (by kernel_rfl) rfl (fun K' hK=>?_)
 go_simp
 refine hK.out _ _ (fun h=>absurd h (by decide)) (fun _=>?_)
 clear hK K'
 try simp only [Act.put]
 refine jao (by kernel_rfl) ?_ _
 have HB7:Hid (Bx w7 κ.gw _):=Lib.hid (HW5.out.st.only HO7.out (fun q=>Hvg.out _ q rfl))
 have hgl5:κ.gw<w5.heap.size:=HW5.out.st.lt
 have h56:w5.heap.size≤w6.heap.size:=HO6.out.size
 have hgg:gg≠κ.gw:=by
  rcases hat7 with q | q
  ·exact Hvg.out _ q
  ·rw [q];simp;omega
 go_wp2_with fail
 go_ret
 have hch:Stc (fun j=>j=6∨j=3) c5 (jbr c5 w5.heap.size 6 (some gg)) w5 (w7.setCell ⟨κ.gw,4,none⟩ (.slice (some ⟨gg,0,none⟩) (ns+1) cap)):=Stc.of_only (by decide) ((HO7.out.mono (S':=fun b=>c5 b=6∨c5 b=3) (fun j _ hj=>.inl (Hvs.out j hj).2)).setCell (p:=⟨κ.gw,4,none⟩) (fun _=>.inr HW5.out.stc) _) fun b hb _=>if_pos hb
 have r1:=hch.own HW5.out.gt HW5.out.gtc (by decide) (by decide)
 refine ⟨rfl,jbr c5 w5.heap.size 6 (some gg),x,.slice (some ⟨gg,0,none⟩) (ns+1) cap,_,⟨HB7.out.set_ 4 _,(if_pos hgl5).trans HW5.out.stc,fun i hi=>?_,Nat.lt_of_lt_of_le HW5.out.rowl hch.size,(if_pos HW5.out.rowl).trans HW5.out.rowc,HW5.out.bg.stc hch (by decide),r1.1,r1.2,HW5.out.gtn,jeb hown7 (p:=⟨κ.gw,4,none⟩) (by intro q;exact hgg (by simpa [Value.ownBlock] using q)) _,fun q hq=>?_,fun i hi=>(HW5.out.nd i hi).stc hch (by omega) (by omega)⟩,HS5.out.trans (hch.mono (by decide) (fun j q=>by omega))⟩
 ·rw [hch.only.cell (p:=⟨κ.gn,i,none⟩) HW5.out.rowl (by show ¬((c5 κ.gn=6∨c5 κ.gn=3)∨c5 κ.gn=8);rw [HW5.out.rowc];decide)]
  exact HW5.out.row i hi
 ·have hq':gg=q:=by simpa [Value.ownBlock] using hq
  subst hq'
  unfold jbr
  split
  ·rename_i hlt
   rcases hat7 with z | z
   ·exact (Hvs.out _ z).2
   ·rw [z] at hlt;simp at hlt;omega
  ·rw [if_pos rfl]
theorem do_send (h:Wd κ c w N bag gs vg vs tm ns xs) (t:Tm) (m:Ms) (A:Option Addr) (nn kk:Nat) (hme:m=t.ms A nn kk) (hbt:BatOk w (fun b=>c b=8) t.p A nn kk) (hn:bag.length≤99998) (hns:ns≤99999)
 (hmay:∀ W,Below w.heap.size w W→Calls Tryz.prog 24 #[.pointer (some ⟨κ.gw,0,none⟩),actV m] W fun e w'=>e=.returned (.bool true)∧Below W.heap.size W w') :
 Calls Tryz.prog 11 #[.pointer (some ⟨κ.gw,0,none⟩),actV m] w fun e w'=>e=.returned (.int .i64 0)∧∃ c' x vs' xs',Wd κ c' w' N (bag++[t]) gs vg vs' x (ns+1) xs'∧Stc (fun j=>j≤6) c c' w w':=by
 refine (do_send0 h.fre (fun b hb=>if_neg (by omega)) t m A nn kk hme ((jkc (K:=fun j=>j≤6) (by decide)).batOk hbt) hn hns hmay).mono ?_
 rintro e w' ⟨rfl,c',x,vs',xs',k1,k2⟩
 exact ⟨rfl,c',x,vs',xs',k1,(jkc (by decide)).trans k2⟩
set_option maxRecDepth 100000 in
set_option maxHeartbeats 2000000 in
theorem do_beat0 (h:Wd κ c w N bag gs vg vs tm ns xs) (hc8:∀ b,w.heap.size≤b→c b=10) {K:HT} {os:List Tm} (hb:Bt 0 (N 0) K os) (hn:bag.length+os.length≤99999) :
 Calls Tryz.prog 11 #[.pointer (some ⟨κ.gw,0,none⟩),.agg #[.int .i64 4,.int .i64 0,.int .i64 0,.int .i64 0,.int .i64 0,.int .i64 0,.int .i64 0,.int .i64 0,.int .i64 0,.int .i64 0,.int .i64 0,.int .i64 0,.int .i64 0,.int .i64 0,.int .i64 0,.int .i64 0,.int .i64 0,.int .i64 0,.string ⟨#[]⟩,.slice none 0 0,.int .i64 0,.string ⟨#[]⟩,.slice none 0 0,.string ⟨#[]⟩]] w fun e w'=>e=.returned (.int .i64 0)∧∃ c' x,Wd κ c' w' (updN N 0 K) (bag++os) gs vg vs x ns xs∧Stc (fun j=>j≤6) c c' w w':=by
 have ha:Below w.heap.size w (w.alloc (.cells #[.int .i64 4,.int .i64 0,.int .i64 0,.int .i64 0,.int .i64 0,.int .i64 0,.int .i64 0,.int .i64 0,.int .i64 0,.int .i64 0,.int .i64 0,.int .i64 0,.int .i64 0,.int .i64 0,.int .i64 0,.int .i64 0,.int .i64 0,.int .i64 0,.string ⟨#[]⟩,.slice none 0 0,.int .i64 0,.string ⟨#[]⟩,.slice none 0 0,.string ⟨#[]⟩] 41)):=(Below.refl _ _).alloc (Nat.le_refl _) _
 have HW:=Lib.hid (h.below ha)
 have HB:=Lib.hid (Blk.new w 41 #[.int .i64 4,.int .i64 0,.int .i64 0,.int .i64 0,.int .i64 0,.int .i64 0,.int .i64 0,.int .i64 0,.int .i64 0,.int .i64 0,.int .i64 0,.int .i64 0,.int .i64 0,.int .i64 0,.int .i64 0,.int .i64 0,.int .i64 0,.int .i64 0,.string ⟨#[]⟩,.slice none 0 0,.int .i64 0,.string ⟨#[]⟩,.slice none 0 0,.string ⟨#[]⟩])
 have Ha:=Lib.hid ha
 have hgl:=h.st.lt
 have hm:=Lib.hid (may_beat HW.out)
 have HBt:=Lib.hid hb
 have hcB:c w.heap.size=10:=hc8 _ (Nat.le_refl _)
 clear h ha hb
 go_enter Tryz.func11,Tryz.ntmps11
 go_wp2_with (first
  | (refine jba (o:=⟨some 10,.load 41 (.tmp 3),_,_,_,_⟩) rfl 41 (.tmp 3) rfl w.heap.size (by rfl) _ _ _ HB.out Tryz.underlying41 rfl jgv ?_))
 refine hm.out.mono ?_
 rintro e w2 ⟨rfl,hb2⟩
 have HW2:=Lib.hid (HW.out.below hb2)
 have HB2:=Lib.hid (HB.out.below hb2 HB.out.lt)
 have Hb2:=Lib.hid (Ha.out.trans (hb2.mono Ha.out.size))
 have c5:w2.cell? ⟨κ.gw,5,none⟩=some (.int .i64 tm):=HW2.out.st.cell 5
 have f5:w2.frozen? ⟨κ.gw,5,none⟩=false:=HW2.out.st.frozen 5 (by simp)
 have hne:w.heap.size≠κ.gw:=by omega
 have k0:w2.cell? ⟨w.heap.size,0,none⟩=some (.int .i64 4):=HB2.out.cell 0
 clear HB hm hb2 HW Ha
 go_wp2_with fail
 generalize hx:w2.setCell ⟨κ.gw,5,none⟩ _=w3
 obtain ⟨x,hx⟩:∃ x,w2.setCell ⟨κ.gw,5,none⟩ (.int .i64 x)=w3:=⟨_,hx⟩
 subst hx
 have hT:=HW2.out.tick x
 have HW3:=Lib.hid hT.1
 have HS3:Hid (Stc (fun j=>j≤6) c c w (w2.setCell ⟨κ.gw,5,none⟩ (.int .i64 x))):=Lib.hid ((Stc.of_only (by decide) (Only.new _ Hb2.out) (fun _ _ _=>rfl)).trans (hT.2.mono (by decide) (fun j q=>by omega)))
 have HB3:=Lib.hid (HB2.out.far (p:=⟨κ.gw,5,none⟩) hne (.int .i64 x))
 clear hT k0 c5 f5 HB2 HW2 Hb2
 generalize w2.setCell ⟨κ.gw,5,none⟩ (.int .i64 x)=w3 at *
 have hd3:Below w3.heap.size w3 w3.drew:=(Below.refl _ _).drew
 have HC:=Lib.hid (HBt.out c w3.drew (κ.P 0) ((HW3.out.below hd3).nd 0 (by decide)))
 have R0:w3.cell? ⟨κ.gn,0,none⟩=some (.pointer (some ⟨κ.P 0,0,none⟩)):=HW3.out.row 0 (by decide)
 have HR0:=Lib.hid R0
 clear R0
 refine jan (S:=(fun W=>W.cell? ⟨κ.gw,0,none⟩=some (.slice (some ⟨κ.gn,0,none⟩) 3 κ.cn)∧W.cell? ⟨w.heap.size,1,none⟩=some (.int .i64 0)∧W.cell? ⟨κ.gn,0,none⟩=some (.pointer (some ⟨κ.P 0,0,none⟩)))) [10] (by kernel_rfl) ?_ (fun hHeld=>?_)
 ·exact ⟨HW3.out.st.cell 0,HB3.out.cell 1,HR0.out⟩
 refine tK 0 72 (v:=?_) rfl ?_ ?_;rotate_left 1;(focus intro w hSw;(try dsimp only at hSw);go_simp;try with_reducible rfl);try simp only [Act.put,zsA,zsB,zsC]
 refine tK 1 73 (v:=?_) rfl ?_ ?_;rotate_left 1;(focus intro w hSw;(try dsimp only at hSw);go_simp;try with_reducible rfl);try simp only [Act.put,zsA,zsB,zsC]
 refine tK 2 74 (v:=?_) rfl ?_ ?_;rotate_left 1;(focus intro w hSw;(try dsimp only at hSw);go_simp;try with_reducible rfl);try simp only [Act.put,zsA,zsB,zsC]
 refine tK 3 75 (v:=?_) rfl ?_ ?_;rotate_left 1;(focus intro w hSw;(try dsimp only at hSw);go_simp;try with_reducible rfl);try simp only [Act.put,zsA,zsB,zsC]
 refine tK 4 76 (v:=?_) rfl ?_ ?_;rotate_left 1;(focus intro w hSw;(try dsimp only at hSw);go_simp;try with_reducible rfl);try simp only [Act.put,zsA,zsB,zsC]
 refine tK 5 77 (v:=?_) rfl ?_ ?_;rotate_left 1;(focus intro w hSw;(try dsimp only at hSw);go_simp;try with_reducible rfl);try simp only [Act.put,zsA,zsB,zsC]
 refine tK 6 78 (v:=?_) rfl ?_ ?_;rotate_left 1;(focus intro w hSw;(try dsimp only at hSw);go_simp;try with_reducible rfl);try simp only [Act.put,zsA,zsB,zsC]
 refine tK 7 79 (v:=?_) rfl ?_ ?_;rotate_left 1;(focus intro w hSw;(try dsimp only at hSw);go_simp;try with_reducible rfl);try simp only [Act.put,zsA,zsB,zsC]
 refine tK 8 80 (v:=?_) rfl ?_ ?_;rotate_left 1;(focus intro w hSw;(try dsimp only at hSw);go_simp;try with_reducible rfl);try simp only [Act.put,zsA,zsB,zsC]
 refine jah (i:=9) (o:=⟨some 81,_,_,_,_,_⟩) (by kernel_rfl) rfl (fun K' hK=>?_)
 go_simp
 ((with_reducible refine HC.out.mono ?_);rintro e w5 ⟨v,c5,rfl,s5,hN5,A5,cap5,ms5,rfl,hr5,hm5,hA5⟩;have hW5:Wd κ c5 w5 (updN N 0 K) bag gs vg vs x ns xs:=(HW3.out.below hd3).part s5 (by decide) (by decide) (by decide) (by decide) ((HW3.out.below hd3).bg.stc s5 (by decide)) (fun j hj=>by (by_cases e:j=0);(subst e;rw [updN_at];exact hN5);(rw [updN_ne e];exact ((HW3.out.below hd3).nd j hj).stc s5 e (by omega)));have HPut:=Lib.hid (put_any (cap:=cap5) (hW5.st.cell 2) hW5.st.lt hW5.stc hW5.bg hr5 hm5 (fun h0 a ha=>by rcases hA5 h0 a ha with q | q<;>rw [q]<;>decide) hn);have HW5:=Lib.hid hW5;have S5:=Lib.hid s5;clear hW5 s5 hN5 hr5 hm5 hA5)
 go_wp2_with fail
 refine hK.out _ _ (fun _=>?_) (fun hHeld'=>?_)
 ·exact ⟨HW5.out.st.cell 0,((HB3.out.below hd3 HB3.out.lt).only S5.out.only (by show ¬(c w.heap.size=0∨c w.heap.size=8);rw [hcB];decide)).cell 1,HW5.out.row 0 (by decide)⟩
 have hHeld:=hHeld' rfl
 clear hK K'
 try simp only [Act.put,zsA,zsB,zsC]
 refine jah (i:=10) (o:=⟨some 82,_,_,_,_,_⟩) (by kernel_rfl) rfl (fun K' hK=>?_)
 go_simp
 ((with_reducible refine HPut.out.mono ?_);rintro e w6 ⟨rfl,c6,hB6,hC6⟩)
 go_wp2_with fail
 refine hK.out _ _ (fun h=>absurd h (by decide)) (fun _=>?_)
 clear hK K'
 try simp only [Act.put,zsA,zsB,zsC]
 refine jao (by kernel_rfl) ?_ _
 have s6:=hC6.stc (by decide)
 go_wp2_with fail
 go_ret
 refine ⟨rfl,c6,x,HW5.out.part s6 (by decide) (by decide) (by decide) (by decide) hB6 (fun j hj=>(HW5.out.nd j hj).stc s6 (by omega) (by omega)),?_⟩
 have k1:Stc (fun j=>j≤6) c c w3 w3.drew:=Stc.of_only (by decide) (Only.new _ hd3) (fun _ _ _=>rfl)
 exact ((HS3.out.trans k1).trans (S5.out.mono (by decide) (fun j q=>by omega))).trans (s6.mono (by decide) (fun j q=>by omega))
theorem do_beat (h:Wd κ c w N bag gs vg vs tm ns xs) {K:HT} {os:List Tm} (hb:Bt 0 (N 0) K os) (hn:bag.length+os.length≤99999) :
 Calls Tryz.prog 11 #[.pointer (some ⟨κ.gw,0,none⟩),.agg #[.int .i64 4,.int .i64 0,.int .i64 0,.int .i64 0,.int .i64 0,.int .i64 0,.int .i64 0,.int .i64 0,.int .i64 0,.int .i64 0,.int .i64 0,.int .i64 0,.int .i64 0,.int .i64 0,.int .i64 0,.int .i64 0,.int .i64 0,.int .i64 0,.string ⟨#[]⟩,.slice none 0 0,.int .i64 0,.string ⟨#[]⟩,.slice none 0 0,.string ⟨#[]⟩]] w fun e w'=>e=.returned (.int .i64 0)∧∃ c' x,Wd κ c' w' (updN N 0 K) (bag++os) gs vg vs x ns xs∧Stc (fun j=>j≤6) c c' w w':=by
 refine (do_beat0 h.fre (fun b hb=>if_neg (by omega)) hb hn).mono ?_
 rintro e w' ⟨rfl,c',x,k1,k2⟩
 exact ⟨rfl,c',x,k1,(jkc (by decide)).trans k2⟩
end
end
end Db
end
end Go.Proofs.YtcchekmejnhlmaaGreat
