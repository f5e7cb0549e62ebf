/- Joined texts. -/
import Derived.Test.YtcchekmejnhlmaaGreatK4
import Derived.Test.YtcchekmejnhlmaaGreatK5
import Derived.Test.YtcchekmejnhlmaaGreatK6
import Derived.Test.YtcchekmejnhlmaaGreatK8
import Derived.Test.YtcchekmejnhlmaaGreatShelf
import Derived.Shelf.RegionOpenPlain
import Derived.Laws.Externs
import Derived.Laws.NewBlocks
import Derived.Maps.OwnOps
import Derived.KernelRfl
namespace Go.Proofs.YtcchekmejnhlmaaGreat
set_option linter.unusedVariables false
set_option maxHeartbeats 4000000
section
open Go.RowKit
namespace Db
def batC (p:Int×Int):List Value:=[.string ⟨#[115]⟩,.int .i64 p.1,.int .i64 p.2]
theorem bat_reads {w:World} {D:Nat→Prop} {p:Int×Int} {A:Option Addr} {n c:Nat} (h:BatOk w D (some p) A n c):n=1∧Reads w w.heap.size 3 A 1 (batC p):=by
 obtain ⟨h1,h2,b,cur,e,fz,h3,h4,h5,h6,h7,h8,h9,h10⟩:=h
 refine ⟨h1,rfl,fun _=>⟨b,0,h3,(Array.getElem?_eq_some_iff.1 h4).1,fun j u hj=>?_⟩⟩
 rw [Nat.zero_add,cell_of_row w b j cur e fz h4]
 match j,hj with
 | 0,hj=>cases hj;exact h7
 | 1,hj=>cases hj;exact h8
 | 2,hj=>cases hj;exact h9
 | k+3,hj=>cases hj
theorem bat_own {w:World} {base:Nat} {p:Int×Int} {v:Value} (h:w.ownsRow base 46 3 v 1 (batC p)):∃ A c,v=.slice A 1 c∧BatOk w (fun b=>base≤b) (some p) A 1 c:=by
 obtain ⟨A,c,rfl,_,_⟩:=jar h
 obtain ⟨g,rfl,hg,_⟩:=jcr h (by decide)
 obtain ⟨cur,h1,h2,h3,h4,h5,h6⟩:=jff h
 have hc:∀ i,i<3→cur[i]? =(batC p)[i]?:=fun i hi=>by
  rw [←h6,List.getElem?_take,if_pos (by omega),Array.getElem?_toList]
 exact ⟨_,_,rfl,rfl,h3,g,cur,_,(0,0),rfl,h2,fun i _ q=>by omega,h5,hc 0 (by decide),hc 1 (by decide),hc 2 (by decide),h1⟩
theorem bat_copy {w:World} {D:Nat→Prop} {p:Option (Int×Int)} {A:Option Addr} {n c:Nat} (h:BatOk w D p A n c):∃ A' n' c' w',(Builtin.append_ #[34,34] 34 #[.slice none 0 0,.slice A n c]).run Tryz.prog w=.ok (.slice A' n' c') w'∧BatOk w' (fun b=>w.heap.size≤b) p A' n' c'∧Below w.heap.size w w':=by
 cases p with
 | none =>
   obtain ⟨rfl,rfl,rfl⟩:=h
   exact ⟨_,_,_,_,jdz w _,⟨rfl,rfl,rfl⟩,Below.refl _ _⟩
 | some p =>
   obtain ⟨rfl,hr⟩:=bat_reads h
   obtain ⟨i0,hi,hz0,hz1,hz2⟩:=info_parts jid
   obtain ⟨v',w',k1,k2,k3,_⟩:=jix (P:=Tryz.prog) w w.heap.size 34 34 46 i0 _ 3 32 Tryz.underlying34 hi hz0 hz1 hz2 rfl (by decide) (.slice none 0 0) 0 [] (jcu _ _ _ _) w.heap.size A 1 c (batC p) hr (by intro u hu;simp only [batC,List.mem_cons,List.not_mem_nil,or_false] at hu;rcases hu with rfl | rfl | rfl<;>rfl) (by decide) (by decide) (Nat.le_refl _)
   obtain ⟨A',c',rfl,hb⟩:=bat_own k2
   exact ⟨_,_,_,_,k1,hb,⟨k3.os,k3.tape,k3.output,k3.size,fun k hk=>k3.block k hk (by simp [Value.ownBlock])⟩⟩
theorem jgl {P:Program} {ops:Array Oper} {rest:List Oper} {o:Oper} {a:Act} {w:World} {Q:Exit→Act→World→Prop} (hg:o.guard=none) (d x:Operand) (dT sT:TypeId) (hop:o.op=Op.call { callee:=Callee.builtin Builtin.append,args:=#[d,x],argTypes:=#[dT,sT] })
 (v u:Value) (hd:a.eval d=v) (hx:a.eval x=u) {v':Value} {w':World} (hr:(Builtin.append_ #[dT,sT] o.type #[v,u]).run P w=.ok v' w') (hK:wpList P ops Q rest (a.put o.dst v') w'):wpList P ops Q (o::rest) a w :=
 wpList_plain hg fun K hKK=>by
  unfold Oper.wp
  simp [execOp,hop,resolve,invoke,builtin,hd,hx,hr,Result.andThen]
  exact hKK _ _ hK
set_option maxRecDepth 100000 in
set_option maxHeartbeats 1000000 in
theorem jcy {w:World} {D:Nat→Prop} {p:Option (Int×Int)} (m:Ms) (h:BatOk w D p m.ba m.bn m.bc):Calls Tryz.prog 33 #[msV m] w fun e w'=>∃ A n c,e=.returned (msV (m.bat A n c))∧BatOk w' (fun b=>w.heap.size≤b) p A n c∧Below w.heap.size w w':=by
 obtain ⟨k,fr,to,vw,nm,at_,cm,rd,cl,se,nu,co,ag,un,sr,ba,bn,bc⟩:=m
 have hb0:Below w.heap.size w (w.alloc (.cells #[.int .i64 k,.int .i64 fr,.int .i64 to,.int .i64 vw,.int .i64 nm,.int .i64 at_,.int .i64 cm,.int .i64 rd,.int .i64 cl,.int .i64 se,.int .i64 nu,.int .i64 co,.int .i64 ag,.int .i64 un,.string sr,.slice ba bn bc,.int .i64 0,.string ⟨#[]⟩,.slice none 0 0,.string ⟨#[]⟩] 39)):=(Below.refl _ _).alloc (Nat.le_refl _) _
 have hb1:Below w.heap.size w ((w.alloc (.cells #[.int .i64 k,.int .i64 fr,.int .i64 to,.int .i64 vw,.int .i64 nm,.int .i64 at_,.int .i64 cm,.int .i64 rd,.int .i64 cl,.int .i64 se,.int .i64 nu,.int .i64 co,.int .i64 ag,.int .i64 un,.string sr,.slice ba bn bc,.int .i64 0,.string ⟨#[]⟩,.slice none 0 0,.string ⟨#[]⟩] 39)).alloc (.cells #[.int .i64 0,.int .i64 0,.int .i64 0,.int .i64 0,.int .i64 0,.int .i64 0,.int .i64 0,.int .i64 0,.int .i64 0,.int .i64 0,.int .i64 0,.int .i64 0,.int .i64 0,.int .i64 0,.string ⟨#[]⟩,.slice none 0 0,.int .i64 0,.string ⟨#[]⟩,.slice none 0 0,.string ⟨#[]⟩] 39)):=hb0.alloc (by simp) _
 have HB:=(Blk.new w 39 #[.int .i64 k,.int .i64 fr,.int .i64 to,.int .i64 vw,.int .i64 nm,.int .i64 at_,.int .i64 cm,.int .i64 rd,.int .i64 cl,.int .i64 se,.int .i64 nu,.int .i64 co,.int .i64 ag,.int .i64 un,.string sr,.slice ba bn bc,.int .i64 0,.string ⟨#[]⟩,.slice none 0 0,.string ⟨#[]⟩]).alloc (.cells #[.int .i64 0,.int .i64 0,.int .i64 0,.int .i64 0,.int .i64 0,.int .i64 0,.int .i64 0,.int .i64 0,.int .i64 0,.int .i64 0,.int .i64 0,.int .i64 0,.int .i64 0,.int .i64 0,.string ⟨#[]⟩,.slice none 0 0,.int .i64 0,.string ⟨#[]⟩,.slice none 0 0,.string ⟨#[]⟩] 39)
 have HZ:=jfx (W:=w.alloc (.cells #[.int .i64 k,.int .i64 fr,.int .i64 to,.int .i64 vw,.int .i64 nm,.int .i64 at_,.int .i64 cm,.int .i64 rd,.int .i64 cl,.int .i64 se,.int .i64 nu,.int .i64 co,.int .i64 ag,.int .i64 un,.string sr,.slice ba bn bc,.int .i64 0,.string ⟨#[]⟩,.slice none 0 0,.string ⟨#[]⟩] 39)) (g:=w.heap.size+1) 39 #[.int .i64 0,.int .i64 0,.int .i64 0,.int .i64 0,.int .i64 0,.int .i64 0,.int .i64 0,.int .i64 0,.int .i64 0,.int .i64 0,.int .i64 0,.int .i64 0,.int .i64 0,.int .i64 0,.string ⟨#[]⟩,.slice none 0 0,.int .i64 0,.string ⟨#[]⟩,.slice none 0 0,.string ⟨#[]⟩] (by simp)
 have hsz:((w.alloc (.cells #[.int .i64 k,.int .i64 fr,.int .i64 to,.int .i64 vw,.int .i64 nm,.int .i64 at_,.int .i64 cm,.int .i64 rd,.int .i64 cl,.int .i64 se,.int .i64 nu,.int .i64 co,.int .i64 ag,.int .i64 un,.string sr,.slice ba bn bc,.int .i64 0,.string ⟨#[]⟩,.slice none 0 0,.string ⟨#[]⟩] 39)).alloc (.cells #[.int .i64 0,.int .i64 0,.int .i64 0,.int .i64 0,.int .i64 0,.int .i64 0,.int .i64 0,.int .i64 0,.int .i64 0,.int .i64 0,.int .i64 0,.int .i64 0,.int .i64 0,.int .i64 0,.string ⟨#[]⟩,.slice none 0 0,.int .i64 0,.string ⟨#[]⟩,.slice none 0 0,.string ⟨#[]⟩] 39)).heap.size=w.heap.size+2:=by simp
 obtain ⟨A2,n2,c2,w2,hrun,hbt,hb2⟩:=bat_copy (h.below hb1)
 have Hsz:=Lib.hid hsz
 have Hbt:=Lib.hid hbt
 have Hb2:=Lib.hid hb2
 have HB:=Lib.hid HB
 have HZ:=Lib.hid HZ
 have Hb1:=Lib.hid hb1
 have cb:((w.alloc (.cells #[.int .i64 k,.int .i64 fr,.int .i64 to,.int .i64 vw,.int .i64 nm,.int .i64 at_,.int .i64 cm,.int .i64 rd,.int .i64 cl,.int .i64 se,.int .i64 nu,.int .i64 co,.int .i64 ag,.int .i64 un,.string sr,.slice ba bn bc,.int .i64 0,.string ⟨#[]⟩,.slice none 0 0,.string ⟨#[]⟩] 39)).alloc (.cells #[.int .i64 0,.int .i64 0,.int .i64 0,.int .i64 0,.int .i64 0,.int .i64 0,.int .i64 0,.int .i64 0,.int .i64 0,.int .i64 0,.int .i64 0,.int .i64 0,.int .i64 0,.int .i64 0,.string ⟨#[]⟩,.slice none 0 0,.int .i64 0,.string ⟨#[]⟩,.slice none 0 0,.string ⟨#[]⟩] 39)).cell? ⟨w.heap.size,15,none⟩=some (.slice ba bn bc):=HB.out.cell 15
 have fb:=(HB.out.below hb2 HB.out.lt).frozen 15
 have cb2:=(HB.out.below hb2 HB.out.lt).cell 15
 clear hsz hbt hb2 hb1 hb0 h
 unfold msV
 simp only
 go_enter Tryz.func33,Tryz.ntmps33
 go_wp2_with (at_builtin;refine jgl rfl (.const (.slice none 0 0)) (.tmp 4) 34 34 rfl (.slice none 0 0) (.slice ba bn bc) (by rfl) (by rfl) hrun ?_;refine Hid.out ?_)
 clear hrun cb
 have HB2:=Lib.hid (HB.out.below Hb2.out HB.out.lt)
 have HZ2:=Lib.hid (HZ.out.below Hb2.out HZ.out.lt)
 have Hb2':Hid (Below w.heap.size w w2):=Lib.hid (Hb1.out.trans (Hb2.out.mono Hb1.out.size))
 have Hbt2:Hid (BatOk w2 (fun b=>w.heap.size+2≤b∧b<w2.heap.size) p A2 n2 c2):=Lib.hid (Hbt.out.mono (fun b hl hb=>⟨by have:=Hsz.out;omega,hl⟩))
 have hs2:w.heap.size+2≤w2.heap.size:=by have:=Hsz.out;have:=Hb2.out.size;omega
 clear HB HZ Hb2 Hb1 Hbt Hsz cb2 fb
 have fb:=HB2.out.frozen 15
 have cb2:=HB2.out.cell 15
 have cb6:=HB2.out.cell 16
 have cb7:=HB2.out.cell 17
 have cb8:=HB2.out.cell 18
 refine Lib.hid ?_
 go_wp2_with fail
 have HB3:Hid (Blk (w2.setCell ⟨w.heap.size,15,none⟩ (.slice A2 n2 c2)) w.heap.size 39 #[.int .i64 k,.int .i64 fr,.int .i64 to,.int .i64 vw,.int .i64 nm,.int .i64 at_,.int .i64 cm,.int .i64 rd,.int .i64 cl,.int .i64 se,.int .i64 nu,.int .i64 co,.int .i64 ag,.int .i64 un,.string sr,.slice A2 n2 c2,.int .i64 0,.string ⟨#[]⟩,.slice none 0 0,.string ⟨#[]⟩]):=HB2.out.set_ 15 _
 have HZ3:=Lib.hid (HZ2.out.far (p:=⟨w.heap.size,15,none⟩) (by show w.heap.size+1≠w.heap.size;omega) (.slice A2 n2 c2))
 have Hb3:=Lib.hid (Hb2'.out.setCell (p:=⟨w.heap.size,15,none⟩) (Nat.le_refl _) (.slice A2 n2 c2))
 have Hbt3:=Lib.hid (Hbt2.out.only ((Only.refl (fun k=>k=w.heap.size) w2).setCell (p:=⟨w.heap.size,15,none⟩) (fun _=>rfl) (.slice A2 n2 c2)) (fun b _ hb q=>by omega))
 have hs3:(w2.setCell ⟨w.heap.size,15,none⟩ (.slice A2 n2 c2)).heap.size=w2.heap.size:=by simp [World.setCell]
 clear HB2 HZ2 Hb2' Hbt2 fb cb2 cb6 cb7 cb8
 generalize w2.setCell ⟨w.heap.size,15,none⟩ (.slice A2 n2 c2)=w3 at *
 refine (cloneLog_any 0 ⟨#[]⟩ none 0 [] Reads.none_ (by simp)).mono ?_
 rintro e w4 ⟨v,rfl,_,hb4,hv⟩
 obtain rfl:=hv rfl
 have HB4:=Lib.hid (HB3.out.below hb4 HB3.out.lt)
 have HZ4:=Lib.hid (HZ3.out.below hb4 HZ3.out.lt)
 have Hb4:=Lib.hid (Hb3.out.trans (hb4.mono Hb3.out.size))
 have Hbt4:=Lib.hid (Hbt3.out.below hb4)
 clear HB3 HZ3 Hb3 hb4 hv Hbt3
 go_wp2_with (first
  | (refine jdq (o:=⟨none,.store 37 (.tmp 10) (.tmp 9),_,_,_,_⟩) rfl 37 (.tmp 10) (.tmp 9) rfl w.heap.size 16 #[.int .i64 0,.string ⟨#[]⟩,.slice none 0 0] (by rfl) (by rfl) _ _ HB4.out (by simp) info_log (by simp [Value.oneCell']) ?_;intro w5 HB5 ho5 _;refine Hid.out ?_))
 have HB5:Hid (Blk w5 w.heap.size 39 #[.int .i64 k,.int .i64 fr,.int .i64 to,.int .i64 vw,.int .i64 nm,.int .i64 at_,.int .i64 cm,.int .i64 rd,.int .i64 cl,.int .i64 se,.int .i64 nu,.int .i64 co,.int .i64 ag,.int .i64 un,.string sr,.slice A2 n2 c2,.int .i64 0,.string ⟨#[]⟩,.slice none 0 0,.string ⟨#[]⟩]):=HB5
 have HZ5:=Lib.hid (HZ4.out.only ho5 (by omega))
 have Hb5:=Lib.hid (Hb4.out.trans (ho5.below (B:=w.heap.size) (fun j hj q=>by omega) Hb4.out.size))
 have Hbt5:=Lib.hid (Hbt4.out.only ho5 (fun b _ hb q=>by omega))
 clear ho5 HB4 HZ4 Hb4 Hbt4
 refine Lib.hid ?_
 go_wp2_with (first
  | (refine jba (o:=⟨some 11,.load 39 (.tmp 1),_,_,_,_⟩) rfl 39 (.tmp 1) rfl w.heap.size (by rfl) _ _ _ HB5.out Tryz.underlying39 rfl jaj ?_;refine Hid.out ?_))
 refine Lib.hid ?_
 go_wp2_with (first
  | (refine jap (o:=⟨none,.store 39 (.tmp 2) (.tmp 11),_,_,_,_⟩) rfl 39 (.tmp 2) (.tmp 11) rfl (w.heap.size+1) #[.int .i64 k,.int .i64 fr,.int .i64 to,.int .i64 vw,.int .i64 nm,.int .i64 at_,.int .i64 cm,.int .i64 rd,.int .i64 cl,.int .i64 se,.int .i64 nu,.int .i64 co,.int .i64 ag,.int .i64 un,.string sr,.slice A2 n2 c2,.int .i64 0,.string ⟨#[]⟩,.slice none 0 0,.string ⟨#[]⟩] (by rfl) (by rfl) _ _ HZ5.out (by rfl) jaj (by simp [Value.oneCell']) ?_;intro w6 HZ6 ho6 _))
 have HZ6:=Lib.hid HZ6
 have Hb6:=Lib.hid (Hb5.out.trans (ho6.below (B:=w.heap.size) (fun j hj q=>by omega) Hb5.out.size))
 refine bodyPost_ret (results_blk rfl HZ6.out (by rfl) _ Tryz.underlying39 rfl jaj) rfl ?_
 exact ⟨A2,n2,c2,rfl,(Hbt5.out.only ho6 (fun b _ hb q=>by omega)).mono (fun b _ hb=>by omega),Hb6.out⟩
end Db
end
section
open Go.RowKit
namespace Db
structure Bag (w:World) (g:Nat) (ms:List Ms) (v:Value):Prop where
 blk:Bx w g #[v]
 row:w.ownsRow 0 39 20 v ms.length (ms.flatMap msC)
 ne_:v.ownBlock≠some g
def bagF (g:Nat) (v:Value) (k:Nat):Prop:=k=g∨v.ownBlock=some k
section
variable {w w':World} {g:Nat} {ms:List Ms} {v:Value} {p:Option (Int×Int)} {D:Nat→Prop}
theorem Bag.only {S:Nat→Prop} (h:Bag w g ms v) (ho:Only S w w') (hs:∀ k,bagF g v k→¬S k):Bag w' g ms v:=⟨h.blk.only ho (hs g (.inl rfl)),jbb h.row ho (fun k hk=>hs k (.inr hk)),h.ne_⟩
theorem Bag.below (h:Bag w g ms v) (hb:Below w.heap.size w w'):Bag w' g ms v:=h.only (Only.new (fun _=>False) hb) (fun _ _ q=>q)
theorem Bag.lt (h:Bag w g ms v) {k:Nat} (hk:bagF g v k):k<w.heap.size:=by
 rcases hk with rfl | hk
 ·exact h.blk.lt
 ·exact (jcf h.row hk).2
theorem Bag.ne (h:Bag w g ms v) {k:Nat} (hk:v.ownBlock=some k):k≠g:=fun q=>h.ne_ (by rw [hk,q])
set_option maxRecDepth 100000 in
theorem bagLen_any (h:Bag w g ms v):Calls Tryz.prog 44 #[.pointer (some ⟨g,0,none⟩)] w fun e w'=>e=.returned (.int .i64 (ms.length:Int))∧w=w':=by
 obtain ⟨A,c,rfl,_,_⟩:=jar h.row
 have c0:w.cell? ⟨g,0,none⟩=some (.slice A ms.length c):=h.blk.cell 0
 clear h
 go_enter Tryz.func44,Tryz.ntmps44
 go_wp2_with fail
 go_ret
 exact ⟨rfl,rfl⟩
set_option maxRecDepth 100000 in
theorem bagAt_any (h:Bag w g ms v) (k:Nat) (hk:k<ms.length):Calls Tryz.prog 51 #[.pointer (some ⟨g,0,none⟩),.int .i64 (k:Int)] w fun e w'=>e=.returned (.int .i64 0)∧w=w':=by
 obtain ⟨A,c,rfl,_,_⟩:=jar h.row
 have c0:w.cell? ⟨g,0,none⟩=some (.slice A ms.length c):=h.blk.cell 0
 have hd:decide ((k:Int) ≥ (ms.length:Int))=false:=decide_eq_false (by omega)
 have hd2:¬(ms.length:Int)≤(k:Int):=by omega
 clear h
 go_enter Tryz.func51,Tryz.ntmps51
 go_wp2_with fail
 go_ret
 exact ⟨rfl,rfl⟩
set_option maxRecDepth 100000 in
set_option maxHeartbeats 2000000 in
theorem jjx (h:Bag w g ms v) (m:Ms) (hbt:BatOk w D p m.ba m.bn m.bc) (hn:ms.length≤100000):Calls Tryz.prog 32 #[.pointer (some ⟨g,0,none⟩),msV m] w fun e w'=>e=.returned (.tuple #[])∧∃ A n c v',Bag w' g (ms++[m.bat A n c]) v'∧Only (bagF g v) w w'∧(∀ k,v'.ownBlock=some k→v.ownBlock=some k∨w.heap.size≤k)∧BatOk w' (fun b=>w.heap.size≤b∧v'.ownBlock≠some b) p A n c:=by
 obtain ⟨i0,hi,hz0,hz1,hz2⟩:=info_parts jfg
 obtain ⟨mk,mf,mt,mv,mn,ma,mc,mr,ml,mss,mu,mo,mg,mun,msr,mba,mbn,mbc⟩:=m
 obtain ⟨Ao,co,rfl,_,_⟩:=jar h.row
 have hb1:Below w.heap.size w (w.alloc (.cells #[.int .i64 mk,.int .i64 mf,.int .i64 mt,.int .i64 mv,.int .i64 mn,.int .i64 ma,.int .i64 mc,.int .i64 mr,.int .i64 ml,.int .i64 mss,.int .i64 mu,.int .i64 mo,.int .i64 mg,.int .i64 mun,.string msr,.slice mba mbn mbc,.int .i64 0,.string ⟨#[]⟩,.slice none 0 0,.string ⟨#[]⟩] 39)):=(Below.refl _ _).alloc (Nat.le_refl _) _
 have hgl:=h.blk.lt
 have HS1:=Lib.hid (h.below hb1)
 have HB1:=Lib.hid (Blk.new w 39 #[.int .i64 mk,.int .i64 mf,.int .i64 mt,.int .i64 mv,.int .i64 mn,.int .i64 ma,.int .i64 mc,.int .i64 mr,.int .i64 ml,.int .i64 mss,.int .i64 mu,.int .i64 mo,.int .i64 mg,.int .i64 mun,.string msr,.slice mba mbn mbc,.int .i64 0,.string ⟨#[]⟩,.slice none 0 0,.string ⟨#[]⟩])
 have Hb1:=Lib.hid hb1
 have hvo:∀ k,(Value.slice Ao ms.length co).ownBlock=some k→k<w.heap.size:=fun k hk=>(jcf h.row hk).2
 have HCL:=fun (W:World) (hW:Below w.heap.size w W)=>Lib.hid (jcy (w:=W) ⟨mk,mf,mt,mv,mn,ma,mc,mr,ml,mss,mu,mo,mg,mun,msr,mba,mbn,mbc⟩ (hbt.below hW))
 unfold msV at HCL
 simp only at HCL
 clear h hb1
 unfold msV
 simp only
 go_enter Tryz.func32,Tryz.ntmps32
 go_wp2_with fail
 have hs1:w.heap.size<(w.alloc (.cells #[.int .i64 mk,.int .i64 mf,.int .i64 mt,.int .i64 mv,.int .i64 mn,.int .i64 ma,.int .i64 mc,.int .i64 mr,.int .i64 ml,.int .i64 mss,.int .i64 mu,.int .i64 mo,.int .i64 mg,.int .i64 mun,.string msr,.slice mba mbn mbc,.int .i64 0,.string ⟨#[]⟩,.slice none 0 0,.string ⟨#[]⟩] 39)).heap.size:=by simp
 generalize w.alloc (.cells #[.int .i64 mk,.int .i64 mf,.int .i64 mt,.int .i64 mv,.int .i64 mn,.int .i64 ma,.int .i64 mc,.int .i64 mr,.int .i64 ml,.int .i64 mss,.int .i64 mu,.int .i64 mo,.int .i64 mg,.int .i64 mun,.string msr,.slice mba mbn mbc,.int .i64 0,.string ⟨#[]⟩,.slice none 0 0,.string ⟨#[]⟩] 39)=w1 at *
 have hgv:∀ k,(Value.slice Ao ms.length co).ownBlock=some k→k≠g:=fun k hk=>HS1.out.ne hk
 have HS:Hid (∀ W,Only (fun k=>(Value.slice Ao ms.length co).ownBlock=some k) w1 W→W.cell? ⟨g,0,none⟩=some (.slice Ao ms.length co)∧Blk W w.heap.size 39 #[.int .i64 mk,.int .i64 mf,.int .i64 mt,.int .i64 mv,.int .i64 mn,.int .i64 ma,.int .i64 mc,.int .i64 mr,.int .i64 ml,.int .i64 mss,.int .i64 mu,.int .i64 mo,.int .i64 mg,.int .i64 mun,.string msr,.slice mba mbn mbc,.int .i64 0,.string ⟨#[]⟩,.slice none 0 0,.string ⟨#[]⟩]):=fun W ho =>
  ⟨(HS1.out.blk.only ho (fun q=>hgv g q rfl)).cell 0,HB1.out.only ho (fun q=>by have:=hvo _ q;omega)⟩
 have HW1:Hid (Below w.heap.size w w1.drew):=Lib.hid (Hb1.out.trans (Below.refl w.heap.size w1).drew)
 unfold Ms.bat at HCL
 simp only at HCL
 refine jan (S:=(fun W=>W.cell? ⟨g,0,none⟩=some (.slice Ao ms.length co)∧Blk W w.heap.size 39 #[.int .i64 mk,.int .i64 mf,.int .i64 mt,.int .i64 mv,.int .i64 mn,.int .i64 ma,.int .i64 mc,.int .i64 mr,.int .i64 ml,.int .i64 mss,.int .i64 mu,.int .i64 mo,.int .i64 mg,.int .i64 mun,.string msr,.slice mba mbn mbc,.int .i64 0,.string ⟨#[]⟩,.slice none 0 0,.string ⟨#[]⟩])) [11] (by kernel_rfl) ?_ (fun hHeld=>?_)
 ·exact HS.out _ ((Only.refl _ _).drew)
 refine tK 0 6 (v:=?_) rfl ?_ ?_;rotate_left 1;(focus intro w hSw;(try dsimp only at hSw);go_simp;try with_reducible rfl);try simp only [Act.put,zsA,zsB,zsC]
 refine tK 1 7 (v:=?_) rfl ?_ ?_;rotate_left 1;(focus intro w hSw;(try dsimp only at hSw);go_simp;try with_reducible rfl);try simp only [Act.put,zsA,zsB,zsC]
 refine tK 2 8 (v:=?_) rfl ?_ ?_;rotate_left 1;(focus intro w hSw;(try dsimp only at hSw);go_simp;try with_reducible rfl);try simp only [Act.put,zsA,zsB,zsC]
 refine tK 3 9 (v:=?_) rfl ?_ ?_;rotate_left 1;(focus intro w hSw;(try dsimp only at hSw);go_simp;try with_reducible rfl);try simp only [Act.put,zsA,zsB,zsC]
 refine tK 4 10 (v:=?_) rfl ?_ ?_;rotate_left 1;(focus intro w hSw;(try dsimp only at hSw);go_simp;try with_reducible rfl);try simp only [Act.put,zsA,zsB,zsC]
 refine jaw (i:=5) (oi:=⟨some 11,_,_,_,_,_⟩) rfl (by kernel_rfl) (fun _ _ _ h=>h) (jaz (by rfl) 39 (.tmp 3) rfl w.heap.size 0 (by rfl) 39 #[.int .i64 mk,.int .i64 mf,.int .i64 mt,.int .i64 mv,.int .i64 mn,.int .i64 ma,.int .i64 mc,.int .i64 mr,.int .i64 ml,.int .i64 mss,.int .i64 mu,.int .i64 mo,.int .i64 mg,.int .i64 mun,.string msr,.slice mba mbn mbc,.int .i64 0,.string ⟨#[]⟩,.slice none 0 0,.string ⟨#[]⟩] [.int .i64 mk,.int .i64 mf,.int .i64 mt,.int .i64 mv,.int .i64 mn,.int .i64 ma,.int .i64 mc,.int .i64 mr,.int .i64 ml,.int .i64 mss,.int .i64 mu,.int .i64 mo,.int .i64 mg,.int .i64 mun,.string msr,.slice mba mbn mbc,.int .i64 0,.string ⟨#[]⟩,.slice none 0 0,.string ⟨#[]⟩] _ (fun _ h=>h.2) rfl Tryz.underlying39 rfl jaj) (by assumption) ?_
 try simp only [Act.put,zsA,zsB,zsC]
 refine jah (i:=6) (o:=⟨some 12,_,_,_,_,_⟩) (by kernel_rfl) rfl (fun K' hK=>?_)
 go_simp
 ((with_reducible refine (HCL _ HW1.out).out.mono ?_);rintro e w2 ⟨A2,n2,c2,rfl,hbt2,hb2⟩;have Hbt2:Hid (BatOk w2 (fun b=>w1.heap.size≤b∧b<w2.heap.size) p A2 n2 c2):=Lib.hid (hbt2.mono (fun b hl hb=>⟨hb,hl⟩));clear hbt2;have HO2:Hid (Only (fun k=>(Value.slice Ao ms.length co).ownBlock=some k) w1 w2):=((Only.refl _ w1).drew).trans (Only.new (fun _=>False) hb2) (fun _ _ h=>h.elim);have HR2:=Lib.hid (jbb (jhr HS1.out.row) (Only.new (fun _=>False) hb2) (fun _ _ h=>h));have hs2:=HO2.out.size;clear hb2)
 go_wp2_with fail
 refine hK.out _ _ (fun _=>?_) (fun hHeld'=>?_)
 ·exact HS.out _ HO2.out
 have hHeld:=hHeld' rfl
 clear hK K'
 try simp only [Act.put,zsA,zsB,zsC]
 refine jah (i:=7) (o:=⟨some 13,_,_,_,_,_⟩) (by kernel_rfl) rfl (fun K' hK=>?_)
 go_simp
 refine hK.out _ _ (fun _=>?_) (fun hHeld'=>?_)
 ·exact HS.out _ (HO2.out.alloc _)
 have hHeld:=hHeld' rfl
 clear hK K'
 try simp only [Act.put,zsA,zsB,zsC]
 refine jah (i:=8) (o:=⟨some 14,_,_,_,_,_⟩) (by kernel_rfl) rfl (fun K' hK=>?_)
 (refine jed (o:=⟨some 14,_,_,_,_,_⟩) _ rfl (.tmp 10) (.tmp 13) 30 (by rfl) 0 39 i0 _ 20 216 Tryz.underlying30 hi hz0 hz1 hz2 rfl (by decide) (.slice Ao ms.length co) ms.length _ (by rfl) (HR2.out.alloc _) w2.heap.size (msC ⟨mk,mf,mt,mv,mn,ma,mc,mr,ml,mss,mu,mo,mg,mun,msr,A2,n2,c2⟩) (by rfl) rfl (Blk.new w2 _ _) (jjj _) (by unfold maxLen;omega) (by omega) (Nat.zero_le _) _ rfl ?_;intro gg cap w3 hown3 hgr3 hat3;have HO3:Hid (Only (fun k=>(Value.slice Ao ms.length co).ownBlock=some k) w1 w3):=(HO2.out.alloc _).trans (Only.of_grown (S:=fun k=>(Value.slice Ao ms.length co).ownBlock=some k) hgr3 (fun k hk _=>hk)) (fun _ _ h=>h);have f13:=(HS1.out.blk.only HO3.out (fun q=>hgv g q rfl)).frozen 0 (by simp);have c13:=(HS.out _ HO3.out).1)
 refine hK.out _ _ (fun _=>?_) (fun hHeld'=>?_)
 ·exact HS.out _ HO3.out
 have hHeld:=hHeld' rfl
 clear hK K'
 try simp only [Act.put,zsA,zsB,zsC]
 refine tK 9 15 (v:=?_) rfl ?_ ?_;rotate_left 1;(focus intro w hSw;(try dsimp only at hSw);go_simp;try with_reducible rfl);try simp only [Act.put,zsA,zsB,zsC]
 refine tK 10 16 (v:=?_) rfl ?_ ?_;rotate_left 1;(focus intro w hSw;(try dsimp only at hSw);go_simp;try with_reducible rfl);try simp only [Act.put,zsA,zsB,zsC]
 refine jah (i:=11) (o:=⟨none,_,_,_,_,_⟩) (by kernel_rfl) rfl (fun K' hK=>?_)
 go_simp
 refine hK.out _ _ (fun h=>absurd h (by decide)) (fun _=>?_)
 clear hK K'
 try simp only [Act.put]
 refine jao (by kernel_rfl) ?_ _
 have hgg:gg≠g:=by
  rcases hat3 with q | q
  ·exact hgv _ q
  ·rw [q];have:=HS1.out.blk.lt;simp;omega
 have HB3:Hid (Bx w3 g #[.slice Ao ms.length co]):=HS1.out.blk.only HO3.out (fun q=>hgv g q rfl)
 go_wp2_with fail
 go_end0
 have hs12:w1.heap.size≤w2.heap.size:=hs2
 refine ⟨rfl,A2,n2,c2,.slice (some ⟨gg,0,none⟩) (ms.length+1) cap,⟨HB3.out.set_ 0 _,?_,fun q=>hgg (by simpa [Value.ownBlock] using q)⟩,?_,?_,?_⟩
 ·rw [mss_snoc,List.length_append]
  exact jeb hown3 (p:=⟨g,0,none⟩) (by intro q;exact hgg (by simpa [Value.ownBlock] using q)) _
 ·exact ((Only.new (bagF g (.slice Ao ms.length co)) Hb1.out).trans HO3.out (fun j _ q=>.inr q)).setCell (p:=⟨g,0,none⟩) (fun _=>.inl rfl) _
 ·intro k hk
  have hk':gg=k:=by simpa [Value.ownBlock] using hk
  subst hk'
  rcases hat3 with q | q
  ·exact .inl q
  ·right;rw [q];simp;omega
 ·have h23:Only (fun k=>(Value.slice Ao ms.length co).ownBlock=some k) w2 w3:=((Only.refl _ w2).alloc _).trans (Only.of_grown (S:=fun k=>(Value.slice Ao ms.length co).ownBlock=some k) hgr3 (fun k hk _=>hk)) (fun _ _ h=>h)
  have hgl1:g<w1.heap.size:=HS1.out.blk.lt
  refine ((Hbt2.out.only h23 (fun b _ hb q=>by have:=hvo _ q;omega)).only ((Only.refl (fun k=>k=g) w3).setCell (p:=⟨g,0,none⟩) (fun _=>rfl) _) (fun b _ hb q=>by omega)).mono ?_
  intro b hb3 hb
  refine ⟨by omega,fun q=>?_⟩
  have hk':gg=b:=by simpa [Value.ownBlock] using q
  subst hk'
  rcases hat3 with q | q
  ·have:=hvo _ q;omega
  ·have e:gg=w2.heap.size+1:=by rw [q];simp
   omega
end
end Db
end
section
open Go.RowKit Go.Shelf
theorem only_ownR {w w':World} {g n cap:Nat} (h:Only (fun k=>k=g) w w'):Only (fun k=>Value.ownBlock (.slice (some ⟨g,0,none⟩) n cap)=some k) w w':=h.mono fun j _ hj=>by rw [hj];rfl
end
section
open Go.RowKit Go.Shelf
def InsM (w:World) (base:Nat) (v:Value) (n:Nat) (xs:List Value) (e:Ending) (w':World):Prop :=
 ∃ v',e=.returned v'∧w'.ownsRow base 39 20 v' n xs∧Only (fun k=>v.ownBlock=some k) w w'∧(∀ g,v'.ownBlock=some g→v.ownBlock=some g∨w.heap.size≤g)
set_option maxRecDepth 100000 in
set_option maxHeartbeats 1000000 in
theorem deleteM_any (g m cap i base:Nat) (xs:List Value) (w:World) (hown:w.ownsRow base 39 20 (.slice (some ⟨g,0,none⟩) (m+1) cap) (m+1) xs) (hi:i≤m) (h1x:∀ u∈xs,u.oneCell'=true) (hn:m≤1000000000) :
 Calls Tryz.prog 93 #[.slice (some ⟨g,0,none⟩) (m+1) cap,.int .i64 (i:Int),.int .i64 ((i:Int)+1)] w (InsM w base (.slice (some ⟨g,0,none⟩) (m+1) cap) m (xs.take (i*20)++xs.drop ((i+1)*20))):=by
 obtain ⟨cur,hg,hB,hnc,hcm,hcs,hx⟩:=jff hown
 have hxl:=hown.1
 have hcm':cap≤9223372036854775807:=hcm
 obtain ⟨i0,hi0,hz0,hz1,hz2⟩:=info_parts jfg
 have hdl:(xs.drop ((i+1)*20)).length=(m-i)*20:=by rw [List.length_drop,hxl];omega
 have hrun:∀ ty a c',(i<m→a=⟨g,(i+1)*20,none⟩)→(Builtin.append_ #[30,30] ty #[.slice (some ⟨g,0,none⟩) i cap,.slice (some a) (m-i) c']).run Tryz.prog w.drew=.ok (.slice (some ⟨g,0,none⟩) m cap) (w.drew.setCells g (i*20) (xs.drop ((i+1)*20))):=fun ty a c' ha=>by
  have h:=jhm (P:=Tryz.prog) w.drew 30 30 ty 39 i0 Tryz.underlying30 Tryz.underlying30 hi0 g i cap a (m-i) c' (xs.drop ((i+1)*20)) (by omega) (by rw [hdl,hz1])
   (fun j v hj=>by
     have hjl:=(List.getElem?_eq_some_iff.1 hj).1
     rw [hdl] at hjl
     rw [ha (by omega),jds]
     exact jdj hown (by rwa [List.getElem?_drop] at hj))
   (fun j hj=>jfe hown _ (by rw [hz1];rw [hdl] at hj;omega)) (fun j hj=>jeh hown _) (fun v hv=>h1x v (List.mem_of_mem_drop hv))
  rw [show i+(m-i)=m from by omega,hz1] at h
  exact h
 obtain ⟨W1,hW1⟩:∃ W1,W1=w.drew.setCells g (i*20) (xs.drop ((i+1)*20)):=⟨_,rfl⟩
 have hO1:W1.ownsRow base 39 20 (.slice (some ⟨g,0,none⟩) (m+1) cap) (m+1) (setL xs (i*20) (xs.drop ((i+1)*20))):=by rw [hW1];exact jgf _ _ (own_drewN hown 1)
 have ho1:Only (fun k=>k=g) w W1:=by rw [hW1];exact (Only.refl (fun k=>k=g) w).drew.trans (jbt _ _ _) (fun _ _ h=>h)
 rw [←hW1] at hrun
 clear hW1
 have hO2:=own_cut hO1 m (by omega)
 rw [show m*20=xs.length-20 from by omega,show (i+1)*20=i*20+20 from by omega,del_cells xs (i*20) 20 (by omega)] at hO2
 have hcl:∀ ty c',(Builtin.clear_ #[30] ty #[.slice (some ⟨g,m*20,none⟩) 1 c']).run Tryz.prog W1=.ok (.tuple #[]) (W1.setCells g (m*20) (Builtin.zeroCells (Value.cells (.agg #[.int .i64 0,.int .i64 0,.int .i64 0,.int .i64 0,.int .i64 0,.int .i64 0,.int .i64 0,.int .i64 0,.int .i64 0,.int .i64 0,.int .i64 0,.int .i64 0,.int .i64 0,.int .i64 0,.string ⟨#[]⟩,.slice none 0 0,.int .i64 0,.string ⟨#[]⟩,.slice none 0 0,.string ⟨#[]⟩])) 1).toList):=fun ty c' =>
  run_clear_k W1 30 39 ty _ 20 Tryz.underlying30 (fun w=>by simp [zeroValue,typeInfo,hi0,hz0]) rfl (by simp [Value.cells,Value.oneCell']) g (m*20) 1 c' (by omega) (by omega)
   (fun j hj=>jfe hO1 _ (by omega)) (fun j hj=>jeh hO1 _)
 have hfin:InsM w base (.slice (some ⟨g,0,none⟩) (m+1) cap) m (xs.take (i*20)++xs.drop ((i+1)*20)) (.returned (.slice (some ⟨g,0,none⟩) m cap)) (W1.setCells g (m*20) (Builtin.zeroCells (Value.cells (.agg #[.int .i64 0,.int .i64 0,.int .i64 0,.int .i64 0,.int .i64 0,.int .i64 0,.int .i64 0,.int .i64 0,.int .i64 0,.int .i64 0,.int .i64 0,.int .i64 0,.int .i64 0,.int .i64 0,.string ⟨#[]⟩,.slice none 0 0,.int .i64 0,.string ⟨#[]⟩,.slice none 0 0,.string ⟨#[]⟩])) 1).toList):=by
  refine ⟨_,rfl,?_,only_ownR (ho1.trans (jbt _ _ _) (fun _ _ h=>h)),fun k hk=>.inl hk⟩
  have h:=jgf (Builtin.zeroCells (Value.cells (.agg #[.int .i64 0,.int .i64 0,.int .i64 0,.int .i64 0,.int .i64 0,.int .i64 0,.int .i64 0,.int .i64 0,.int .i64 0,.int .i64 0,.int .i64 0,.int .i64 0,.int .i64 0,.int .i64 0,.string ⟨#[]⟩,.slice none 0 0,.int .i64 0,.string ⟨#[]⟩,.slice none 0 0,.string ⟨#[]⟩])) 1).toList (m*20) hO2
  rw [setL_past _ _ _ (by rw [hO2.1];exact Nat.le_refl _)] at h
  rw [show (i+1)*20=i*20+20 from by omega]
  exact h
 have Hfin:=Lib.hid hfin
 generalize W1.setCells g (m*20) (Builtin.zeroCells (Value.cells (.agg #[.int .i64 0,.int .i64 0,.int .i64 0,.int .i64 0,.int .i64 0,.int .i64 0,.int .i64 0,.int .i64 0,.int .i64 0,.int .i64 0,.int .i64 0,.int .i64 0,.int .i64 0,.int .i64 0,.string ⟨#[]⟩,.slice none 0 0,.int .i64 0,.string ⟨#[]⟩,.slice none 0 0,.string ⟨#[]⟩])) 1).toList=W2 at *
 have mixed:Tryz.prog.follows .mixedOrders=true:=by kernel_rfl
 have hb0:¬((i:Int)=(i:Int)+1):=by omega
 have hw1:IntKind.i64.wrap ((i:Int)+1)=(i:Int)+1:=by rw [IntKind.wrap_i64];omega
 have hb1:(0:Int)≤(i:Int)+1:=by omega
 have htn:((i:Int)+1).toNat=i+1:=by omega
 have hic:i≤cap:=by omega
 have hjc:i+1≤cap:=by omega
 have hcm2:¬(cap=m):=by omega
 have hci:¬(cap=i):=by omega
 clear hfin hO1 ho1 hO2 hown hx hB hxl hcs hdl
 by_cases him:i=m
 ·subst him
  have hrun':=fun ty a c'=>hrun ty a c' (fun h=>absurd h (by omega))
  rw [Nat.sub_self] at hrun'
  have hii:(i:Int)≤(i:Int)+1:=by omega
  have Hrun:=Lib.hid hrun'
  clear hrun hrun'
  by_cases hce:cap=i+1
  ·subst hce
   have hii2:i≤i+1:=by omega
   go_enter Tryz.func93,Tryz.ntmps93
   go_wp2_with fail
   go_region_law_o (refine jct rfl (.tmp 22) (.tmp 25) 30 30 rfl (.slice (some ⟨g,0,none⟩) i (i+1)) (.slice (some ⟨g,0,none⟩) 0 0) (by simp [Act.eval,Act.put]) (by simp [Act.eval,Act.put]) (Hrun.out _ _ _) ?_)
   go_wp2_with fail
   go_ret
   exact Hfin.out
  ·go_enter Tryz.func93,Tryz.ntmps93
   go_wp2_with fail
   go_region_law_o (refine jct rfl (.tmp 22) (.tmp 25) 30 30 rfl (.slice (some ⟨g,0,none⟩) i cap) (.slice (some ⟨g,(i+1)*20,none⟩) 0 (cap-(i+1))) (by simp [Act.eval,Act.put]) (by simp [Act.eval,Act.put]) (Hrun.out _ _ _) ?_)
   go_wp2_with fail
   go_ret
   exact Hfin.out
 ·have Hrun:=Lib.hid (fun ty c'=>hrun ty ⟨g,(i+1)*20,none⟩ c' (fun _=>rfl))
  have hce:¬(cap=i+1):=by omega
  clear hrun
  go_enter Tryz.func93,Tryz.ntmps93
  go_wp2_with fail
  go_region_law_o (refine jct rfl (.tmp 22) (.tmp 25) 30 30 rfl (.slice (some ⟨g,0,none⟩) i cap) (.slice (some ⟨g,(i+1)*20,none⟩) (m-i) (cap-(i+1))) (by simp [Act.eval,Act.put]) (by simp [Act.eval,Act.put]) (Hrun.out _ _) ?_)
  go_wp2_with fail
  go_ret
  exact Hfin.out
end
section
open Go.RowKit
end
section
open Go.RowKit
theorem flat_take {α:Type} (f:α→List Value) (size:Nat) (hf:∀ x,(f x).length=size) (xs:List α) (i:Nat):(xs.flatMap f).take (i*size)=(xs.take i).flatMap f:=by
 induction xs generalizing i with
 | nil=>simp
 | cons x xs ih =>
   cases i with
   | zero=>simp
   | succ i =>
     rw [List.flatMap_cons,List.take_succ_cons,List.flatMap_cons,List.take_append,List.take_of_length_le (by rw [hf,Nat.add_mul];omega),hf,show (i+1)*size-size=i*size from by rw [Nat.add_mul];omega,ih]
theorem flat_drop {α:Type} (f:α→List Value) (size:Nat) (hf:∀ x,(f x).length=size) (xs:List α) (i:Nat):(xs.flatMap f).drop (i*size)=(xs.drop i).flatMap f:=by
 induction xs generalizing i with
 | nil=>simp
 | cons x xs ih =>
   cases i with
   | zero=>simp
   | succ i =>
     rw [List.flatMap_cons,List.drop_succ_cons,List.drop_append,List.drop_eq_nil_of_le (by rw [hf,Nat.add_mul];omega),hf,show (i+1)*size-size=i*size from by rw [Nat.add_mul];omega,ih,List.nil_append]
end
section
open Go.RowKit
namespace Db
theorem del_mss (ms:List Ms) (k:Nat):(ms.flatMap msC).take (k*20)++(ms.flatMap msC).drop ((k+1)*20)=(ms.eraseIdx k).flatMap msC:=by
 rw [flat_take msC 20 (fun _=>rfl),flat_drop msC 20 (fun _=>rfl),List.eraseIdx_eq_take_drop_succ,List.flatMap_append]
theorem jkl {w:World} {base g n cap:Nat} {ms:List Ms} (h:w.ownsRow base 39 20 (.slice (some ⟨g,0,none⟩) n cap) n (ms.flatMap msC)) (k:Nat) (hk:k<ms.length):w.rangeAt g (k*20) (msC ms[k]):=by
 intro j v hj
 refine jdj h ?_
 rw [jbz msC 20 (fun _=>rfl) ms k j hk ((List.getElem?_eq_some_iff.1 hj).1)]
 exact hj
section
variable {w w':World} {g:Nat} {ms:List Ms} {v:Value}
set_option maxRecDepth 100000 in
set_option maxHeartbeats 2000000 in
theorem bagTake_any (h:Bag w g ms v) (k:Nat) (hk:k<ms.length) (hn:ms.length≤100000):Calls Tryz.prog 48 #[.pointer (some ⟨g,0,none⟩),.int .i64 (k:Int)] w fun e w'=>e=.returned (.tuple #[msV ms[k],.int .i64 0])∧∃ v',Bag w' g (ms.eraseIdx k) v'∧Only (bagF g v) w w'∧(∀ k,v'.ownBlock=some k→v.ownBlock=some k∨w.heap.size≤k):=by
 obtain ⟨n,Hn1⟩:∃ n,Hid (ms.length=n+1):=⟨ms.length-1,Lib.hid (by omega)⟩
 obtain ⟨A,c,rfl,_,_⟩:=jar h.row
 obtain ⟨gb,rfl,_,_⟩:=jcr h.row (by omega)
 have hcap:=jer h.row
 have hb1:Below w.heap.size w (w.alloc (.cells #[.int .i64 0,.int .i64 0,.int .i64 0,.int .i64 0,.int .i64 0,.int .i64 0,.int .i64 0,.int .i64 0,.int .i64 0,.int .i64 0,.int .i64 0,.int .i64 0,.int .i64 0,.int .i64 0,.string ⟨#[]⟩,.slice none 0 0,.int .i64 0,.string ⟨#[]⟩,.slice none 0 0,.string ⟨#[]⟩] 39)):=(Below.refl _ _).alloc (Nat.le_refl _) _
 have HS1:=Lib.hid (h.below hb1)
 have HZ1:=Lib.hid (Blk.new w 39 #[.int .i64 0,.int .i64 0,.int .i64 0,.int .i64 0,.int .i64 0,.int .i64 0,.int .i64 0,.int .i64 0,.int .i64 0,.int .i64 0,.int .i64 0,.int .i64 0,.int .i64 0,.int .i64 0,.string ⟨#[]⟩,.slice none 0 0,.int .i64 0,.string ⟨#[]⟩,.slice none 0 0,.string ⟨#[]⟩])
 have Hb1:=Lib.hid hb1
 have hvo:gb<w.heap.size:=(jcf h.row (g:=gb) rfl).2
 have hgl:=h.blk.lt
 have hgv:gb≠g:=h.ne (k:=gb) rfl
 have hm:∃ m,Hid (ms[k]=m):=⟨_,rfl⟩
 obtain ⟨m,Hm⟩:=hm
 have HX:Hid (∀ {W:World},Bag W g ms (.slice (some ⟨gb,0,none⟩) ms.length c)→W.rangeAt gb (k*20) (msC m)):=fun {W} hb=>by rw [←Hm.out];exact jkl hb.row k hk
 rw [show ms[k]=m from Hm.out]
 clear h hb1
 obtain ⟨mk,mf,mt,mv,mn,ma,mc,mr,ml,mss,mu,mo,mg,mun,msr,mba,mbn,mbc⟩:=m
 unfold msV
 simp only
 have hk0:(0:Int)≤(k:Int):=by omega
 have hkn:(k:Int)<(ms.length:Int):=by omega
 have hkm:k<ms.length:=hk
 go_enter Tryz.func48,Tryz.ntmps48
 go_wp2_with fail
 have hs1:w.heap.size<(w.alloc (.cells #[.int .i64 0,.int .i64 0,.int .i64 0,.int .i64 0,.int .i64 0,.int .i64 0,.int .i64 0,.int .i64 0,.int .i64 0,.int .i64 0,.int .i64 0,.int .i64 0,.int .i64 0,.int .i64 0,.string ⟨#[]⟩,.slice none 0 0,.int .i64 0,.string ⟨#[]⟩,.slice none 0 0,.string ⟨#[]⟩] 39)).heap.size:=by simp
 generalize w.alloc (.cells #[.int .i64 0,.int .i64 0,.int .i64 0,.int .i64 0,.int .i64 0,.int .i64 0,.int .i64 0,.int .i64 0,.int .i64 0,.int .i64 0,.int .i64 0,.int .i64 0,.int .i64 0,.int .i64 0,.string ⟨#[]⟩,.slice none 0 0,.int .i64 0,.string ⟨#[]⟩,.slice none 0 0,.string ⟨#[]⟩] 39)=w1 at *
 refine (bagAt_any HS1.out k hk).mono ?_
 rintro e w2 ⟨rfl,rfl⟩
 have c0:w1.cell? ⟨g,0,none⟩=some (.slice (some ⟨gb,0,none⟩) ms.length c):=HS1.out.blk.cell 0
 go_wp2_with (first
  | (refine wpList_load_mid (op:=⟨some 21,.load 39 (.tmp 20),_,_,_,_⟩) rfl 39 (.tmp 20) rfl gb (k*20) (by rfl) (msC ⟨mk,mf,mt,mv,mn,ma,mc,mr,ml,mss,mu,mo,mg,mun,msr,mba,mbn,mbc⟩) _ (HX.out HS1.out) Tryz.underlying39 rfl jaj ?_)
  | (refine jap (o:=⟨none,.store 39 (.tmp 7) (.tmp 21),_,_,_,_⟩) rfl 39 (.tmp 7) (.tmp 21) rfl w1.heap.size #[.int .i64 mk,.int .i64 mf,.int .i64 mt,.int .i64 mv,.int .i64 mn,.int .i64 ma,.int .i64 mc,.int .i64 mr,.int .i64 ml,.int .i64 mss,.int .i64 mu,.int .i64 mo,.int .i64 mg,.int .i64 mun,.string msr,.slice mba mbn mbc,.int .i64 0,.string ⟨#[]⟩,.slice none 0 0,.string ⟨#[]⟩] (by rfl) (by rfl) _ _ (Blk.new w1 39 #[.int .i64 0,.int .i64 0,.int .i64 0,.int .i64 0,.int .i64 0,.int .i64 0,.int .i64 0,.int .i64 0,.int .i64 0,.int .i64 0,.int .i64 0,.int .i64 0,.int .i64 0,.int .i64 0,.string ⟨#[]⟩,.slice none 0 0,.int .i64 0,.string ⟨#[]⟩,.slice none 0 0,.string ⟨#[]⟩]) (by rfl) jaj (by simp [Value.oneCell']) ?_;intro w3 HM3 ho3 hs3;refine Hid.out ?_))
 have HM3:=Lib.hid HM3
 have ha:Below w1.heap.size w1 (w1.alloc (.cells #[.int .i64 0,.int .i64 0,.int .i64 0,.int .i64 0,.int .i64 0,.int .i64 0,.int .i64 0,.int .i64 0,.int .i64 0,.int .i64 0,.int .i64 0,.int .i64 0,.int .i64 0,.int .i64 0,.string ⟨#[]⟩,.slice none 0 0,.int .i64 0,.string ⟨#[]⟩,.slice none 0 0,.string ⟨#[]⟩] 39)):=(Below.refl _ _).alloc (Nat.le_refl _) _
 have h13:Below w1.heap.size w1 w3:=ha.trans (ho3.below (B:=w1.heap.size) (fun k hk q=>by omega) (by simp))
 have HS3:=Lib.hid (HS1.out.below h13)
 have HZ3:=Lib.hid (HZ1.out.below h13 HZ1.out.lt)
 have Hb3:=Lib.hid (Hb1.out.trans (h13.mono Hb1.out.size))
 have hs13:w1.heap.size<w3.heap.size:=by rw [hs3];simp
 clear ho3 hs3 ha h13 HX HS1 HZ1 Hb1 c0
 have HD:Hid (Calls Tryz.prog 93 #[.slice (some ⟨gb,0,none⟩) ms.length c,.int .i64 (k:Int),.int .i64 ((k:Int)+1)] w3 (InsM w3 0 (.slice (some ⟨gb,0,none⟩) ms.length c) n ((ms.eraseIdx k).flatMap msC))):=by
  have hn1:=Hn1.out
  have:=deleteM_any gb n c k 0 (ms.flatMap msC) w3 (by rw [←hn1];exact HS3.out.row) (by omega) (mss_one ms) (by omega)
  rw [del_mss,←hn1] at this
  exact this
 have c0:w3.cell? ⟨g,0,none⟩=some (.slice (some ⟨gb,0,none⟩) ms.length c):=HS3.out.blk.cell 0
 refine Lib.hid ?_
 go_wp2_with fail
 refine HD.out.mono ?_
 rintro e w4 ⟨v4,rfl,hown4,ho4,hv4⟩
 obtain ⟨A4,c4,rfl,_,_⟩:=jar hown4
 have HM4:=Lib.hid (HM3.out.only ho4 (fun q=>by have:gb=w1.heap.size:=(by simpa [Value.ownBlock] using q);omega))
 have HZ4:=Lib.hid (HZ3.out.only ho4 (fun q=>by have:gb=w.heap.size:=(by simpa [Value.ownBlock] using q);omega))
 have HB4:=Lib.hid (HS3.out.blk.only ho4 (fun q=>by have:gb=g:=(by simpa [Value.ownBlock] using q);omega))
 have HO4:=Lib.hid hown4
 have Ho4:=Lib.hid ho4
 have HV4:=Lib.hid hv4
 have c0:w4.cell? ⟨g,0,none⟩=some (.slice (some ⟨gb,0,none⟩) ms.length c):=HB4.out.cell 0
 have f0:=HB4.out.frozen 0 (by simp)
 have hgg:∀ q,(Value.slice A4 n c4).ownBlock=some q→q≠g:=fun q hq=>by
  rcases hv4 q hq with z | z
  ·have:gb=q:=by simpa [Value.ownBlock] using z
   omega
  ·have:=HS3.out.blk.lt;omega
 have Hgg:=Lib.hid hgg
 clear hown4 ho4 hv4 HD HS3 HM3 HZ3 hgg
 have HB5:Hid (Bx (w4.setCell ⟨g,0,none⟩ (.slice A4 n c4)) g #[.slice A4 n c4]):=HB4.out.set_ 0 _
 have HO5:Hid ((w4.setCell ⟨g,0,none⟩ (.slice A4 n c4)).ownsRow 0 39 20 (.slice A4 n c4) n ((ms.eraseIdx k).flatMap msC)):=jeb HO4.out (p:=⟨g,0,none⟩) (fun q=>Hgg.out g q rfl) _
 have HM5:Hid (Blk (w4.setCell ⟨g,0,none⟩ (.slice A4 n c4)) w1.heap.size 39 #[.int .i64 mk,.int .i64 mf,.int .i64 mt,.int .i64 mv,.int .i64 mn,.int .i64 ma,.int .i64 mc,.int .i64 mr,.int .i64 ml,.int .i64 mss,.int .i64 mu,.int .i64 mo,.int .i64 mg,.int .i64 mun,.string msr,.slice mba mbn mbc,.int .i64 0,.string ⟨#[]⟩,.slice none 0 0,.string ⟨#[]⟩]):=HM4.out.far (p:=⟨g,0,none⟩) (by show w1.heap.size≠g;omega) _
 have HZ5:Hid (Blk (w4.setCell ⟨g,0,none⟩ (.slice A4 n c4)) w.heap.size 39 #[.int .i64 0,.int .i64 0,.int .i64 0,.int .i64 0,.int .i64 0,.int .i64 0,.int .i64 0,.int .i64 0,.int .i64 0,.int .i64 0,.int .i64 0,.int .i64 0,.int .i64 0,.int .i64 0,.string ⟨#[]⟩,.slice none 0 0,.int .i64 0,.string ⟨#[]⟩,.slice none 0 0,.string ⟨#[]⟩]):=HZ4.out.far (p:=⟨g,0,none⟩) (by show w.heap.size≠g;omega) _
 have Ho5:Hid (Only (bagF g (.slice (some ⟨gb,0,none⟩) ms.length c)) w (w4.setCell ⟨g,0,none⟩ (.slice A4 n c4))):=((Only.new (bagF g (.slice (some ⟨gb,0,none⟩) ms.length c)) Hb3.out).trans Ho4.out (fun j _ q=>.inr q)).setCell (p:=⟨g,0,none⟩) (fun _=>.inl rfl) _
 have hs5:w.heap.size≤w3.heap.size:=Hb3.out.size
 clear HB4 HO4 HM4 HZ4 Hb3 Ho4
 go_wp2_with (first
  | (refine jba (o:=⟨some 33,.load 39 (.tmp 7),_,_,_,_⟩) rfl 39 (.tmp 7) rfl w1.heap.size (by rfl) _ _ _ HM5.out Tryz.underlying39 rfl jaj ?_)
  | (refine jap (o:=⟨none,.store 39 (.tmp 4) (.tmp 33),_,_,_,_⟩) rfl 39 (.tmp 4) (.tmp 33) rfl w.heap.size #[.int .i64 mk,.int .i64 mf,.int .i64 mt,.int .i64 mv,.int .i64 mn,.int .i64 ma,.int .i64 mc,.int .i64 mr,.int .i64 ml,.int .i64 mss,.int .i64 mu,.int .i64 mo,.int .i64 mg,.int .i64 mun,.string msr,.slice mba mbn mbc,.int .i64 0,.string ⟨#[]⟩,.slice none 0 0,.string ⟨#[]⟩] (by rfl) (by rfl) _ _ HZ5.out (by rfl) jaj (by simp [Value.oneCell']) ?_;intro w6 HZ6 ho6 _;refine Hid.out ?_))
 refine Lib.hid ?_
 go_wp2_with fail
 refine bodyPost_ret (jea rfl HZ6 (by rfl) _ (by rfl) _ Tryz.underlying39 rfl jaj) rfl ?_
 have hge:(ms.eraseIdx k).length=n:=by have:=Hn1.out;rw [List.length_eraseIdx_of_lt hkm];omega
 refine ⟨rfl,.slice A4 n c4,⟨HB5.out.only ho6 (by omega),?_,fun q=>Hgg.out g q rfl⟩,Ho5.out.trans ho6 (fun j hj q=>by omega),fun q hq=>?_⟩
 ·rw [hge]
  exact jbb HO5.out ho6 (fun q hq z=>by
   rcases HV4.out q hq with y | y
   ·have:gb=q:=by simpa [Value.ownBlock] using y
    omega
   ·omega)
 ·rcases HV4.out q hq with y | y
  ·exact .inl y
  ·exact .inr (by omega)
end
end Db
end
section
open Go.RowKit
namespace Db
section
variable {w w':World} {g:Nat} {ms:List Ms} {v:Value} {p:Option (Int×Int)} {D:Nat→Prop}
set_option maxRecDepth 100000 in
set_option maxHeartbeats 2000000 in
theorem bagCopy_any (h:Bag w g ms v) (k:Nat) (hk:k<ms.length) (m:Ms) (hmk:ms[k]=m) (hbt:BatOk w D p m.ba m.bn m.bc) (hD:∀ b,D b→¬bagF g v b) (hn:ms.length≤100000) :
 Calls Tryz.prog 27 #[.pointer (some ⟨g,0,none⟩),.int .i64 (k:Int)] w fun e w'=>(∃ x,e=.returned x)∧∃ A n c v',Bag w' g (ms++[m.bat A n c]) v'∧Only (bagF g v) w w'∧(∀ k,v'.ownBlock=some k→v.ownBlock=some k∨w.heap.size≤k)∧BatOk w' (fun b=>w.heap.size≤b∧v'.ownBlock≠some b) p A n c:=by
 obtain ⟨A,c,rfl,_,_⟩:=jar h.row
 obtain ⟨gb,rfl,_,_⟩:=jcr h.row (by omega)
 have hcap:=jer h.row
 have hb1:Below w.heap.size w (w.alloc (.cells #[.int .i64 0,.int .i64 0,.int .i64 0,.int .i64 0,.int .i64 0,.int .i64 0,.int .i64 0,.int .i64 0,.int .i64 0,.int .i64 0,.int .i64 0,.int .i64 0,.int .i64 0,.int .i64 0,.string ⟨#[]⟩,.slice none 0 0,.int .i64 0,.string ⟨#[]⟩,.slice none 0 0,.string ⟨#[]⟩] 39)):=(Below.refl _ _).alloc (Nat.le_refl _) _
 have HS1:=Lib.hid (h.below hb1)
 have HZ1:=Lib.hid (Blk.new w 39 #[.int .i64 0,.int .i64 0,.int .i64 0,.int .i64 0,.int .i64 0,.int .i64 0,.int .i64 0,.int .i64 0,.int .i64 0,.int .i64 0,.int .i64 0,.int .i64 0,.int .i64 0,.int .i64 0,.string ⟨#[]⟩,.slice none 0 0,.int .i64 0,.string ⟨#[]⟩,.slice none 0 0,.string ⟨#[]⟩])
 have Hb1:=Lib.hid hb1
 have hvo:gb<w.heap.size:=(jcf h.row (g:=gb) rfl).2
 have hgl:=h.blk.lt
 have HX:Hid (∀ {W:World} {n c:Nat} {xs:List Ms},Bag W g xs (.slice (some ⟨n,0,none⟩) xs.length c)→xs[k]? =some m→W.rangeAt n (k*20) (msC m)):=fun {W n c xs} hb he=>by
  obtain ⟨hk',e⟩:=List.getElem?_eq_some_iff.1 he
  rw [←e];exact jkl hb.row k hk'
 have hbt1:=hbt.below hb1
 clear h hb1
 have hk0:(0:Int)≤(k:Int):=by omega
 have hkn:(k:Int)<(ms.length:Int):=by omega
 have hm0:ms[k]? =some m:=by rw [List.getElem?_eq_getElem hk,hmk]
 have Hm0:=Lib.hid hm0
 clear hm0
 go_enter Tryz.func27,Tryz.ntmps27
 go_wp2_with fail
 have hs1:w.heap.size<(w.alloc (.cells #[.int .i64 0,.int .i64 0,.int .i64 0,.int .i64 0,.int .i64 0,.int .i64 0,.int .i64 0,.int .i64 0,.int .i64 0,.int .i64 0,.int .i64 0,.int .i64 0,.int .i64 0,.int .i64 0,.string ⟨#[]⟩,.slice none 0 0,.int .i64 0,.string ⟨#[]⟩,.slice none 0 0,.string ⟨#[]⟩] 39)).heap.size:=by simp
 generalize w.alloc (.cells #[.int .i64 0,.int .i64 0,.int .i64 0,.int .i64 0,.int .i64 0,.int .i64 0,.int .i64 0,.int .i64 0,.int .i64 0,.int .i64 0,.int .i64 0,.int .i64 0,.int .i64 0,.int .i64 0,.string ⟨#[]⟩,.slice none 0 0,.int .i64 0,.string ⟨#[]⟩,.slice none 0 0,.string ⟨#[]⟩] 39)=w1 at *
 refine (bagAt_any HS1.out k hk).mono ?_
 rintro e w2 ⟨rfl,rfl⟩
 have c0:w1.cell? ⟨g,0,none⟩=some (.slice (some ⟨gb,0,none⟩) ms.length c):=HS1.out.blk.cell 0
 have Hbt1:=Lib.hid hbt1
 have HD:=Lib.hid hD
 clear hbt hbt1 hD hmk
 obtain ⟨mk,mf,mt,mv,mn,ma,mc,mr,ml,mss,mu,mo,mg,mun,msr,mba,mbn,mbc⟩:=m
 have HP:Hid (Calls Tryz.prog 32 #[.pointer (some ⟨g,0,none⟩),.agg #[.int .i64 mk,.int .i64 mf,.int .i64 mt,.int .i64 mv,.int .i64 mn,.int .i64 ma,.int .i64 mc,.int .i64 mr,.int .i64 ml,.int .i64 mss,.int .i64 mu,.int .i64 mo,.int .i64 mg,.int .i64 mun,.string msr,.slice mba mbn mbc,.int .i64 0,.string ⟨#[]⟩,.slice none 0 0,.string ⟨#[]⟩]] w1 _):=Lib.hid (jjx HS1.out ⟨mk,mf,mt,mv,mn,ma,mc,mr,ml,mss,mu,mo,mg,mun,msr,mba,mbn,mbc⟩ Hbt1.out hn)
 go_wp2_with (first
  | (refine wpList_load_mid (op:=⟨some 21,.load 39 (.tmp 20),_,_,_,_⟩) rfl 39 (.tmp 20) rfl gb (k*20) (by rfl) (msC ⟨mk,mf,mt,mv,mn,ma,mc,mr,ml,mss,mu,mo,mg,mun,msr,mba,mbn,mbc⟩) _ (HX.out HS1.out Hm0.out) Tryz.underlying39 rfl jaj ?_))
 refine HP.out.mono ?_
 rintro e w4 ⟨rfl,A2,n2,c2,v4,hB4,ho4,hv4,hbt4⟩
 have hr4:=hB4.row
 rw [List.length_append] at hr4
 simp only [List.length_cons,List.length_nil,Nat.zero_add] at hr4
 obtain ⟨A4,c4,rfl,_,_⟩:=jar hr4
 obtain ⟨g4,rfl,_,_⟩:=jcr hr4 (by omega)
 have hcap4:=jer hr4
 have HB4:=Lib.hid hB4
 have HO4:=Lib.hid ho4
 have HV4:=Lib.hid hv4
 have Hbt4:=Lib.hid hbt4
 have HZ4:=Lib.hid (HZ1.out.only ho4 (by rintro (q | q);(· omega);have:gb=w.heap.size:=(by simpa [Value.ownBlock] using q);omega))
 have HC:Hid (Calls Tryz.prog 33 #[.agg #[.int .i64 mk,.int .i64 mf,.int .i64 mt,.int .i64 mv,.int .i64 mn,.int .i64 ma,.int .i64 mc,.int .i64 mr,.int .i64 ml,.int .i64 mss,.int .i64 mu,.int .i64 mo,.int .i64 mg,.int .i64 mun,.string msr,.slice mba mbn mbc,.int .i64 0,.string ⟨#[]⟩,.slice none 0 0,.string ⟨#[]⟩]] w4 _):=Lib.hid (jcy (D:=D) (p:=p) ⟨mk,mf,mt,mv,mn,ma,mc,mr,ml,mss,mu,mo,mg,mun,msr,mba,mbn,mbc⟩ (Hbt1.out.only ho4 (fun b _ hb=>HD.out b hb)))
 have hs4:w1.heap.size≤w4.heap.size:=ho4.size
 have c4':w4.cell? ⟨g,0,none⟩=some (.slice (some ⟨g4,0,none⟩) (ms.length+1) c4):=hB4.blk.cell 0
 have hkn1:(k:Int)<((ms.length+1:Nat):Int):=by omega
 have hx4:Hid (w4.rangeAt g4 (k*20) (msC ⟨mk,mf,mt,mv,mn,ma,mc,mr,ml,mss,mu,mo,mg,mun,msr,mba,mbn,mbc⟩)):=by
  have hl:(ms++[Ms.bat ⟨mk,mf,mt,mv,mn,ma,mc,mr,ml,mss,mu,mo,mg,mun,msr,mba,mbn,mbc⟩ A2 n2 c2]).length=ms.length+1:=by simp
  refine HX.out (c:=c4) (xs:=ms++[Ms.bat ⟨mk,mf,mt,mv,mn,ma,mc,mr,ml,mss,mu,mo,mg,mun,msr,mba,mbn,mbc⟩ A2 n2 c2]) (by rw [hl];exact hB4) ?_
  rw [List.getElem?_append_left hk]
  exact Hm0.out
 clear hB4 ho4 hv4 hbt4 hr4 HP HX c0
 go_wp2_with (first
  | (refine wpList_load_mid (op:=⟨some 29,.load 39 (.tmp 28),_,_,_,_⟩) rfl 39 (.tmp 28) rfl g4 (k*20) (by rfl) (msC ⟨mk,mf,mt,mv,mn,ma,mc,mr,ml,mss,mu,mo,mg,mun,msr,mba,mbn,mbc⟩) _ hx4.out Tryz.underlying39 rfl jaj ?_))
 refine HC.out.mono ?_
 rintro e w5 ⟨A5,n5,c5,rfl,_,hb5⟩
 have HB5:=Lib.hid (HB4.out.below hb5)
 have Hbt5:=Lib.hid (Hbt4.out.below hb5)
 have HZ5:=Lib.hid (HZ4.out.below hb5 HZ4.out.lt)
 have HO5:Hid (Only (bagF g (.slice (some ⟨gb,0,none⟩) ms.length c)) w w5):=Lib.hid (((Only.new (bagF g (.slice (some ⟨gb,0,none⟩) ms.length c)) Hb1.out).trans HO4.out (fun j _ q=>q)).trans (Only.new (fun _=>False) hb5) (fun j _ q=>q.elim))
 have hs5:w4.heap.size≤w5.heap.size:=hb5.size
 clear hb5 HC HB4 HZ4
 unfold msV Ms.bat
 simp only
 go_wp2_with (first
  | (refine jap (o:=⟨none,.store 39 (.tmp 4) (.tmp 30),_,_,_,_⟩) rfl 39 (.tmp 4) (.tmp 30) rfl w.heap.size #[.int .i64 mk,.int .i64 mf,.int .i64 mt,.int .i64 mv,.int .i64 mn,.int .i64 ma,.int .i64 mc,.int .i64 mr,.int .i64 ml,.int .i64 mss,.int .i64 mu,.int .i64 mo,.int .i64 mg,.int .i64 mun,.string msr,.slice A5 n5 c5,.int .i64 0,.string ⟨#[]⟩,.slice none 0 0,.string ⟨#[]⟩] (by rfl) (by rfl) _ _ HZ5.out (by rfl) jaj (by simp [Value.oneCell']) ?_;intro w6 HZ6 ho6 _;refine Hid.out ?_))
 refine Lib.hid ?_
 go_wp2_with fail
 refine bodyPost_ret (jea rfl HZ6 (by rfl) _ (by rfl) _ Tryz.underlying39 rfl jaj) rfl ?_
 refine ⟨⟨_,rfl⟩,A2,n2,c2,.slice (some ⟨g4,0,none⟩) (ms.length+1) c4,HB5.out.only ho6 ?_,HO5.out.trans ho6 (fun j hj q=>by omega),fun q hq=>?_,(Hbt5.out.only ho6 (fun b _ hb q=>by omega)).mono (fun b _ hb=>⟨by omega,hb.2⟩)⟩
 ·rintro q (hq | hq) z
  ·omega
  ·rcases HV4.out q hq with y | y
   ·have:gb=q:=by simpa [Value.ownBlock] using y
    omega
   ·omega
 ·rcases HV4.out q hq with y | y
  ·exact .inl y
  ·exact .inr (by omega)
end
end Db
end
section
namespace Ev
open Go.RowKit
noncomputable section
def hStep (x c:Nat):Nat:=Nat.mod (Nat.mul 1099511628211 (Nat.xor x c)) 18446744073709551616
def hN (n:Nat) (k:Nat):Nat→Nat:=Nat.rec (motive:=fun _=>Nat→Nat) (fun x=>x) (fun k ih x=>cnd (Nat.ble x 0) (ih (hStep x (Nat.mod (Nat.div n (Nat.pow 256 k)) 256))) (ih (hStep x (Nat.mod (Nat.div n (Nat.pow 256 k)) 256)))) k
theorem cnd_same {α:Type} (b:Bool) (x:α):cnd b x x=x:=by cases b<;>rfl
theorem hN_succ (n k x:Nat):hN n (k+1) x=hN n k (hStep x (n / 256^k % 256)):=cnd_same _ _
theorem hStep_eq (x c:Nat):hStep x c=Sm.hstep x c:=by unfold Sm.hstep;rfl
theorem hN_pk:∀ (l p:List UInt8) (x:Nat),hN (pk (p++l)) l.length x=l.foldl (fun x c=>Sm.hstep x c.toNat) x
 | [],p,x=>rfl
 | c::l,p,x=>by
   rw [List.length_cons,hN_succ,List.foldl_cons]
   have e:pk (p++c::l) / 256^l.length % 256=c.toNat:=by
    rw [pk_append,pk_cons,List.length_cons,Nat.pow_succ,Nat.mul_assoc,←Nat.add_assoc,←Nat.mul_add,Nat.add_comm,Nat.add_mul_div_left _ _ (Nat.pow_pos (by decide)),Nat.div_eq_of_lt (pk_lt l),Nat.zero_add,Nat.mul_add_mod]
    exact Nat.mod_eq_of_lt c.toNat_lt
   rw [e,hStep_eq]
   have:=hN_pk l (p++[c]) (Sm.hstep x c.toNat)
   rw [List.append_assoc] at this
   exact this
def sHash (args:List V) (H:HT) (n:Nat):Rs:=match args with
 | [.c (.s l m)]=>cnd (Nat.ble l 1000000) (.ok (.c (.i .u64 (.ofNat (hN m l 14695981039346656037)))) H n) .no
 | _=>.no
theorem sHash_ok:jbi Tryz.prog 133 sHash:=by
 intro args H n v H' n' h
 unfold sHash at h
 split at h
 ·rename_i l m
  have q:=jai h
  clear h
  obtain ⟨hl,h⟩:=q
  have hl:=jad hl
  cases h
  refine ⟨Nat.le_refl _,fun G w cargs hR ha hf=>?_⟩
  obtain ⟨c,rfl,s,rfl,h1,h2⟩:=jcp ha
  have hsz:s.size=l:=by rw [←h1];exact (Array.length_toList (xs:=s.data)).symm
  refine (hash_any s w (by unfold maxLen;omega)).mono ?_
  rintro e w' ⟨rfl,rfl⟩
  refine ⟨_,G,rfl,Stp.refl hR,?_⟩
  show Value.int .u64 ((Sm.hashL s.data.toList:Nat):Int)=Value.int .u64 (.ofNat (hN m l 14695981039346656037))
  have:=hN_pk s.data.toList [] 14695981039346656037
  rw [List.nil_append,h1,h2] at this
  rw [this]
  unfold Sm.hashL
  rw [Sm.hbegin_eq]
  rfl
 ·cases h
def vbN (f:Nat):Nat→Nat→Nat→Sc:=Nat.rec (motive:=fun _=>Nat→Nat→Nat→Sc) (fun z l m=>.s (Nat.add l 1) (Nat.add (Nat.mul 256 m) (Nat.mod z 256)))
 (fun _ ih z l m=>cnd (Nat.blt z 128) (.s (Nat.add l 1) (Nat.add (Nat.mul 256 m) z)) (ih (Nat.div z 128) (Nat.add l 1) (Nat.add (Nat.mul 256 m) (Nat.add (Nat.mod z 128) 128)))) f
theorem vbN_ok:∀ (f z:Nat) (p:List UInt8),vbN f z p.length (pk p)=.s (p++Wr.vb f z).length (pk (p++Wr.vb f z))
 | 0,z,p=>by
   show Sc.s (p.length+1) (256*pk p+z % 256)=_
   rw [Wr.vb,List.length_append,pk_append]
   have:pk [UInt8.ofNat z]=z % 256:=by
    rw [pk_cons];show 1*_+pk []=_
    rw [Nat.one_mul];show _+0=_
    rw [Nat.add_zero,UInt8.toNat_ofNat']
   rw [this];rfl
 | f+1,z,p=>by
   show cnd (Nat.blt z 128) (Sc.s (p.length+1) (256*pk p+z)) (vbN f (z / 128) (p.length+1) (256*pk p+(z % 128+128)))=_
   have one:∀ c:Nat,c<256→pk (p++[UInt8.ofNat c])=256*pk p+c:=fun c hc=>by
    rw [pk_append]
    have:pk [UInt8.ofNat c]=c:=by
     rw [pk_cons];show 1*_+pk []=_
     rw [Nat.one_mul];show _+0=_
     rw [Nat.add_zero,UInt8.toNat_ofNat',Nat.mod_eq_of_lt hc]
    rw [this];rfl
   cases hb:Nat.blt z 128 with
   | true =>
     have hz:z<128:=jaa hb
     rw [Wr.vb_small _ _ hz,one z (by omega),List.length_append]
     rfl
   | false =>
     have hz:¬z<128:=fun q=>by
      have:Nat.blt z 128=true:=Nat.ble_eq_true_of_le q
      rw [this] at hb;cases hb
     rw [Wr.vb_more _ _ hz]
     have:=vbN_ok f (z / 128) (p++[UInt8.ofNat (z % 128+128)])
     rw [List.length_append,one _ (by omega),List.append_assoc] at this
     exact this
def sPutNum (args:List V) (H:HT) (n:Nat):Rs:=match args with
 | [.c (.i .i64 (.ofNat x))]=>cnd (Nat.ble x 9007199254740992) (.ok (.c (vbN 9 (Nat.mul 2 x) 0 0)) H n) .no
 | _=>.no
theorem sPutNum_ok:jbi Tryz.prog 140 sPutNum:=by
 intro args H n v H' n' h
 unfold sPutNum at h
 split at h
 ·rename_i x
  have q:=jai h
  clear h
  obtain ⟨hl,h⟩:=q
  have hl:=jad hl
  cases h
  refine ⟨Nat.le_refl _,fun G w cargs hR ha hf=>?_⟩
  obtain ⟨c,rfl,hc⟩:=jcp ha
  have hc:c=.int .i64 (x:Int):=hc
  subst hc
  refine (putNum_any (x:Int) w (by omega)).mono ?_
  rintro e w' ⟨rfl,hb⟩
  refine ⟨_,G,rfl,jbj hR hb,?_⟩
  have e1:=vbN_ok 9 (2*x) []
  have e2:Wr.putL (x:Int)=Wr.vb 9 (2*x):=by
   unfold Wr.putL
   rw [if_pos (by rw [Wr.isNum_iff];omega)]
   congr 1
  show Sc.ok G (vbN 9 (2*x) 0 0) (.string (Wr.putB x))
  have e1:vbN 9 (2*x) 0 0=.s (Wr.vb 9 (2*x)).length (pk (Wr.vb 9 (2*x))):=e1
  rw [e1,←e2]
  exact ⟨_,rfl,rfl,rfl⟩
 ·cases h
def sCmp (args:List V) (H:HT) (n:Nat):Rs:=match args with
 | [.c (.s l m),.c (.s l' m')]=>cnd (and (Nat.beq l l') (Nat.beq m m')) (.ok (.c (.i .i64 0)) H n) .no
 | _=>.no
theorem cmp_self:∀ l:List UInt8,Lib.compareBytes l l=0
 | []=>rfl
 | x::l=>by simp [Lib.compareBytes,cmp_self l]
theorem sCmp_ok:jbi Tryz.prog 324 sCmp:=by
 intro args H n v H' n' h
 unfold sCmp at h
 split at h
 ·rename_i l m l' m'
  have q:=jai h
  clear h
  obtain ⟨hb,h⟩:=q
  rw [Bool.and_eq_true] at hb
  have e1:=jae hb.1
  have e2:=jae hb.2
  subst e1
  subst e2
  cases h
  refine ⟨Nat.le_refl _,fun G w cargs hR ha hf=>?_⟩
  obtain ⟨c,d,rfl,⟨s,rfl,s1,s2⟩,⟨s',rfl,s3,s4⟩⟩:=cargs2 ha
  have e:s.data.toList=s'.data.toList:=pk_inj _ _ (s1.trans s3.symm) (s2.trans s4.symm)
  refine (Tryz.strings_Compare s s' w).mono ?_
  rintro e' w' ⟨rfl,rfl⟩
  refine ⟨_,G,rfl,Stp.refl hR,?_⟩
  show Value.int .i64 _=Value.int .i64 0
  rw [e,cmp_self]
 ·cases h
end
end Ev
end
section
open Go.RowKit Go.ChangeMaps Go.MapKept
def UsedM (w:World) (b:Nat) (U:List Nat):Prop:=∃ (ents:Array MapEntry) (clock:Nat),w.heap[b]? =some (.map ents clock)∧Stamped ents clock∧(∀ e∈ents.toList,e.val=.bool true∧∃ k:Nat,e.key=.int .i64 (k:Int)∧k∈U)∧∀ k∈U,∃ e∈ents.toList,e.key=.int .i64 ((k:Nat):Int)
section
variable {w:World} {b:Nat} {U:List Nat}
theorem UsedM.kept {w':World} (h:UsedM w b U) (he:w'.heap[b]? =w.heap[b]?):UsedM w' b U:=by
 obtain ⟨ents,clock,h1,h2⟩:=h
 exact ⟨ents,clock,he.trans h1,h2⟩
theorem usedM_new {W:World}:UsedM (W.alloc (.map #[] 0)) W.heap.size [] :=
 ⟨#[],0,(MapKept.heap_alloc W _).1,stamped_empty 0,fun e he=>(by simp at he),fun k hk=>(by cases hk)⟩
theorem jeu {d:TypeDesc} {kk:IntKind} (hd:d=.int kk) (k:Nat):∀ (l:List MapEntry) (i:Nat),(∀ e∈l,∃ m:Nat,e.key=.int .i64 (m:Int)) →
 (Instr.findNow d (.int .i64 (k:Int)) l i=some none∧∀ e∈l,e.key≠.int .i64 (k:Int))∨∃ j e,l[j]? =some e∧e.key=.int .i64 (k:Int)∧Instr.findNow d (.int .i64 (k:Int)) l i=some (some (i+j,e.val))
 | [],i,_=>.inl ⟨rfl,fun e he=>by cases he⟩
 | x::l,i,hl=>by
   obtain ⟨m,hm⟩:=hl x (List.mem_cons_self ..)
   by_cases e:m=k
   ·subst e
    refine .inr ⟨0,x,rfl,hm,?_⟩
    subst hd
    simp [Instr.findNow,hm,Instr.sameNow]
   ·have hs:Instr.findNow d (.int .i64 (k:Int)) (x::l) i=Instr.findNow d (.int .i64 (k:Int)) l (i+1):=by
     subst hd
     have:((k:Int)==(m:Int))=false:=beq_eq_false_iff_ne.2 (by omega)
     simp [Instr.findNow,hm,Instr.sameNow,this]
    rcases jeu hd k l (i+1) (fun y hy=>hl y (List.mem_cons_of_mem _ hy)) with ⟨h1,h2⟩ | ⟨j,y,h1,h2,h3⟩
    ·refine .inl ⟨hs.trans h1,fun y hy=>?_⟩
     rcases List.mem_cons.1 hy with rfl | hy
     ·rw [hm];intro q;have:=(Value.int.inj q).2;omega
     ·exact h2 y hy
    ·exact .inr ⟨j+1,y,by simpa using h1,h2,by rw [hs,h3];congr 3;omega⟩
theorem UsedM.put (h:UsedM w b U) (t kt et:TypeId) (ht:Tryz.prog.underlying t=some (.map kt et)) (hk:Tryz.prog.underlying kt=some (.int .i64)) (k:Nat) :
 ∃ w',(Instr.mapUpdate t (.map (some b)) (.int .i64 (k:Int)) (.bool true)).run Tryz.prog w=.ok () w'∧UsedM w' b (k::U)∧w.grownBy w' (some b)∧w'.heap.size=w.heap.size:=by
 obtain ⟨ents,clock,h1,h2,h3,h4⟩:=h
 have hlt:b<w.heap.size:=(Array.getElem?_eq_some_iff.1 h1).1
 have hset:∀ (o:Obj),(setObj b o).run Tryz.prog w=.ok () { w with heap:=w.heap.setIfInBounds b o }:=fun o=>by
  simp only [setObj,Sem.run,h1]
 have hgr:∀ o:Obj,w.grownBy { w with heap:=w.heap.setIfInBounds b o } (some b):=fun o=>⟨rfl,rfl,rfl,by simp,fun j _ hj=>by
  simp only [Array.getElem?_setIfInBounds]
  rw [if_neg (fun e=>hj (by rw [e]))]⟩
 have hat:∀ o:Obj,({ w with heap:=w.heap.setIfInBounds b o }:World).heap[b]? =some o:=fun o=>by simp [hlt]
 have hik:Ev.IsK true (.int .i64 (k:Int)):=⟨_,_,rfl⟩
 have hkt:Ev.keyTy (.int .i64)=some true:=rfl
 rcases jeu (d:=.int .i64) rfl k ents.toList 0 (fun e he=>by obtain ⟨_,m,q,_⟩:=h3 e he;exact ⟨m,q⟩) with ⟨q1,q2⟩ | ⟨j,e0,q0,qk,q1⟩
 ·refine ⟨_,?_,⟨ents.push { key:=.int .i64 (k:Int),val:=.bool true,born:=clock },clock+1,hat _,stamped_push h2 q2,fun e he=>?_,fun m hm=>?_⟩,hgr _,by simp⟩
  ·simp only [Instr.mapUpdate,Sem.run_bind,run_underlying ht,Result.andThen_ok,Ev.run_getMap h1]
   rw [Ev.run_checkK hk hkt hik]
   simp only [Result.andThen_ok,Instr.findKey,Sem.run_bind,run_underlying hk,q1,Sem.run_pure,hset]
  ·rw [Array.toList_push] at he
   rcases List.mem_append.1 he with he | he
   ·obtain ⟨p,m,r1,r2⟩:=h3 e he
    exact ⟨p,m,r1,List.mem_cons_of_mem _ r2⟩
   ·rw [List.mem_singleton.1 he]
    exact ⟨rfl,k,rfl,List.mem_cons_self ..⟩
  ·rw [Array.toList_push]
   rcases List.mem_cons.1 hm with rfl | hm
   ·exact ⟨_,List.mem_append_right _ (List.mem_singleton.2 rfl),rfl⟩
   ·obtain ⟨e,r1,r2⟩:=h4 m hm
    exact ⟨e,List.mem_append_left _ r1,r2⟩
 ·have hj:j<ents.toList.length:=(List.getElem?_eq_some_iff.1 q0).1
  have hmod:∀ (f:MapEntry→MapEntry) (e:MapEntry),e∈(ents.modify j f).toList→(e∈ents.toList∨e=f e0):=fun f e he=>by
   rw [Array.toList_modify,List.mem_iff_getElem?] at he
   obtain ⟨i,hi⟩:=he
   rw [List.getElem?_modify] at hi
   by_cases c:j=i
   ·subst c
    rw [q0] at hi
    have hi:some (if j=j then f e0 else e0)=some e:=hi
    rw [if_pos rfl] at hi
    exact .inr (Option.some.inj hi).symm
   ·cases hq:ents.toList[i]? with
    | none=>rw [hq] at hi;cases hi
    | some y =>
      rw [hq] at hi
      have hi:some (if j=i then f y else y)=some e:=hi
      rw [if_neg c] at hi
      cases hi
      exact .inl (List.mem_of_getElem? hq)
  have hmod2:∀ (f:MapEntry→MapEntry) (e:MapEntry),e∈ents.toList→e∈(ents.modify j f).toList∨(e=e0∧f e0∈(ents.modify j f).toList):=fun f e he=>by
   rw [Array.toList_modify]
   obtain ⟨i,hi⟩:=List.mem_iff_getElem?.1 he
   by_cases c:j=i
   ·subst c
    rw [q0] at hi
    refine .inr ⟨(Option.some.inj hi).symm,List.mem_iff_getElem?.2 ⟨j,?_⟩⟩
    rw [List.getElem?_modify,q0]
    show some (if j=j then f e0 else e0)=_
    rw [if_pos rfl]
   ·refine .inl (List.mem_iff_getElem?.2 ⟨i,?_⟩)
    rw [List.getElem?_modify,hi]
    show some (if j=i then f e else e)=_
    rw [if_neg c]
  refine ⟨_,?_,⟨ents.modify j fun e=>{ e with key:=.int .i64 (k:Int),val:=.bool true },clock,hat _,stamped_modify h2 j _ (fun _ _=>rfl) (fun e _ he'=>by
   have:ents.toList[j]? =some e:=by simpa using he'
   rw [q0] at this;cases this;exact qk.symm),fun e he=>?_,fun m hm=>?_⟩,hgr _,by simp⟩
  ·simp only [Instr.mapUpdate,Sem.run_bind,run_underlying ht,Result.andThen_ok,Ev.run_getMap h1]
   rw [Ev.run_checkK hk hkt hik]
   simp only [Result.andThen_ok,Instr.findKey,Sem.run_bind,run_underlying hk,q1,Sem.run_pure,Nat.zero_add]
   have e1:((ents[j]?.map (·.key)).getD (.int .i64 (k:Int)))=.int .i64 (k:Int):=by
    have:ents[j]? =some e0:=by simpa using q0
    rw [this];exact qk
   simp only [Instr.keyThatStays,e1]
   have hsb:Instr.sameBits 10000 (.int .i64 (k:Int)) (.int .i64 (k:Int))=true:=by simp [Instr.sameBits]
   simp only [hsb,if_true,Sem.run_pure,Result.andThen_ok,hset]
  ·rcases hmod _ e he with he | rfl
   ·obtain ⟨p,m,r1,r2⟩:=h3 e he
    exact ⟨p,m,r1,List.mem_cons_of_mem _ r2⟩
   ·exact ⟨rfl,k,rfl,List.mem_cons_self ..⟩
  ·rcases List.mem_cons.1 hm with rfl | hm
   ·rcases hmod2 (fun e=>{ e with key:=.int .i64 (m:Int),val:=.bool true }) e0 (List.mem_of_getElem? q0) with r | ⟨_,r⟩
    ·exact ⟨e0,r,qk⟩
    ·exact ⟨_,r,rfl⟩
   ·obtain ⟨e,r1,r2⟩:=h4 m hm
    rcases hmod2 (fun e=>{ e with key:=.int .i64 (k:Int),val:=.bool true }) e r1 with r | ⟨rfl,r⟩
    ·exact ⟨e,r,r2⟩
    ·refine ⟨_,r,?_⟩
     rw [←qk];exact r2
theorem UsedM.get (h:UsedM w b U) (t kt et:TypeId) (ht:Tryz.prog.underlying t=some (.map kt et)) (hk:Tryz.prog.underlying kt=some (.int .i64)) (k:Nat) {z:Value} (hz:(zeroValue et).run Tryz.prog w=.ok (.bool false) w) :
 (Instr.lookup t (.map (some b)) (.int .i64 (k:Int)) false).run Tryz.prog w=.ok (.bool (decide (k∈U))) w:=by
 obtain ⟨ents,clock,h1,h2,h3,h4⟩:=h
 have hik:Ev.IsK true (.int .i64 (k:Int)):=⟨_,_,rfl⟩
 rcases jeu (d:=.int .i64) rfl k ents.toList 0 (fun e he=>by obtain ⟨_,m,q,_⟩:=h3 e he;exact ⟨m,q⟩) with ⟨q1,q2⟩ | ⟨j,e0,q0,qk,q1⟩
 ·rw [Ev.lookup_run (ok:=false) (fn:=none) ht hk rfl hik (.inr ⟨b,clock,ents,rfl,h1,rfl⟩) q1 hz]
  have:k∉U:=fun hm=>by obtain ⟨e,r1,r2⟩:=h4 k hm;exact q2 e r1 r2
  simp [this]
 ·rw [Ev.lookup_run (ok:=false) (fn:=some (0+j,e0.val)) ht hk rfl hik (.inr ⟨b,clock,ents,rfl,h1,rfl⟩) q1 hz]
  obtain ⟨p,m,r1,r2⟩:=h3 e0 (List.mem_of_getElem? q0)
  rw [qk] at r1
  have hkm:k=m:=by have:=(Value.int.inj r1).2;omega
  have:k∈U:=by rw [hkm];exact r2
  simp [this,p]
end
end
section
open Go.RowKit Go.ChangeMaps Go.MapKept
def frL (U:List Nat) (n:Nat):Nat→Nat→List Nat
 | _,0=>[]
 | a,m+1=>match n with
   | 0=>[]
   | n'+1=>if a∈U then frL U (n'+1) (a+1) m else a::frL U n' (a+1) m
theorem frL_zero (U:List Nat):∀ a m,frL U 0 a m=[]
 | _,0=>rfl
 | _,_+1=>rfl
theorem jgy (U:List Nat) (n a:Nat):frL U n a 0=[]:=by cases n<;>rfl
theorem frL_in {U:List Nat} {n a m:Nat} (h:a∈U):frL U (n+1) a (m+1)=frL U (n+1) (a+1) m:=by
 show (if a∈U then _ else _)=_
 rw [if_pos h]
theorem jku {U:List Nat} {n a m:Nat} (h:a∉U):frL U (n+1) a (m+1)=a::frL U n (a+1) m:=by
 show (if a∈U then _ else _)=_
 rw [if_neg h]
theorem info_int_fr:(Tryz.prog.info? 3).map (fun i=>(i.zero,i.size,i.bytes))=some (some (.int .i64 0),1,8):=by kernel_rfl
def SeenB (bl:MapEntry→List Nat) (ents:Array MapEntry) (seen:Array Nat) (U:List Nat):Prop:=∀ k,k∈U↔∃ e∈ents.toList,seen.contains e.born=true∧k∈bl e
theorem SeenB.start (bl:MapEntry→List Nat) (ents:Array MapEntry):SeenB bl ents #[] []:=fun k=>⟨fun h=>(by cases h),fun ⟨e,_,h,_⟩=>(by simp at h)⟩
theorem SeenB.step {bl:MapEntry→List Nat} {ents:Array MapEntry} {clock:Nat} {seen:Array Nat} {U:List Nat} (h:SeenB bl ents seen U) (hs:Stamped ents clock) {e:MapEntry} (he:e∈ents.toList) {V:List Nat} (hV:∀ k,k∈V↔k∈U∨k∈bl e):SeenB bl ents (seen.push e.born) V:=fun k=>by
 rw [hV,h k]
 constructor
 ·rintro (⟨x,h1,h2,h3⟩ | h1)
  ·exact ⟨x,h1,by rw [jaq,h2];rfl,h3⟩
  ·exact ⟨e,he,by rw [jaq];simp,h1⟩
 ·rintro ⟨x,h1,h2,h3⟩
  rw [jaq,Bool.or_eq_true] at h2
  rcases h2 with h2 | h2
  ·exact .inl ⟨x,h1,h2,h3⟩
  ·have:=URng.born hs h1 he (beq_iff_eq.1 h2)
   subst this
   exact .inr h3
def FileBl (w:World) (v:Value) (l:List Nat):Prop:=∃ (p q:Int) (A:Option Addr) (cap:Nat),v=.agg #[.int .i64 p,.int .u64 q,.slice A l.length cap]∧l.length≤1000000∧∀ j (hj:j<l.length),∃ g off,A=some ⟨g,off,none⟩∧g<w.heap.size∧w.cell? ⟨g,off+j,none⟩=some (.int .i64 (l[j]:Int))∧l[j]<4611686018427387904
theorem UsedM.lt {w:World} {b:Nat} {U:List Nat} (h:UsedM w b U):b<w.heap.size:=by
 obtain ⟨ents,clock,h1,_⟩:=h
 exact (Array.getElem?_eq_some_iff.1 h1).1
theorem jdp {w0 w w':World} {row:Option Nat} (hb:Below w0.heap.size w0 w) (hg:w.grownBy w' row) (hrow:∀ k,row=some k→w0.heap.size≤k):Below w0.heap.size w0 w' :=
 ⟨hg.os.trans hb.os,hg.tape.trans hb.tape,hg.output.trans hb.output,Nat.le_trans hb.size hg.size,fun k hk=>(hg.block k (Nat.lt_of_lt_of_le hk hb.size) (fun e=>by have:=hrow k e.symm;omega)).trans (hb.block k hk)⟩
set_option maxRecDepth 100000 in
set_option maxHeartbeats 1000000 in
theorem u_free (bv bm clock first after n:Nat) (va:Array Value) (vel:TypeId) (vfz:Nat×Nat) (ents:Array MapEntry) (bl:MapEntry→List Nat) (w:World)
 (hv:w.heap[bv]? =some (.cells va vel vfz)) (hvs:6≤va.size) (h2:va.getD 2 undef=.int .i64 (first:Int)) (h3:va.getD 3 undef=.int .i64 (after:Int)) (h5:va.getD 5 undef=.map (some bm))
 (hm:w.heap[bm]? =some (.map ents clock)) (hst:Stamped ents clock) (hes:∀ e∈ents.toList,FileBl w e.val (bl e)) (ha:after<4611686018427387904) (hn:n<1000000) :
 Calls Tryz.prog 213 #[.pointer (some ⟨bv,0,none⟩),.int .i64 (n:Int)] w fun e w'=>∃ (v:Value) (U:List Nat),e=.returned v∧(∀ k,k∈U↔∃ e∈ents.toList,k∈bl e)∧w'.ownsRow w.heap.size 3 1 v (frL U n first (after-first)).length ((frL U n first (after-first)).map fun k:Nat=>Value.int .i64 (k:Int))∧Below w.heap.size w w':=by
 have hvt:bv<w.heap.size:=(Array.getElem?_eq_some_iff.1 hv).1
 have hmt:bm<w.heap.size:=(Array.getElem?_eq_some_iff.1 hm).1
 have cells:∀ W:World,Below w.heap.size w W→W.cell? ⟨bv,2,none⟩=some (.int .i64 (first:Int))∧W.cell? ⟨bv,3,none⟩=some (.int .i64 (after:Int))∧W.cell? ⟨bv,5,none⟩=some (.map (some bm))∧W.heap[bm]? =some (.map ents clock):=fun W h=>by
  have hv':W.heap[bv]? =some (.cells va vel vfz):=(h.block bv hvt).trans hv
  refine ⟨?_,?_,?_,(h.block bm hmt).trans hm⟩
  ·rw [jbl hv' (by omega),h2]
  ·rw [jbl hv' (by omega),h3]
  ·rw [jbl hv' (by omega),h5]
 have b1:Below w.heap.size w (w.alloc (.map #[] 0)):=(Below.refl _ w).alloc (Nat.le_refl _) _
 obtain ⟨_,_,c5,m1⟩:=cells _ b1
 have HU:=Lib.hid (usedM_new (W:=w))
 have HM:=Lib.hid m1
 have HC:=Lib.hid cells
 have HE:=Lib.hid hes
 have Hb1:=Lib.hid b1
 clear hv hm cells h2 h3 h5 hes b1 m1
 have hmm:∀ W:World,(Instr.makeMap 317 none).run Tryz.prog W=.ok (.map (some W.heap.size)) (W.alloc (.map #[] 0)):=fun W=>run_makeMap _ _
 go_enter Tryz.func213,Tryz.ntmps213
 go_wp2_with fail
 refine wp_scope_straight ?_
 go_wp2_with (at_range;refine u_range rfl _ 177 3 179 rfl Tryz.underlying177 rfl HM.out hst ?_;intro w2 hrg hgr hs2;refine Hid.out ?_)
 have hb2:Below w.heap.size w w2:=Hb1.out.trans (((jgx (S:=fun _=>False) hgr (fun k hk _=>by cases hk)).below (fun _ _ q=>q)).mono (by simp))
 have HU2:=Lib.hid (HU.out.kept (hgr.block w.heap.size (by simp) (by simp)))
 have Hb2:=Lib.hid hb2
 have es:(w.alloc (.map #[] 0)).heap.size=w.heap.size+1:=by simp
 obtain ⟨r,hr⟩:∃ r,r=w.heap.size+1:=⟨_,rfl⟩
 rw [es] at hrg
 rw [←hr] at hrg ⊢
 have hrw:w.heap.size<r:=by omega
 clear es
 have HRg:=Lib.hid hrg
 clear hrg hgr hb2 hr hs2 HU HM Hb1 c5
 refine Lib.hid ?_
 go_wp2_with fail
 go_loopw [7,9] (fun _ _ wr=>∃ (seen:Array Nat) (U:List Nat),Hid (URng wr bm r ents clock seen)∧Hid (UsedM wr w.heap.size U)∧Hid (SeenB bl ents seen U)∧Hid (Below w.heap.size w wr)) (fun _ _ wr=>wr.rangeLeft bm r)
 case atStart=>exact ⟨_,_,HRg,HU2,SeenB.start _ _,Hb2⟩
 case round =>
  obtain ⟨seen,U,hrg,hu,hse,hb⟩:=hrel
  go_wp2_with (at_next;refine u_next rfl _ rfl rfl hrg.out ?_ ?_)
  ·refine Lib.hid ?_
   intro hall
   have hU:Hid (∀ k,k∈U↔∃ e∈ents.toList,k∈bl e):=Lib.hid fun k=>(hse.out k).trans ⟨fun ⟨e,h1,_,h3⟩=>⟨e,h1,h3⟩,fun ⟨e,h1,h3⟩=>⟨e,h1,by simpa using hall e (by simpa using h1),h3⟩⟩
   obtain ⟨c2,c3,_,_⟩:=HC.out wr hb.out
   clear hall hrg hse
   go_wp2_with fail
   go_step3
   obtain ⟨i0,hi,hz0,hz1,hz2⟩:=info_parts info_int_fr
   have hult:=hu.out.lt
   obtain ⟨Wo,hWo⟩:∃ Wo,Wo=wr:=⟨wr,rfl⟩
   subst hWo
   go_wp2_with fail
   go_loopw [10,11] (fun v i wq=>∃ (b:Nat) (O:List Nat),i=.int .i64 (b:Int)∧first≤b∧(b=first∨b≤after)∧O.length≤n∧Hid (frL U n first (after-first)=O++frL U (n-O.length) b (after-b))∧Hid (wq.ownsRow Wo.heap.size 3 1 v O.length (O.map fun k:Nat=>Value.int .i64 (k:Int)))∧Hid (Below Wo.heap.size Wo wq)) (fun _ i _=>after-(intOf i).toNat)
   case atStart=>exact ⟨first,[],rfl,Nat.le_refl _,.inl rfl,Nat.zero_le _,Lib.hid (by simp),Lib.hid (jcu _ _ _ _),Below.refl _ _⟩
   case round =>
    obtain ⟨b,O,rfl,hfb,hk,hOn,hO,HO,Hb⟩:=hrel
    obtain ⟨A,cp,rfl,_,_⟩:=jar HO.out
    have HO:Hid (wr.ownsRow Wo.heap.size 3 1 (.slice A O.length cp) O.length (O.map fun k:Nat=>Value.int .i64 (k:Int))):=HO
    have Hbw:=Lib.hid (hb.out.trans (Hb.out.mono hb.out.size))
    obtain ⟨c2,c3,_,_⟩:=HC.out wr Hbw.out
    have HUn:=Lib.hid (hu.out.kept (Hb.out.block _ hult))
    by_cases hlt:b<after
    ·have hlt':(b:Int)<(after:Int):=by omega
     have hm:after-b=(after-(b+1))+1:=by omega
     by_cases hfull:O.length=n
     ·subst hfull
      have hO':frL U O.length first (after-first)=O:=by rw [hO.out,Nat.sub_self,frL_zero,List.append_nil]
      have hO2:=Lib.hid hO'
      clear hO' hO
      go_wp2_with fail
      show Exit.noGoto _ Exit.ret _ _
      simp only [Exit.noGoto]
      go_ret
      exact ⟨_,U,rfl,hU.out,by rw [hO2.out];exact jkg HO.out hb.out.size,Hbw.out⟩
     ·have hq:((O.length:Int)==(n:Int))=false:=beq_eq_false_iff_ne.2 (by omega)
      have hn1:n-O.length=(n-O.length-1)+1:=by omega
      have hget:=HUn.out.get 317 3 4 Tryz.underlying317 Tryz.underlying3 b (z:=.bool false) (by rfl)
      by_cases hin:b∈U
      ·rw [decide_eq_true hin] at hget
       have hO3:Hid (frL U n first (after-first)=O++frL U (n-O.length) (b+1) (after-(b+1))):=Lib.hid (by rw [hO.out,hm,hn1,frL_in hin])
       clear hO hn1 hfull
       go_wp2_with fail
       go_roundw
       case rel=>exact ⟨b+1,O,by go_num,by omega,by omega,hOn,hO3,HO,Hb⟩
       case measure=>simp [intOf];omega
      ·rw [decide_eq_false hin] at hget
       have hO3:Hid (frL U n first (after-first)=(O++[b])++frL U (n-(O++[b]).length) (b+1) (after-(b+1))):=Lib.hid (by rw [hO.out,hm,hn1,jku hin,List.length_append,List.append_assoc,Nat.sub_add_eq];rfl)
       have hOn2:(O++[b]).length≤n:=by simp;omega
       have hOl:O.length<1000000:=by omega
       clear hO hn1 hfull
       have hbs:=Hb.out.size
       go_wp2_with (at_builtin;refine jck _ rfl _ _ 29 rfl Wo.heap.size 3 i0 _ 1 8 Tryz.underlying29 hi hz0 hz1 hz2 rfl (by decide) _ O.length _ (by rfl) HO.out [.int .i64 (b:Int)] (by rfl) rfl (by simp [Value.oneCell']) (by unfold maxLen;omega) (by omega) Wo Hb.out hbs ?_;intro v8 w8 hown8 hb8)
       obtain ⟨A8,c8,rfl,_,_⟩:=jar hown8
       have HO8:=Lib.hid hown8
       have Hb8:=Lib.hid hb8
       clear hown8 hb8
       go_wp2_with fail
       go_roundw
       case rel=>exact ⟨b+1,O++[b],by go_num,by omega,by omega,hOn2,hO3,by simpa using HO8,Hb8⟩
       case measure=>simp [intOf];omega
    ·have hlt':¬(b:Int)<(after:Int):=by omega
     have hO':frL U n first (after-first)=O:=by rw [hO.out,show after-b=0 from by omega,jgy,List.append_nil]
     have hO2:=Lib.hid hO'
     clear hO' hO
     go_wp2_with fail
     go_ret
     exact ⟨_,U,rfl,hU.out,by rw [hO2.out];exact jkg HO.out hb.out.size,Hbw.out⟩
  ·refine Lib.hid ?_
   intro e wn he hsen hrn hlt' hgn hsn hen
   have he:e∈ents.toList:=by simpa using he
   obtain ⟨p,q,A,cap,hval,hLb,hbl⟩:=HE.out e he
   have hult:w.heap.size<wr.heap.size:=hu.out.lt
   have hbn:Below w.heap.size w wn:=jdp hb.out hgn (fun k hk=>by injection hk with hk;omega)
   have hun:UsedM wn w.heap.size U:=hu.out.kept (hgn.block w.heap.size hult (by intro q;injection q with q;omega))
   rw [hval] at hen ⊢
   have HRn:=Lib.hid hrn
   have Hun:=Lib.hid hun
   have Hbn:=Lib.hid hbn
   have Hbl:=Lib.hid hbl
   have Hlt:=Lib.hid hlt'
   have Hleft:=Lib.hid hrg.out.left_eq
   clear hrn hun hbn hbl hlt' hgn hsn hrg hu hb hval
   have HRw:=Lib.hid (HRn.out.kept (World.grownBy_alloc wn (.cells #[.int .i64 p,.int .u64 q,.slice A (bl e).length cap] 179) none) (by simp) (by simp))
   have HUw:=Lib.hid (Hun.out.kept (w':=wn.alloc (.cells #[.int .i64 p,.int .u64 q,.slice A (bl e).length cap] 179)) ((MapKept.heap_alloc wn _).2 _ Hun.out.lt))
   have Hbw:Hid (Below w.heap.size w (wn.alloc (.cells #[.int .i64 p,.int .u64 q,.slice A (bl e).length cap] 179))):=Hbn.out.alloc Hbn.out.size _
   clear HRn Hun Hbn
   obtain ⟨sn,hsn⟩:∃ sn,sn=seen.push e.born:=⟨_,rfl⟩
   rw [←hsn] at HRw Hlt
   have Hsn:=Lib.hid hsn
   clear hsn
   have HL:Hid (∃ L,(bl e).length=L):=⟨_,rfl⟩
   obtain ⟨L,hL⟩:=HL.out
   rw [hL] at hen HRw HUw Hbw hLb ⊢
   have hL:=Lib.hid hL
   go_wp2_with fail
   go_loopw [9,25] (fun _ i wq=>∃ (k:Nat) (V:List Nat),k≤L∧i=.int .i64 (k:Int)∧Hid (URng wq bm r ents clock sn)∧Hid (UsedM wq w.heap.size V)∧Hid (∀ x,x∈V↔x∈U∨x∈(bl e).take k)∧Hid (Below w.heap.size w wq)) (fun _ i _=>L-(intOf i).toNat)
   case atStart=>exact ⟨0,U,Nat.zero_le _,rfl,HRw,HUw,Lib.hid (by simp),Hbw⟩
   case round =>
    obtain ⟨k,V,hk,rfl,HR,HUq,HV,Hb⟩:=hrel
    by_cases hlt:k<L
    ·obtain ⟨g,off,rfl,hg,hc,hx⟩:=Hbl.out k (by rw [hL.out];exact hlt)
     have hcw:=(Hb.out.cell (p:=⟨g,off+k,none⟩) hg).trans hc
     have hV2:∀ y,y∈(bl e)[k]'(by rw [hL.out];exact hlt)::V↔y∈U∨y∈(bl e).take (k+1):=fun y=>by
      rw [List.mem_cons,HV.out y,List.take_succ_eq_append_getElem (by rw [hL.out];exact hlt),List.mem_append,List.mem_singleton]
      constructor
      ·rintro (h | h | h)
       ·exact .inr (.inr h)
       ·exact .inl h
       ·exact .inr (.inl h)
      ·rintro (h | h | h)
       ·exact .inr (.inl h)
       ·exact .inr (.inr h)
       ·exact .inl h
     generalize (bl e)[k]'(by rw [hL.out];exact hlt)=x at hcw hx hV2
     obtain ⟨w',hrun,hU',hgr,hsz⟩:=HUq.out.put 317 3 4 Tryz.underlying317 Tryz.underlying3 x
     have HR':=Lib.hid (HR.out.kept hgr (fun q=>by injection q with q;omega) (fun q=>by injection q with q;omega))
     have HU':=Lib.hid hU'
     have Hb':=Lib.hid (jdp Hb.out hgr (fun k hk=>by injection hk with hk;omega))
     have HV':=Lib.hid hV2
     have hk2:(k:Int)<(L:Int):=by omega
     have hk0:(0:Int)≤(k:Int):=by omega
     clear hU' hgr hV2 hsz HR HUq Hb HV hc
     go_wp2_with fail
     go_roundw
     case rel=>exact ⟨k+1,x::V,by omega,by go_num,HR',HU',HV',Hb'⟩
     case measure=>simp [intOf];omega
    ·obtain rfl:k=L:=by omega
     have hk2:¬(k:Int)<(k:Int):=by omega
     have hse':=Lib.hid (hse.out.step hst he (V:=V) (fun x=>by rw [HV.out x,←hL.out,List.take_length]))
     rw [←Hsn.out] at hse'
     have HR':=Lib.hid HR.out.left_eq
     go_wp2_with fail
     go_roundw
     case rel=>exact ⟨sn,V,HR,HUq,hse',Hb⟩
     case measure=>rw [Hleft.out,HR'.out];exact Hlt.out
end
section
namespace Ev
open Go.RowKit
noncomputable section
def slRd (es:Nat) (s:Sc) (H:HT):Option (List Sc):=match s with
 | .sn=>some []
 | .se=>some []
 | .sk id off len _ _=>cnd (Nat.blt id HB) (jbo off (Nat.mul len es) (hget H id)) none
 | .su id off len _ _=>cnd (Nat.blt id HB) (jbo off (Nat.mul len es) (hget H id)) none
 | _=>none
section
variable {G:Gh} {H:HT} {w:World}
theorem jgr (hR:R G (hp H) w) {es id off len b sz:Nat} {xs:List Sc} (hid:id<HB) (hg:G id=some (b,sz)) (h:jbo off (Nat.mul len es) (hget H id)=some xs):∃ vs,All2 (Sc.ok G) xs vs∧Reads w w.heap.size es (some ⟨b,off,none⟩) len vs:=by
 obtain ⟨m,x,dep,d,t,hh,hle,rfl⟩:=jbp h
 have hpi:hp H id=.row m x dep d t:=(jas hid).trans hh
 obtain ⟨b',sz',arr,el,fz,hg',L⟩:=hR.lies (id:=id) hpi
 rw [hg] at hg';cases hg'
 have hle:off+len*es≤m:=hle
 have hl:=L.list (off:=off) (k:=len*es) hle
 have hs:=L.size
 have hle2:=L.le
 refine ⟨_,hl,?_,fun h0=>⟨b,off,rfl,hR.lt (by rw [hpi];exact fun q=>by cases q) hg,fun j u hu=>?_⟩⟩
 ·rw [←hl.length,jbg]
 ·have hj:j<len*es:=by
   have:=(List.getElem?_eq_some_iff.1 hu).1
   rw [←hl.length,jbg] at this
   exact this
  rw [jij L.hb (by omega),jby (by omega)]
  rw [←hu,Array.getElem?_toList,Array.getElem?_extract,if_pos (by omega),Array.getElem?_eq_getElem (by omega)]
theorem jdf (hR:R G (hp H) w) {es:Nat} {s:Sc} {c:Value} {xs:List Sc} (h:slRd es s H=some xs) (hs:Sc.ok G s c):∃ A n cap vs,c=.slice A n cap∧All2 (Sc.ok G) xs vs∧Reads w w.heap.size es A n vs:=by
 cases s with
 | sn =>
   have h:some []=some xs:=h
   cases h
   have hs:c=.slice none 0 0:=hs
   exact ⟨_,_,_,[],hs,.nil,Reads.none_⟩
 | se =>
   have h:some []=some xs:=h
   cases h
   obtain ⟨a,k,hs⟩:=hs
   exact ⟨_,_,_,[],hs,.nil,Reads.none_⟩
 | sk id off len cap es' =>
   obtain ⟨h1,h2⟩:=jab h
   obtain ⟨b,sz,hg,hc,_⟩:=hs
   obtain ⟨vs,k1,k2⟩:=jgr hR (jaa h1) hg h2
   exact ⟨_,_,_,vs,hc,k1,k2⟩
 | su id off len lb es' =>
   obtain ⟨h1,h2⟩:=jab h
   obtain ⟨b,sz,cc,hg,hc,_⟩:=hs
   obtain ⟨vs,k1,k2⟩:=jgr hR (jaa h1) hg h2
   exact ⟨_,_,_,vs,hc,k1,k2⟩
 | _=>cases h
end
def chB (c:Nat):Bool:=or (or (and (Nat.ble 97 c) (Nat.ble c 122)) (and (Nat.ble 48 c) (Nat.ble c 57))) (Nat.beq c 95)
def nmB (k:Nat):Nat→Bool:=Nat.rec (motive:=fun _=>Nat→Bool) (fun _=>true) (fun _ ih m=>and (chB (Nat.mod m 256)) (ih (Nat.div m 256))) k
theorem chB_ok {c:UInt8} (h:chB c.toNat=true):Pt.nameC c=true:=by
 unfold chB at h
 unfold Pt.nameC
 simp only [Bool.or_eq_true,Bool.and_eq_true,decide_eq_true_eq] at h ⊢
 rcases h with (⟨h1,h2⟩ | ⟨h1,h2⟩) | h1
 ·exact .inl (.inl ⟨jad h1,jad h2⟩)
 ·exact .inl (.inr ⟨jad h1,jad h2⟩)
 ·exact .inr (jae h1)
theorem nmB_ok:∀ (k:Nat) (l:List UInt8),l.length=k→nmB k (pk l)=true→l.all Pt.nameC=true
 | 0,l,hl,_=>by rw [List.eq_nil_of_length_eq_zero hl];rfl
 | k+1,l,hl,h=>by
   rcases List.eq_nil_or_concat l with rfl | ⟨l',c,rfl⟩
   ·simp at hl
   ·rw [List.concat_eq_append] at *
    rw [List.length_append] at hl
    have e:pk (l'++[c])=256*pk l'+c.toNat:=by
     rw [pk_append,pk_cons];show 256^1*_+(1*_+0)=_
     omega
    have h:and (chB (pk (l'++[c]) % 256)) (nmB k (pk (l'++[c]) / 256))=true:=h
    rw [e,Bool.and_eq_true] at h
    have hc:=c.toNat_lt
    have e1:(256*pk l'+c.toNat) % 256=c.toNat:=by omega
    have e2:(256*pk l'+c.toNat) / 256=pk l':=by omega
    rw [e1,e2] at h
    rw [List.all_append,nmB_ok k l' (by simpa using hl) h.2]
    simp [chB_ok h.1]
def smI (x:Int):Bool:=Int.rec (fun n=>Nat.ble n 2147483647) (fun n=>Nat.ble n 2147483647) x
def numI (x:Int):Bool:=Int.rec (fun n=>Nat.ble n 2147483647) (fun _=>false) x
def posI (x:Int):Bool:=Int.rec (fun n=>Nat.blt 0 n) (fun _=>false) x
theorem smI_ok {x:Int} (h:smI x=true):-2147483648≤x∧x≤2147483647:=by
 cases x with
 | ofNat n=>have:=jad (a:=n) (b:=2147483647) h;rw [Int.ofNat_eq_natCast];constructor<;>omega
 | negSucc n=>have:=jad (a:=n) (b:=2147483647) h;constructor<;>omega
theorem jdk {x:Int} (h:numI x=true):0≤x∧x≤2147483647:=by
 cases x with
 | ofNat n=>have:=jad (a:=n) (b:=2147483647) h;rw [Int.ofNat_eq_natCast];constructor<;>omega
 | negSucc n=>cases h
theorem posI_ok {x:Int} (h:posI x=true):0<x:=by
 cases x with
 | ofNat n=>have:=jaa (a:=0) (b:=n) h;rw [Int.ofNat_eq_natCast];omega
 | negSucc n=>cases h
def ptsB:List Sc→Bool
 | []=>true
 | .s l m::.i .i64 t::.i .i64 v::r=>and (and (Nat.ble 1 l) (and (Nat.ble l 12) (nmB l m))) (and (and (smI t) (smI v)) (ptsB r))
 | _=>false
theorem ptsB_ok {G:Gh}:∀ {xs:List Sc} {vs:List Value},All2 (Sc.ok G) xs vs→ptsB xs=true→∃ ps:List Pt.Point,vs=ps.flatMap jal∧∀ p∈ps,Pt.mayB p=true∧p.1.size≤12∧Pt.wf p:=by
 intro xs
 induction xs using ptsB.induct with
 | case1=>intro vs h _;cases h;exact ⟨[],rfl,fun p hp=>by cases hp⟩
 | case2 l m t v r ih =>
   intro vs h hb
   cases h with
   | cons h1 h =>
   cases h with
   | cons h2 h =>
   cases h with
   | cons h3 h =>
   unfold ptsB at hb
   simp only [Bool.and_eq_true] at hb
   obtain ⟨⟨b1,b2,b3⟩,⟨b4,b5⟩,b6⟩:=hb
   obtain ⟨ps,hps,hall⟩:=ih h b6
   obtain ⟨s,rfl,hs1,hs2⟩:=h1
   have h2:=h2
   obtain rfl:_=Value.int .i64 t:=h2
   obtain rfl:_=Value.int .i64 v:=h3
   have hsz:s.size=l:=by rw [←hs1];exact (Array.length_toList (xs:=s.data)).symm
   have g1:=jad b1
   have g2:=jad b2
   have g4:=smI_ok b4
   have g5:=smI_ok b5
   refine ⟨(s,t,v)::ps,by rw [hps];rfl,fun p hp=>?_⟩
   rcases List.mem_cons.1 hp with rfl | hp
   ·refine ⟨?_,by show s.size≤12;omega,⟨by show -9223372036854775808≤t;omega,by show t≤_;omega⟩,⟨by show -9223372036854775808≤v;omega,by show v≤_;omega⟩⟩
    unfold Pt.mayB Pt.nameB
    simp only [Bool.and_eq_true,decide_eq_true_eq]
    refine ⟨⟨⟨⟨by omega,by omega⟩,nmB_ok l _ hs1 (by rw [hs2];exact b3)⟩,(Pt.smallB_iff t).2 g4⟩,(Pt.smallB_iff v).2 g5⟩
   ·exact hall p hp
 | case3 xs h1 h2 =>
   intro vs _ hb
   unfold ptsB at hb
   split at hb
   ·exact absurd rfl h1
   ·exact absurd rfl (h2 _ _ _ _ _)
   ·cases hb
theorem jcn:∀ ps:List Pt.Point,(ps.flatMap jal).length=ps.length*3
 | []=>rfl
 | p::ps=>by rw [List.flatMap_cons,List.length_append,jcn ps,List.length_cons];show 3+_=_;omega
def btB (xs:List Sc):Bool:=and (Nat.ble xs.length 24) (ptsB xs)
theorem btB_ok {G:Gh} {xs:List Sc} {vs:List Value} (h:All2 (Sc.ok G) xs vs) (hb:btB xs=true):∃ ps:List Pt.Point,vs=ps.flatMap jal∧Pt.batchB ps=true∧ps.length≤8∧(∀ p∈ps,Pt.mayB p=true∧p.1.size≤12∧Pt.wf p)∧xs.length=ps.length*3:=by
 unfold btB at hb
 rw [Bool.and_eq_true] at hb
 obtain ⟨ps,rfl,hall⟩:=ptsB_ok h hb.2
 have hl:=h.length
 rw [jcn] at hl
 have h8:=jad hb.1
 refine ⟨ps,rfl,?_,by omega,hall,hl⟩
 unfold Pt.batchB
 rw [Bool.and_eq_true]
 exact ⟨decide_eq_true (by omega),List.all_eq_true.2 fun p hp=>(hall p hp).1⟩
def nilL (xs:List Sc):Bool:=match xs with | []=>true | _=>false
def bE (s:Int) (x:Option (List Sc)):Bool:=match x with
 | some xs=>and (btB xs) (or (posI s) (nilL xs))
 | none=>false
def entsB (H:HT):List Sc→Bool
 | []=>true
 | .i .i64 v::.i .i64 c::.i .i64 s::.i .i64 n::b::r=>and (and (numI v) (and (numI c) (and (numI s) (numI n)))) (and (bE s (slRd 3 b H)) (entsB H r))
 | _=>false
theorem wf_num {x:Int} (h:0≤x∧x≤2147483647):(Lit.int .i64 x).wf=true:=by
 simp [Lit.wf,IntKind.min,IntKind.max,IntKind.bits,IntKind.signed];omega
theorem wf_small {x:Int} (h:-2147483648≤x∧x≤2147483647):(Lit.int .i64 x).wf=true:=by
 simp [Lit.wf,IntKind.min,IntKind.max,IntKind.bits,IntKind.signed];omega
theorem pt_small {p:Pt.Point} (h:Pt.mayB p=true):(Lit.int .i64 p.2.1).wf=true∧(Lit.int .i64 p.2.2).wf=true:=by
 unfold Pt.mayB at h
 rw [Bool.and_eq_true,Bool.and_eq_true] at h
 exact ⟨wf_small ((Pt.smallB_iff _).1 h.1.2),wf_small ((Pt.smallB_iff _).1 h.2)⟩
theorem entsB_ok {G:Gh} {H:HT} {w:World} (hR:R G (hp H) w):∀ {xs:List Sc} {vs:List Value},All2 (Sc.ok G) xs vs→entsB H xs=true→∃ es:List Ent,vs=es.flatMap entCells∧∀ q∈es,Sv.entB q=true∧Go.Proofs.YtcchekmejnhlmaaGreat.EntOk w q∧q.2.2.2.length≤8∧(∀ p∈q.2.2.2,Pt.mayB p=true∧p.1.size≤12∧Pt.wf p):=by
 intro xs
 induction xs using entsB.induct with
 | case1=>intro vs h _;cases h;exact ⟨[],rfl,fun p hp=>by cases hp⟩
 | case2 v c s n b r ih =>
   intro vs h hb
   cases h with
   | cons h1 h =>
   cases h with
   | cons h2 h =>
   cases h with
   | cons h3 h =>
   cases h with
   | cons h4 h =>
   cases h with
   | cons h5 h =>
   unfold entsB at hb
   simp only [Bool.and_eq_true] at hb
   obtain ⟨⟨b1,b2,b3,b4⟩,b5,b6⟩:=hb
   obtain ⟨es,hes,hall⟩:=ih h b6
   obtain rfl:_=Value.int .i64 v:=h1
   obtain rfl:_=Value.int .i64 c:=h2
   obtain rfl:_=Value.int .i64 s:=h3
   obtain rfl:_=Value.int .i64 n:=h4
   unfold bE at b5
   split at b5
   ·rename_i ys hys
    rw [Bool.and_eq_true] at b5
    obtain ⟨A,k,cap,us,rfl,u1,u2⟩:=jdf hR hys h5
    obtain ⟨ps,rfl,p1,p2,p3,p4⟩:=btB_ok u1 b5.1
    have hk:k=ps.length:=by have:=u2.1;rw [jcn] at this;omega
    subst hk
    refine ⟨((v,c,s,n),(A,cap,ps))::es,by rw [hes];rfl,fun q hq=>?_⟩
    rcases List.mem_cons.1 hq with rfl | hq
    ·refine ⟨?_,⟨u2,fun f hf=>⟨(pt_small (p3 f hf).1).1,(pt_small (p3 f hf).1).2,by have:=(p3 f hf).2.1;unfold maxLen;omega⟩,wf_num (jdk b1),wf_num (jdk b2),wf_num (jdk b3),wf_num (jdk b4)⟩,p2,p3⟩
     have n1:=jdk b1
     have n2:=jdk b2
     have n3:=jdk b3
     have n4:=jdk b4
     unfold Sv.entB Ig.mayB Ig.numB
     have:ps.length=0∨0<s:=by
      rcases (Bool.or_eq_true _ _).mp b5.2 with q | q
      ·exact .inr (posI_ok q)
      ·left
       unfold nilL at q
       split at q
       ·simp at p4;omega
       ·cases q
     simp only [List.all_cons,List.all_nil,Bool.and_eq_true,decide_eq_true_eq,Bool.or_eq_true]
     exact ⟨⟨⟨n1.1,n1.2⟩,⟨n2.1,n2.2⟩,⟨n3.1,n3.2⟩,⟨n4.1,n4.2⟩,trivial⟩,p1,this.symm⟩
    ·exact hall q hq
   ·cases b5
 | case3 xs h1 h2 =>
   intro vs _ hb
   unfold entsB at hb
   split at hb
   ·exact absurd rfl h1
   ·exact absurd rfl (h2 _ _ _ _ _ _)
   ·cases hb
def sBatch (args:List V) (H:HT) (n:Nat):Rs:=match args with
 | [.c b]=>(match slRd 3 b H with
   | some xs=>cnd (btB xs) (.ok (.c (.b true)) H n) .no
   | none=>.no)
 | _=>.no
theorem sBatch_ok:jbi Tryz.prog 86 sBatch:=by
 intro args H n v H' n' h
 unfold sBatch at h
 split at h
 ·rename_i b
  split at h
  ·rename_i xs hxs
   have q:=jai h
   clear h
   obtain ⟨hb,h⟩:=q
   cases h
   refine ⟨Nat.le_refl _,fun G w cargs hR ha hf=>?_⟩
   obtain ⟨c,rfl,hc⟩:=jcp ha
   obtain ⟨A,k,cap,us,rfl,u1,u2⟩:=jdf hR hxs hc
   obtain ⟨ps,rfl,p1,p2,p3,p4⟩:=btB_ok u1 hb
   have hk:k=ps.length:=by have:=u2.1;rw [jcn] at this;omega
   subst hk
   refine (jio A cap ps w w.heap.size u2 (Nat.le_refl _) (by omega) (fun p hp=>(p3 p hp).2.2)).mono ?_
   rintro e w' ⟨rfl,hb'⟩
   rw [p1]
   exact ⟨_,G,rfl,jbj hR hb',rfl⟩
  ·cases h
 ·cases h
def jhk (args:List V) (H:HT) (n:Nat):Rs:=match args with
 | [.a xs]=>cnd (and (Nat.beq xs.length 5) (entsB H xs)) (.ok (.c (.b true)) H n) .no
 | _=>.no
theorem sMayEntry_ok:jbi Tryz.prog 144 jhk:=by
 intro args H n v H' n' h
 unfold jhk at h
 split at h
 ·rename_i xs
  have q:=jai h
  clear h
  obtain ⟨hb,h⟩:=q
  rw [Bool.and_eq_true] at hb
  cases h
  refine ⟨Nat.le_refl _,fun G w cargs hR ha hf=>?_⟩
  obtain ⟨c,rfl,arr,rfl,hc⟩:=jcp ha
  obtain ⟨es,he,hall⟩:=entsB_ok hR hc hb.2
  have hl:=hc.length
  have h5:=jae hb.1
  have fl:∀ es:List Ent,(es.flatMap entCells).length=es.length*5:=fun es=>jet entCells 5 (fun _=>rfl) es
  rw [he,fl] at hl
  obtain ⟨q,rfl⟩:∃ q,es=[q]:=by
   match es,hl with
   | [q],_=>exact ⟨q,rfl⟩
   | [],hl=>rw [h5] at hl;simp at hl
   | _::_::_,hl=>rw [h5] at hl;simp at hl;omega
  obtain ⟨q1,q2,q3,q4⟩:=hall q (List.mem_cons_self ..)
  obtain ⟨l⟩:=arr
  have he:l=entCells q:=by simpa using he
  subst he
  refine (jgg q.1.1 q.1.2.1 q.1.2.2.1 q.1.2.2.2 q.2.1 q.2.2.1 q.2.2.2 w w.heap.size q2.reads (Nat.le_refl _) (Nat.le_trans q3 (by decide)) (fun p hp=>(q4 p hp).2.2)).mono ?_
  rintro e w' ⟨rfl,hb'⟩
  have q1:Ig.mayB q.1.1 q.1.2.1 q.1.2.2.1 q.1.2.2.2 q.2.2.2=true:=q1
  rw [q1]
  exact ⟨_,G,rfl,jbj hR hb',rfl⟩
 ·cases h
def lgB (b l:Nat) (x:Option (List Sc)) (H:HT):Bool:=match x with
 | some xs=>and (and (Nat.ble b 2147483647) (and (Nat.ble l 65536) (or (not (Nat.beq b 0)) (Nat.beq l 0)))) (and (Nat.ble xs.length 20480) (entsB H xs))
 | none=>false
theorem lgB_ok {G:Gh} {H:HT} {w:World} (hR:R G (hp H) w) {b l:Nat} {s:Sc} {c:Value} {snap:ByteArray} (hs:snap.size=l) (h:lgB b l (slRd 5 s H) H=true) (hc:Sc.ok G s c):∃ A cap es,c=.slice A (List.length es) cap∧LogOk w A es∧Sv.logB (b:Int) snap es=true∧es.length≤4096:=by
 unfold lgB at h
 split at h
 ·rename_i xs hxs
  simp only [Bool.and_eq_true] at h
  obtain ⟨⟨h1,h2,h3⟩,h4,h5⟩:=h
  obtain ⟨A,k,cap,us,rfl,u1,u2⟩:=jdf hR hxs hc
  obtain ⟨es,rfl,hall⟩:=entsB_ok hR u1 h5
  have fl:∀ es:List Ent,(es.flatMap entCells).length=es.length*5:=fun es=>jet entCells 5 (fun _=>rfl) es
  have hk:k=es.length:=by have:=u2.1;rw [fl] at this;omega
  subst hk
  have hx:=u1.length
  rw [fl] at hx
  have h4:=jad h4
  have h1:=jad h1
  have h2:=jad h2
  refine ⟨A,cap,es,rfl,⟨u2,fun q hq=>(hall q hq).2.1,fun q hq=>by have:=(hall q hq).2.2.1;omega⟩,Sv.log_yes ?_ (List.all_eq_true.2 fun q hq=>(hall q hq).1),by omega⟩
  unfold Sv.headB
  simp only [Bool.and_eq_true,decide_eq_true_eq,Bool.not_eq_true',Bool.and_eq_false_iff,decide_eq_false_iff_not]
  refine ⟨⟨⟨⟨by omega,by omega⟩,by omega⟩,?_⟩,by omega⟩
  rcases (Bool.or_eq_true _ _).mp h3 with q | q
  ·left
   rw [Bool.not_eq_true'] at q
   have:=Nat.ne_of_beq_eq_false q
   omega
  ·right
   have:=jae q
   omega
 ·cases h
def sMayLog (args:List V) (H:HT) (n:Nat):Rs:=match args with
 | [.a [.i .i64 (.ofNat b),.s l m,e]]=>cnd (lgB b l (slRd 5 e H) H) (.ok (.c (.b true)) H n) .no
 | _=>.no
theorem sMayLog_ok:jbi Tryz.prog 87 sMayLog:=by
 intro args H n v H' n' h
 unfold sMayLog at h
 split at h
 ·rename_i b l m e
  have q:=jai h
  clear h
  obtain ⟨hb,h⟩:=q
  cases h
  refine ⟨Nat.le_refl _,fun G w cargs hR ha hf=>?_⟩
  obtain ⟨c,rfl,⟨arr⟩,rfl,hc⟩:=jcp ha
  cases hc with
  | cons c1 hc =>
  cases hc with
  | cons c2 hc =>
  cases hc with
  | cons c3 hc =>
  cases hc
  obtain rfl:_=Value.int .i64 (b:Int):=c1
  obtain ⟨s,rfl,s1,s2⟩:=c2
  have hsz:s.size=l:=by rw [←s1];exact (Array.length_toList (xs:=s.data)).symm
  obtain ⟨A,cap,es,rfl,k1,k2,k3⟩:=lgB_ok hR hsz hb c3
  have h65:l≤65536:=by
   unfold lgB at hb
   split at hb
   ·simp only [Bool.and_eq_true] at hb;exact jad hb.1.2.1
   ·cases hb
  refine (jjk (b:Int) s A cap es w k1 (by unfold maxLen;omega) (by omega)).mono ?_
  rintro e w' ⟨rfl,hb'⟩
  rw [k2]
  exact ⟨_,G,rfl,jbj hR hb',rfl⟩
 ·cases h
end
end Ev
end
section
open Go.RowKit Go.ChangeMaps Go.MapKept
theorem jif {U V:List Nat} (h:∀ k,k∈U↔k∈V):∀ (m n a:Nat),frL U n a m=frL V n a m
 | 0,n,a=>by rw [jgy,jgy]
 | m+1,0,a=>rfl
 | m+1,n+1,a=>by
   by_cases c:a∈U
   ·rw [frL_in c,frL_in ((h a).1 c),jif h m]
   ·rw [jku c,jku (fun q=>c ((h a).2 q)),jif h m]
theorem FileBl.one {w:World} {v:Value} {l l':List Nat} (h:FileBl w v l) (h':FileBl w v l'):l=l':=by
 obtain ⟨p,q,A,cap,e,_,hb⟩:=h
 obtain ⟨p',q',A',cap',e',_,hb'⟩:=h'
 rw [e] at e'
 have e':=Value.agg.inj e'
 have e3:Value.slice A l.length cap=Value.slice A' l'.length cap':=by
  have:=congrArg (fun a:Array Value=>a[2]?) e'
  simpa using this
 have hA:=(Value.slice.inj e3).1
 have hl:=(Value.slice.inj e3).2.1
 refine List.ext_getElem hl fun j h1 h2=>?_
 obtain ⟨g,off,a1,_,a2,_⟩:=hb j h1
 obtain ⟨g',off',b1,_,b2,_⟩:=hb' j h2
 rw [a1,b1] at hA
 have:=Option.some.inj hA
 have hg:g=g':=(Addr.mk.inj this).1
 have ho:off=off':=(Addr.mk.inj this).2.1
 subst hg
 subst ho
 rw [a2] at b2
 have:=(Value.int.inj (Option.some.inj b2)).2
 omega
namespace Ev
noncomputable section
def memB (k:Nat) (l:List Nat):Bool:=List.rec false (fun x _ ih=>cnd (Nat.beq x k) true ih) l
theorem memB_iff {k:Nat}:∀ {l:List Nat},memB k l=true↔k∈l
 | []=>⟨fun h=>(by cases h),fun h=>(by cases h)⟩
 | x::l=>by
   show cnd (Nat.beq x k) true (memB k l)=true↔_
   cases hb:Nat.beq x k with
   | true=>simp [jae hb]
   | false =>
     have:=Nat.ne_of_beq_eq_false hb
     simp only [cnd_false,List.mem_cons,memB_iff (l:=l)]
     exact ⟨.inr,fun q=>q.resolve_left fun e=>this e.symm⟩
def frN (U:List Nat) (m:Nat):Nat→Nat→List Nat:=Nat.rec (motive:=fun _=>Nat→Nat→List Nat) (fun _ _=>[]) (fun _ ih n a=>Nat.rec [] (fun n' _=>cnd (memB a U) (ih (Nat.succ n') (Nat.add a 1)) (a::ih n' (Nat.add a 1))) n) m
theorem frN_eq (U:List Nat):∀ (m n a:Nat),frN U m n a=frL U n a m
 | 0,n,a=>by rw [jgy];rfl
 | m+1,0,a=>rfl
 | m+1,n+1,a=>by
   show cnd (memB a U) (frN U m (n+1) (a+1)) (a::frN U m n (a+1))=_
   cases hb:memB a U with
   | true=>rw [frL_in (memB_iff.1 hb),cnd_true,frN_eq U m]
   | false =>
     have:a∉U:=fun q=>by rw [memB_iff.2 q] at hb;cases hb
     rw [jku this,cnd_false,frN_eq U m]
def natL:List Sc→Option (List Nat)
 | []=>some []
 | .i .i64 (.ofNat k)::r=>cnd (Nat.blt k 4611686018427387904) (match natL r with | some l=>some (k::l) | none=>none) none
 | _::_=>none
def blV (blk:Sc) (H:HT):Option (List Nat):=match slRd 1 blk H with
 | some xs=>cnd (Nat.ble xs.length 1000000) (natL xs) none
 | none=>none
def flB (H:HT):List (Sc×E)→Option (List Nat)
 | []=>some []
 | (_,.a [.i .i64 _,.i .u64 _,blk])::r=>(match blV blk H,flB H r with | some l,some m=>some (l++m) | _,_=>none)
 | _::_=>none
theorem natL_ok {G:Gh}:∀ {xs:List Sc} {vs:List Value} {l:List Nat},All2 (Sc.ok G) xs vs→natL xs=some l→vs=l.map (fun k:Nat=>Value.int .i64 (k:Int))∧∀ k∈l,k<4611686018427387904
 | _,_,l,.nil,h=>by
   have h:some []=some l:=h
   cases h;exact ⟨rfl,fun k hk=>by cases hk⟩
 | _::_,_::_,l,.cons (a:=x) (b:=v) hp hr,h=>by
   unfold natL at h
   split at h
   ·cases ‹_::_=[]›
   ·rename_i k r heq
    cases heq
    obtain ⟨h1,h⟩:=jab h
    split at h
    ·rename_i l' hl
     cases h
     obtain ⟨i1,i2⟩:=natL_ok hr hl
     refine ⟨?_,fun j hj=>?_⟩
     ·have hp:v=.int .i64 (k:Int):=hp
      rw [hp,i1];rfl
     ·rcases List.mem_cons.1 hj with rfl | hj
      ·exact jaa h1
      ·exact i2 j hj
    ·cases h
   ·cases h
theorem blV_ok {G:Gh} {H:HT} {w:World} (hR:R G (hp H) w) {blk:Sc} {a b:Int} {l:List Nat} (h:blV blk H=some l) {v c:Value} (hv:v=.agg #[.int .i64 a,.int .u64 b,c]) (hc:Sc.ok G blk c):FileBl w v l:=by
 unfold blV at h
 split at h
 ·rename_i xs hxs
  obtain ⟨h1,h⟩:=jab h
  obtain ⟨A,n,cap,vs,rfl,hall,hr⟩:=jdf hR hxs hc
  obtain ⟨i1,i2⟩:=natL_ok hall h
  have hn:n=l.length:=by
   have:=hr.1
   rw [i1,List.length_map] at this;omega
  subst hn
  refine ⟨a,b,A,cap,hv,?_,fun j hj=>?_⟩
  ·have:=jad h1
   rw [hall.length,i1,List.length_map] at this
   exact this
  ·obtain ⟨g,off,e1,e2,e3⟩:=hr.2 (by omega)
   refine ⟨g,off,e1,e2,e3 j _ ?_,i2 _ (List.getElem_mem hj)⟩
   rw [i1,List.getElem?_map,List.getElem?_eq_getElem hj];rfl
 ·cases h
theorem flB_ok {G:Gh} {H:HT} {w:World} (hR:R G (hp H) w):∀ {es:List (Sc×E)} {ents:List MapEntry} {U:List Nat},All2 (KvOk G) es ents→flB H es=some U→(∀ e∈ents,∃ l,FileBl w e.val l∧∀ k∈l,k∈U)∧∀ k∈U,∃ e∈ents,∃ l,FileBl w e.val l∧k∈l
 | _,_,U,.nil,h=>by
   have h:some []=some U:=h
   cases h
   exact ⟨fun e he=>(by cases he),fun k hk=>(by cases hk)⟩
 | _::_,_::_,U,.cons (a:=p) (b:=e0) hp hr,h=>by
   unfold flB at h
   split at h
   ·cases ‹_::_=[]›
   ·rename_i x1 x a b blk r heq
    cases heq
    split at h
    ·rename_i l m hl hm
     cases h
     obtain ⟨arr,hv,ha⟩:∃ arr:Array Value,e0.val=.agg arr∧All2 (Sc.ok G) [.i .i64 a,.i .u64 b,blk] arr.toList:=hp.2
     obtain ⟨arr⟩:=arr
     cases ha with
     | cons a1 ha =>
     cases ha with
     | cons a2 ha =>
     cases ha with
     | cons a3 ha =>
     cases ha
     have a1:_=Value.int .i64 a:=a1
     have a2:_=Value.int .u64 b:=a2
     subst a1
     subst a2
     have hf:=blV_ok hR hl hv a3
     obtain ⟨i1,i2⟩:=flB_ok hR hr hm
     refine ⟨fun e he=>?_,fun k hk=>?_⟩
     ·rcases List.mem_cons.1 he with rfl | he
      ·exact ⟨l,hf,fun k hk=>List.mem_append_left _ hk⟩
      ·obtain ⟨l',q1,q2⟩:=i1 e he
       exact ⟨l',q1,fun k hk=>List.mem_append_right _ (q2 k hk)⟩
     ·rcases List.mem_append.1 hk with hk | hk
      ·exact ⟨e0,List.mem_cons_self ..,l,hf,hk⟩
      ·obtain ⟨e,q1,q2⟩:=i2 k hk
       exact ⟨e,List.mem_cons_of_mem _ q1,q2⟩
    ·cases h
   ·cases h
def frR (l:List Nat) (H:HT) (n:Nat):Rs:=match l with
 | []=>.no
 | k::l=>cnd (and (Nat.blt n HB) (Nat.ble (k::l).length 32768)) (.ok (.c (.su n 0 (k::l).length (k::l).length 1)) (hset H n (jdn ((k::l).map scN) true)) (Nat.add n 1)) .no
def frM (m first after mid:Nat) (H:HT) (n:Nat):Rs :=
 cnd (and (Nat.blt mid HB) (and (Nat.blt after 4611686018427387904) (Nat.blt m 1000000))) (match hget H mid with
  | .mp es=>(match flB H es with | some U=>frR (frN U (Nat.sub after first) m first) H n | none=>.no)
  | _=>.no) .no
def frA (m:Nat) (a b c:Sc) (H:HT) (n:Nat):Rs:=match a,b,c with
 | .i .i64 (.ofNat first),.i .i64 (.ofNat after),.m mid=>frM m first after mid H n
 | _,_,_=>.no
def sFree (args:List V) (H:HT) (n:Nat):Rs:=match args with
 | [.c (.p id off),.c (.i .i64 (.ofNat m))]=>cnd (and (Nat.beq off 0) (Nat.blt id HB)) (match hget H id with
   | .row k x dep d t=>cnd (Nat.ble 6 k) (frA m (tget dep d t 2) (tget dep d t 3) (tget dep d t 5) H n) .no
   | _=>.no) .no
 | _=>.no
theorem frR_mono {l:List Nat} {H H':HT} {n n':Nat} {v:V} (h:frR l H n=.ok v H' n'):n≤n':=by
 unfold frR at h
 split at h
 ·cases h
 ·have q:=jai h
  clear h
  obtain ⟨_,h⟩:=q
  cases h;exact Nat.le_succ _
theorem sFree_ok:jbi Tryz.prog 213 sFree:=by
 intro args H n v H' n' h
 unfold sFree at h
 split at h
 ·rename_i id off m
  have q:=jai h
  clear h
  obtain ⟨hb,h⟩:=q
  rw [Bool.and_eq_true] at hb
  have hoff:=jae hb.1
  have hid:=jaa hb.2
  subst hoff
  split at h
  ·rename_i k x dep d t hob
   have q:=jai h
   clear h
   obtain ⟨hk,h⟩:=q
   have hk:=jad hk
   have hpid:hp H id=.row k x dep d t:=(jas hid).trans hob
   unfold frA at h
   split at h
   ·rename_i first after mid h2 h3 h5
    unfold frM at h
    have q:=jai h
    clear h
    obtain ⟨hb,h⟩:=q
    rw [Bool.and_eq_true,Bool.and_eq_true] at hb
    have hmid:=jaa hb.1
    have haf:=jaa hb.2.1
    have hm:=jaa hb.2.2
    split at h
    ·rename_i es hes
     have hpm:hp H mid=.mp es:=(jas hmid).trans hes
     split at h
     ·rename_i U hU
      refine ⟨frR_mono h,fun G w cargs hR ha hf=>?_⟩
      obtain ⟨c,c',rfl,hc,hc'⟩:=cargs2 ha
      obtain ⟨b,sz,hg,rfl⟩:=hc
      have hc':c'=.int .i64 (m:Int):=hc'
      subst hc'
      obtain ⟨b',sz',ob,g1,k1,o1⟩:=hR.1 id (by rw [hpid];exact fun q=>by cases q)
      rw [hg] at g1;cases g1
      rw [hpid] at o1
      obtain ⟨va,vel,vfz,rfl,s1,s2,s3,s4,s5,s6⟩:=o1
      obtain ⟨bm,szm,om,gm,km,o3⟩:=hR.1 mid (by rw [hpm];exact fun q=>by cases q)
      rw [hpm] at o3
      obtain ⟨ents,clock,rfl,hst,hall⟩:=o3
      have v2:va.getD 2 undef=.int .i64 (first:Int):=by have:=s6 2 (by omega);rw [h2] at this;exact this
      have v3:va.getD 3 undef=.int .i64 (after:Int):=by have:=s6 3 (by omega);rw [h3] at this;exact this
      have v5:va.getD 5 undef=.map (some bm):=by
       have:=s6 5 (by omega)
       rw [h5] at this
       obtain ⟨b2,sz2,q1,q2⟩:=this
       rw [gm] at q1;cases q1
       exact q2
      obtain ⟨f1,f2⟩:=flB_ok hR hall hU
      classical
      obtain ⟨bl,hbl⟩:∃ bl:MapEntry→List Nat,∀ e∈ents.toList,FileBl w e.val (bl e)∧∀ k∈bl e,k∈U:=by
       refine ⟨fun e=>if he:e∈ents.toList then Classical.choose (f1 e he) else [],fun e he=>?_⟩
       have:=Classical.choose_spec (f1 e he)
       simp only [dif_pos he]
       exact this
      rw [frN_eq] at h
      refine (u_free b bm clock first after m va vel vfz ents bl w k1 (by omega) v2 v3 v5 km hst (fun e he=>(hbl e he).1) haf hm).mono ?_
      rintro e w' ⟨v',U',rfl,hU',hrow,hbw⟩
      have hmem:∀ k,k∈U'↔k∈U:=fun k=>by
       rw [hU' k]
       constructor
       ·rintro ⟨e,he,hk⟩
        exact (hbl e he).2 k hk
       ·intro hk
        obtain ⟨e,he,l,q1,q2⟩:=f2 k hk
        exact ⟨e,he,by rw [(hbl e he).1.one q1];exact q2⟩
      rw [jif hmem] at hrow
      have hrow:w'.ownsRow w.heap.size 3 1 v' (frL U m first (Nat.sub after first)).length ((frL U m first (Nat.sub after first)).map fun k:Nat=>Value.int .i64 (k:Int)):=hrow
      generalize frL U m first (Nat.sub after first)=L at h hrow
      unfold frR at h
      split at h
      ·cases h
      ·rename_i k0 l0
       have q:=jai h
       clear h
       obtain ⟨hb3,h⟩:=q
       rw [Bool.and_eq_true] at hb3
       have hn:=jaa hb3.1
       have hl:=jad hb3.2
       cases h
       obtain ⟨G',r1,r2,r3⟩:=stp_own (xs:=(k0::l0).map scN) hR hbw hn (hf n (Nat.le_refl _) (Nat.lt_succ_self _)) (by simpa using hl) hrow (by simp) (fun G' _=>All2.of_get _ _ (by simp) fun i h1 h2=>by simp only [List.getElem_map];rfl)
       exact ⟨_,G',rfl,r1,r3⟩
     ·cases h
    ·cases h
   ·cases h
  ·cases h
 ·cases h
end
end Ev
end
end Go.Proofs.YtcchekmejnhlmaaGreat
