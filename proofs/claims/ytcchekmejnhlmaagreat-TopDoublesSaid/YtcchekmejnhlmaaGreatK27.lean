/- Joined texts. -/
import Derived.Test.YtcchekmejnhlmaaGreatK26
namespace Go.Proofs.YtcchekmejnhlmaaGreat
set_option linter.unusedVariables false
set_option maxHeartbeats 4000000
section
open Go.RowKit
namespace Db
open Ev
noncomputable section
def sAt (i:Nat):Sg:=if i<8 then jdx i else finN 7
theorem jke (r:Nat) (hr:r<8):sAt (r+1)=finN r :=
 i8 (p:=fun r=>sAt (r+1)=finN r) (by refine ⟨?_,?_,?_,?_,?_,?_,?_,?_⟩<;>kernel_rfl) r hr
theorem umod (q:Int) (L:Nat) (h:0<L):∃ a:Nat,a<L∧(IntKind.u64.wrap q).tmod (L:Int)=(a:Int):=by
 have h0:0≤IntKind.u64.wrap q:=by simp [IntKind.wrap,IntKind.bits,IntKind.signed];omega
 have h1:=Int.emod_nonneg (IntKind.u64.wrap q) (b:=(L:Int)) (by omega)
 have h2:=Int.emod_lt_of_pos (IntKind.u64.wrap q) (b:=(L:Int)) (by omega)
 refine ⟨((IntKind.u64.wrap q) % (L:Int)).toNat,by omega,?_⟩
 rw [Int.tmod_eq_emod_of_nonneg h0]
 omega
theorem drain_len {n:Nat} {s s':Sg} {bag g:List Nat} (h:Drain n s bag s' g):g.length≤n:=by
 induction h with
 | nil=>exact Nat.zero_le _
 | @cons n s t r s1 os s' g h1 h2 ih =>
   cases Nat.beq (dst t) 3 with
   | true=>show g.length+1≤n+1;omega
   | false=>show g.length≤n+1;omega
def Gok (t:Nat):Prop:=(tmN t).to=100∧(tmN t).co=0∧(tmN t).nu≠3
theorem gok_of {t:Nat} (h:dst t=3) (hn:(tmN t).nu≠3):Gok t:=by
 rcases dst_ok t with q | q
 ·exact ⟨q.2.1,q.2.2.2.1,hn⟩
 ·omega
section
variable {w:World}
set_option maxRecDepth 100000 in
set_option maxHeartbeats 4000000 in
theorem topDoubles_walk0 (x:Int) (A:Option Addr) (cap:Nat) (ps:List Int) (hr:Reads w w.heap.size 1 A ps.length (ps.map (Value.int .i64))) (hl:ps.length≤9223372036854775807) :
 Calls Tryz.prog 5 #[.int .i64 x,.slice A ps.length cap] w fun e w'=>e=.returned (.bool true)∧Below w.heap.size w w':=by
 have HR:=Lib.hid hr
 clear hr
 obtain ⟨K,hK1,hK8,e7⟩:∃ K:Nat,1≤K∧K≤8∧wrap64 (1+bits .and .i64 x 7)=(K:Int):=by
  obtain ⟨j,hj,hb⟩:=and_low x 7 (by decide)
  refine ⟨j+1,by omega,by omega,?_⟩
  rw [show bits .and .i64 x 7=(j:Int) from hb]
  unfold wrap64
  omega
 go_enter Tryz.func5,Tryz.ntmps5
 go_wp2_with fail
 refine (awake_any w).mono ?_
 rintro e w1 ⟨rfl,hb1⟩
 go_wp2_with fail
 refine (begun_any w1).mono ?_
 rintro e w2 ⟨κ,π,c2,rfl,hb2,hc2,hW2,hP2⟩
 have hwr:=Lib.hid (written_any hW2 hP2 act_open act_wr)
 have Hc2:=Lib.hid hc2
 have Hb2:Hid (Below w.heap.size w w2):=Lib.hid (hb1.trans (hb2.mono hb1.size))
 have Hs1:Hid (w.heap.size≤w1.heap.size):=Lib.hid hb1.size
 have Hs2:Hid (w1.heap.size≤w2.heap.size):=Lib.hid hb2.size
 clear hb1 hb2 hc2 hW2 hP2
 go_wp2_with fail
 refine hwr.out.mono ?_
 rintro e w3 ⟨rfl,c3,hW3,hP3,hS3⟩
 have HW3:=Lib.hid hW3
 have HP3:=Lib.hid hP3
 have HS3:=Lib.hid hS3
 clear hW3 hP3 hS3 hwr
 go_wp2_with fail
 rw [e7]
 clear e7
 go_loopw [8,9,10] (fun vi _ _ wr=>∃ (i:Nat) (c1:Nat→Nat) (got1:List Nat) (ns1:Nat),i≤K∧vi=.int .i64 (i:Int)∧Hid (Wv κ c1 wr (sAt i) [] got1 ns1)∧Hid (Py κ π c1 wr 1 2 2 zMs)∧Hid (Stc (fun j=>j≤7) c2 c1 w2 wr)∧2≤got1.length∧got1.length≤2+200*i∧ns1=2+i∧Hid (∀ t∈got1.drop 2,Gok t)) (fun vi _ _ _=>K-(intOf vi).toNat)
 case atStart=>exact ⟨0,c3,[tRe1,tRe2],2,Nat.zero_le _,rfl,HW3,HP3,HS3,by simp,by simp,rfl,Lib.hid (fun t ht=>by simp at ht)⟩
 case round =>
  obtain ⟨i,c1,got1,ns1,hiK,rfl,HW,HP,HS,hg2,hgl,hns,HG⟩:=hrel
  by_cases hlt:i<K
  ·have hi8:i<8:=by omega
   have hik:(i:Int)<(K:Int):=by omega
   have HW:Hid (Wv κ c1 wr (jdx i) [] got1 ns1):=by rw [←show sAt i=jdx i from if_pos hi8];exact HW
   have hw1:IntKind.i64.wrap (10+(i:Int))=10+(i:Int):=by rw [IntKind.wrap_i64];omega
   have hw2:IntKind.i64.wrap (500+(i:Int))=500+(i:Int):=by rw [IntKind.wrap_i64];omega
   have hbA:Below wr.heap.size wr ((wr.alloc (.cells #[.string ⟨#[115]⟩,.int .i64 1,.int .i64 (500+(i:Int))] 46)).drew):=((Below.refl _ _).alloc (Nat.le_refl _) _).drew
   have stA:Stc (fun j=>j=7) c1 (jbr c1 wr.heap.size 8 none) wr ((wr.alloc (.cells #[.string ⟨#[115]⟩,.int .i64 1,.int .i64 (500+(i:Int))] 46)).drew):=Stc.of_only (by decide) (Only.new _ hbA) (fun b hb _=>if_pos hb)
   have HWA:=Lib.hid (HW.out.stc7 stA)
   have HPA:Hid (Py κ π (jbr c1 wr.heap.size 8 none) ((wr.alloc (.cells #[.string ⟨#[115]⟩,.int .i64 1,.int .i64 (500+(i:Int))] 46)).drew) 1 2 2 zMs):=Lib.hid (HP.out.stc (K:=fun _=>False) (Stc.of_only id (Only.new _ hbA) (fun b hb _=>if_pos hb)) id)
   have HSA:Hid (Stc (fun j=>j≤7) c2 (jbr c1 wr.heap.size 8 none) w2 ((wr.alloc (.cells #[.string ⟨#[115]⟩,.int .i64 1,.int .i64 (500+(i:Int))] 46)).drew)):=Lib.hid (HS.out.trans (stA.mono (by decide) (fun j q=>by omega)))
   have hBt:BatOk ((wr.alloc (.cells #[.string ⟨#[115]⟩,.int .i64 1,.int .i64 (500+(i:Int))] 46)).drew) (fun b=>jbr c1 wr.heap.size 8 none b=8) (tmN (reqN i)).p (some ⟨wr.heap.size,0,none⟩) 1 1:=by
    rw [tm_req i hi8]
    exact ⟨rfl,Nat.le_refl _,wr.heap.size,_,_,(0,0),rfl,(Blk.new wr _ _).drew,fun j _ q=>by omega,rfl,rfl,rfl,rfl,rec8 c1 _⟩
   have hsend:=wSend HWA.out (reqN i) (act_req i hi8) hBt (by simp) (by omega)
   rw [tm_req i hi8] at hsend
   have HSd:Hid (Calls Tryz.prog 11 #[.pointer (some ⟨κ.gw,0,none⟩),.agg #[.int .i64 7,.int .i64 0,.int .i64 0,.int .i64 0,.int .i64 0,.int .i64 100,.int .i64 0,.int .i64 0,.int .i64 0,.int .i64 0,.int .i64 0,.int .i64 0,.int .i64 0,.int .i64 1,.int .i64 (10+(i:Int)),.int .i64 0,.int .i64 0,.int .i64 0,.string ⟨#[]⟩,.slice (some ⟨wr.heap.size,0,none⟩) 1 1,.int .i64 0,.string ⟨#[]⟩,.slice none 0 0,.string ⟨#[]⟩]] ((wr.alloc (.cells #[.string ⟨#[115]⟩,.int .i64 1,.int .i64 (500+(i:Int))] 46)).drew) fun e w'=>e=.returned (.int .i64 0)∧∃ c',Wv κ c' w' (jdx i) ([]++[reqN i]) got1 (ns1+1)∧Stc (fun j=>j≤6) (jbr c1 wr.heap.size 8 none) c' ((wr.alloc (.cells #[.string ⟨#[115]⟩,.int .i64 1,.int .i64 (500+(i:Int))] 46)).drew) w'):=Lib.hid hsend
   clear hsend hBt hbA
   have HKS:Hid (∀ W,Below wr.heap.size wr W→W.cell? ⟨π.gy,0,none⟩=some (.pointer (some ⟨κ.gw,0,none⟩))∧W.cell? ⟨π.gy,2,none⟩=some (.slice (some ⟨π.gs,0,none⟩) 1 1)∧W.cell? ⟨π.gs,0,none⟩=some (.int .i64 1)):=Lib.hid (fun W hb=>by
    have h:=HP.out.below hb
    exact ⟨h.y.cell 0,h.y.cell 2,h.ss.cell 0⟩)
   clear stA HWA HW HP HS
   go_wp2_with fail
   refine jan (S:=(fun W=>W.cell? ⟨π.gy,0,none⟩=some (.pointer (some ⟨κ.gw,0,none⟩))∧W.cell? ⟨π.gy,2,none⟩=some (.slice (some ⟨π.gs,0,none⟩) 1 1)∧W.cell? ⟨π.gs,0,none⟩=some (.int .i64 1))) [18] (by kernel_rfl) ?_ (fun hHeld=>?_)
   ·exact HKS.out _ ((Below.refl _ _).drew)
   refine tK 0 36 (v:=?_) rfl ?_ ?_;rotate_left 1;(focus intro w hSw;(try dsimp only at hSw);go_simp;try with_reducible rfl);try simp only [Act.put,zsA,zsB,zsC]
   refine tK 1 37 (v:=?_) rfl ?_ ?_;rotate_left 1;(focus intro w hSw;(try dsimp only at hSw);go_simp;try with_reducible rfl);try simp only [Act.put,zsA,zsB,zsC]
   refine tK 2 38 (v:=?_) rfl ?_ ?_;rotate_left 1;(focus intro w hSw;(try dsimp only at hSw);go_simp;try with_reducible rfl);try simp only [Act.put,zsA,zsB,zsC]
   refine tK 3 39 (v:=?_) rfl ?_ ?_;rotate_left 1;(focus intro w hSw;(try dsimp only at hSw);go_simp;try with_reducible rfl);try simp only [Act.put,zsA,zsB,zsC]
   refine tK 4 40 (v:=?_) rfl ?_ ?_;rotate_left 1;(focus intro w hSw;(try dsimp only at hSw);go_simp;try with_reducible rfl);try simp only [Act.put,zsA,zsB,zsC]
   refine tK 5 41 (v:=?_) rfl ?_ ?_;rotate_left 1;(focus intro w hSw;(try dsimp only at hSw);go_simp;try with_reducible rfl);try simp only [Act.put,zsA,zsB,zsC]
   refine tK 6 42 (v:=?_) rfl ?_ ?_;rotate_left 1;(focus intro w hSw;(try dsimp only at hSw);go_simp;try with_reducible rfl);try simp only [Act.put,zsA,zsB,zsC]
   refine tK 7 43 (v:=?_) rfl ?_ ?_;rotate_left 1;(focus intro w hSw;(try dsimp only at hSw);go_simp;try with_reducible rfl);try simp only [Act.put,zsA,zsB,zsC]
   refine tK 8 44 (v:=?_) rfl ?_ ?_;rotate_left 1;(focus intro w hSw;(try dsimp only at hSw);go_simp;try with_reducible rfl);try simp only [Act.put,zsA,zsB,zsC]
   refine tK 9 45 (v:=?_) rfl ?_ ?_;rotate_left 1;(focus intro w hSw;(try dsimp only at hSw);go_simp;try with_reducible rfl);try simp only [Act.put,zsA,zsB,zsC]
   refine tK 10 46 (v:=?_) rfl ?_ ?_;rotate_left 1;(focus intro w hSw;(try dsimp only at hSw);go_simp;try with_reducible rfl);try simp only [Act.put,zsA,zsB,zsC]
   refine tK 11 47 (v:=?_) rfl ?_ ?_;rotate_left 1;(focus intro w hSw;(try dsimp only at hSw);go_simp;try with_reducible rfl);try simp only [Act.put,zsA,zsB,zsC]
   refine tK 12 48 (v:=?_) rfl ?_ ?_;rotate_left 1;(focus intro w hSw;(try dsimp only at hSw);go_simp;try with_reducible rfl);try simp only [Act.put,zsA,zsB,zsC]
   refine tK 13 49 (v:=?_) rfl ?_ ?_;rotate_left 1;(focus intro w hSw;(try dsimp only at hSw);go_simp;try with_reducible rfl);try simp only [Act.put,zsA,zsB,zsC]
   refine tK 14 50 (v:=?_) rfl ?_ ?_;rotate_left 1;(focus intro w hSw;(try dsimp only at hSw);go_simp;try with_reducible rfl);try simp only [Act.put,zsA,zsB,zsC]
   refine jah (i:=15) (o:=⟨some 51,_,_,_,_,_⟩) (by kernel_rfl) rfl (fun K' hK=>?_)
   go_simp
   refine hK.out _ _ (fun _=>?_) (fun hHeld'=>?_)
   ·exact HKS.out _ (((Below.refl _ _).drew).alloc (Nat.le_refl _) _)
   have hHeld:=hHeld' rfl
   clear hK K'
   try simp only [Act.put,zsA,zsB,zsC]
   refine tK 16 52 (v:=?_) rfl ?_ ?_;rotate_left 1;(focus intro w hSw;(try dsimp only at hSw);go_simp;try with_reducible rfl);try simp only [Act.put,zsA,zsB,zsC]
   refine tK 17 53 (v:=?_) rfl ?_ ?_;rotate_left 1;(focus intro w hSw;(try dsimp only at hSw);go_simp;try with_reducible rfl);try simp only [Act.put,zsA,zsB,zsC]
   refine jah (i:=18) (o:=⟨some 54,_,_,_,_,_⟩) (by kernel_rfl) rfl (fun K' hK=>?_)
   go_simp
   ((with_reducible refine HSd.out.mono ?_);rintro e w4 ⟨rfl,c4,hW4,hS4⟩)
   go_wp2_with fail
   refine hK.out _ _ (fun h=>absurd h (by decide)) (fun _=>?_)
   clear hK K'
   try simp only [Act.put,zsA,zsB,zsC]
   refine jao (by kernel_rfl) ?_ _
   have HW4:Hid (Wv κ c4 w4 (jdx i) [reqN i] got1 (ns1+1)):=Lib.hid hW4
   have HP4:=Lib.hid (HPA.out.stc hS4 (by decide))
   have HS4:=Lib.hid (HSA.out.trans (hS4.mono (by decide) (fun j q=>by omega)))
   clear hW4 hS4 HSd HPA HSA HKS
   go_wp2_with fail
   go_loopw [9,10] (fun vj _ wq=>∃ (j:Nat) (c5:Nat→Nat) (s2:Sg) (bag2 got2:List Nat),j≤6∧vj=.int .i64 (j:Int)∧Hid (Inv (rwN i) s2 bag2)∧Hid (wsum bag2≤11+11*j)∧Hid (Wv κ c5 wq s2 bag2 got2 (ns1+1))∧Hid (Py κ π c5 wq 1 2 2 zMs)∧Hid (Stc (fun j=>j≤7) c2 c5 w2 wq)∧2≤got2.length∧got2.length≤2+200*i+j∧Hid (∀ t∈got2.drop 2,Gok t)) (fun vj _ _=>6-(intOf vj).toNat)
   case atStart=>exact ⟨0,c4,jdx i,[reqN i],got1,by omega,rfl,Lib.hid (inv_start i hi8),Lib.hid (by have:=wt_11 (reqN i);show wt (reqN i)+0≤_;omega),HW4,HP4,HS4,hg2,by omega,HG⟩
   case round =>
    obtain ⟨j,c5,s2,bag2,got2,hj6,rfl,HI,Hws,HW,HP,HS,hg2',hgl',HG'⟩:=hrel
    clear HW4 HP4 HS4
    by_cases hjn:j<ps.length∧j<6
    ·have hjl:(j:Int)<(ps.length:Int):=by omega
     have hj6':(j:Int)<6:=by omega
     have hj0:(0:Int)≤(j:Int):=by omega
     have hb77:bag2.length≤11+11*j:=Nat.le_trans (len_wsum (inv_wt i hi8 HI.out)) Hws.out
     have y0:wr.cell? ⟨π.gy,0,none⟩=some (.pointer (some ⟨κ.gw,0,none⟩)):=HP.out.y.cell 0
     have hbg:=Lib.hid (wBag HW.out (by omega))
     go_wp2_with fail
     refine hbg.out.mono ?_
     rintro e w5 ⟨A5,k5,rfl,hb5⟩
     have HW5:=Lib.hid (HW.out.below hb5)
     have HP5:=Lib.hid (HP.out.below hb5)
     have HS5:Hid (Stc (fun j=>j≤7) c2 c5 w2 w5):=Lib.hid (HS.out.trans (Stc.of_only (by decide) (Only.new _ hb5) (fun _ _ _=>rfl)))
     clear hb5 hbg y0 HW HP HS
     by_cases hL:0<bag2.length∧bag2.length<40
     ·have hL0:(0:Int)<(bag2.length:Int):=by omega
      have hL4:(bag2.length:Int)<40:=by omega
      obtain ⟨ab,ao,rfl,habl,hac⟩:=HR.out.2 (by omega)
      have hpick:w5.cell? ⟨ab,ao+j,none⟩=some (.int .i64 ps[j]):=by
       have h1:w2.cell? ⟨ab,ao+j,none⟩=w.cell? ⟨ab,ao+j,none⟩:=Hb2.out.cell (p:=⟨ab,ao+j,none⟩) habl
       have hlt2:ab<w2.heap.size:=by have:=Hs1.out;have:=Hs2.out;omega
       rw [HS5.out.only.cell (p:=⟨ab,ao+j,none⟩) hlt2 (by show ¬(c2 ab≤7∨c2 ab=8);rw [Hc2.out ab (by have:=Hs1.out;omega)];decide),h1]
       refine hac j _ ?_
       rw [List.getElem?_map,List.getElem?_eq_getElem hjn.1];rfl
      obtain ⟨p,hp⟩:∃ p,ps[j]'hjn.1=p:=⟨_,rfl⟩
      rw [hp] at hpick
      clear hp
      have Hpk:=Lib.hid hpick
      clear hpick
      have hu:IntKind.u64.wrap (bag2.length:Int)=(bag2.length:Int):=by simp [IntKind.wrap,IntKind.bits,IntKind.signed];omega
      have hz:¬(bag2=[]):=by intro q;rw [q] at hL;exact absurd hL.1 (by decide)
      obtain ⟨da,hda,eda⟩:=umod p bag2.length hL.1
      have wda:IntKind.i64.wrap (da:Int)=(da:Int):=by rw [IntKind.wrap_i64];omega
      go_wp2_with fail
      have hdd:Below w5.heap.size w5 w5.drew:=(Below.refl _ _).drew
      have stD:Stc (fun j=>j≤6) c5 c5 w5 w5.drew:=Stc.of_only (by decide) (Only.new _ hdd) (fun _ _ _=>rfl)
      have HDb:=Lib.hid (wDouble (HW5.out.below hdd) da hda (by omega))
      refine jan (S:=(fun W=>W.cell? ⟨π.gy,0,none⟩=some (.pointer (some ⟨κ.gw,0,none⟩))∧W.cell? ⟨ab,ao+j,none⟩=some (.int .i64 p))) [15] (by kernel_rfl) ?_ (fun hHeld=>?_)
      ·exact ⟨HP5.out.y.cell 0,Hpk.out⟩
      refine tK 0 78 (v:=?_) rfl ?_ ?_;rotate_left 1;(focus intro w hSw;(try dsimp only at hSw);go_simp;try with_reducible rfl);try simp only [Act.put,zsA,zsB,zsC]
      refine tK 1 79 (v:=?_) rfl ?_ ?_;rotate_left 1;(focus intro w hSw;(try dsimp only at hSw);go_simp;try with_reducible rfl);try simp only [Act.put,zsA,zsB,zsC]
      refine tK 2 80 (v:=?_) rfl ?_ ?_;rotate_left 1;(focus intro w hSw;(try dsimp only at hSw);go_simp;try with_reducible rfl);try simp only [Act.put,zsA,zsB,zsC]
      refine tK 3 81 (v:=?_) rfl ?_ ?_;rotate_left 1;(focus intro w hSw;(try dsimp only at hSw);go_simp;try with_reducible rfl);try simp only [Act.put,zsA,zsB,zsC]
      refine tK 4 82 (v:=?_) rfl ?_ ?_;rotate_left 1;(focus intro w hSw;(try dsimp only at hSw);go_simp;try with_reducible rfl);try simp only [Act.put,zsA,zsB,zsC]
      refine tK 5 83 (v:=?_) rfl ?_ ?_;rotate_left 1;(focus intro w hSw;(try dsimp only at hSw);go_simp;try with_reducible rfl);try simp only [Act.put,zsA,zsB,zsC]
      refine tK 6 84 (v:=?_) rfl ?_ ?_;rotate_left 1;(focus intro w hSw;(try dsimp only at hSw);go_simp;try with_reducible rfl);try simp only [Act.put,zsA,zsB,zsC]
      refine tK 7 85 (v:=?_) rfl ?_ ?_;rotate_left 1;(focus intro w hSw;(try dsimp only at hSw);go_simp;try with_reducible rfl);try simp only [Act.put,zsA,zsB,zsC]
      refine tK 8 86 (v:=?_) rfl ?_ ?_;rotate_left 1;(focus intro w hSw;(try dsimp only at hSw);go_simp;try with_reducible rfl);try simp only [Act.put,zsA,zsB,zsC]
      refine tK 9 87 (v:=?_) rfl ?_ ?_;rotate_left 1;(focus intro w hSw;(try dsimp only at hSw);go_simp;try with_reducible rfl);try simp only [Act.put,zsA,zsB,zsC]
      refine tK 10 88 (v:=?_) rfl ?_ ?_;rotate_left 1;(focus intro w hSw;(try dsimp only at hSw);go_simp;try with_reducible rfl);try simp only [Act.put,zsA,zsB,zsC]
      refine tK 11 89 (v:=?_) rfl ?_ ?_;rotate_left 1;(focus intro w hSw;(try dsimp only at hSw);go_simp;try with_reducible rfl);try simp only [Act.put,zsA,zsB,zsC]
      refine tK 12 90 (v:=?_) rfl ?_ ?_;rotate_left 1;(focus intro w hSw;(try dsimp only at hSw);go_simp;try with_reducible rfl);try simp only [Act.put,zsA,zsB,zsC]
      refine tK 13 91 (v:=?_) rfl ?_ ?_;rotate_left 1;(focus intro w hSw;(try dsimp only at hSw);go_simp;try with_reducible rfl);try simp only [Act.put,zsA,zsB,zsC]
      refine tK 14 92 (v:=?_) rfl ?_ ?_;rotate_left 1;(focus intro w hSw;(try dsimp only at hSw);go_simp;try with_reducible rfl);try simp only [Act.put,zsA,zsB,zsC]
      refine jah (i:=15) (o:=⟨some 93,_,_,_,_,_⟩) (by kernel_rfl) rfl (fun K' hK=>?_)
      go_simp
      ((with_reducible refine HDb.out.mono ?_);rintro e w6 ⟨rfl,c6,hW6,hS6⟩)
      go_wp2_with fail
      refine hK.out _ _ (fun h=>absurd h (by decide)) (fun _=>?_)
      clear hK K'
      try simp only [Act.put,zsA,zsB,zsC]
      refine jao (by kernel_rfl) ?_ _
      have HW6:=Lib.hid hW6
      have HP6:=Lib.hid (HP5.out.stc (stD.trans hS6) (by decide))
      have HS6:Hid (Stc (fun j=>j≤7) c2 c6 w2 w6):=Lib.hid (HS5.out.trans ((stD.trans hS6).mono (by decide) (fun j q=>by omega)))
      have HI6:=Lib.hid (inv_double HI.out hda)
      have Hpk6:Hid (w6.cell? ⟨ab,ao+j,none⟩=some (.int .i64 p)):=Lib.hid (by
       have hlt5:ab<w5.heap.size:=by have:=Hs1.out;have:=Hs2.out;have:=HS5.out.size;omega
       have hc5:c5 ab=10:=(HS5.out.agr ab (by have:=Hs1.out;have:=Hs2.out;omega) (by rw [Hc2.out ab (by have:=Hs1.out;omega)];decide)).trans (Hc2.out ab (by have:=Hs1.out;omega))
       rw [(stD.trans hS6).only.cell (p:=⟨ab,ao+j,none⟩) hlt5 (by show ¬(c5 ab≤6∨c5 ab=8);rw [hc5];decide)]
       exact Hpk.out)
      have hlen6:(bag2++[bag2[da]]).length=bag2.length+1:=by simp
      clear hW6 hS6 HDb stD hdd HP5 HW5 HS5 wda eda Hpk
      go_wp2_with fail
      obtain ⟨db,hdb,edb⟩:=umod (IntKind.i64.wrap (p.tdiv 3)) bag2.length hL.1
      have wdb:IntKind.i64.wrap (db:Int)=(db:Int):=by rw [IntKind.wrap_i64];omega
      have hdb6:db<(bag2++[bag2[da]]).length:=by omega
      obtain ⟨s7,os7,hd7,HI7,Hos⟩:∃ s7 os7,dOne s2 (bag2++[bag2[da]])[db]=some (s7,os7)∧Hid (Inv (rwN i) s7 ((bag2++[bag2[da]]).eraseIdx db++os7))∧Hid (wsum os7<wt (bag2++[bag2[da]])[db]):=by
       obtain ⟨a1,a2,a3,a4,a5⟩:=jkq (chkN i hi8) HI6.out hdb6
       exact ⟨a1,a2,a3,Lib.hid a4,Lib.hid a5⟩
      have hde:Below w6.heap.size w6 w6.drew:=(Below.refl _ _).drew
      have stE:Stc (fun j=>j≤6) c6 c6 w6 w6.drew:=Stc.of_only (by decide) (Only.new _ hde) (fun _ _ _=>rfl)
      have HDl:=Lib.hid (wDeliver (HW6.out.below hde) db hdb6 rfl hd7 (by omega) (by omega))
      clear hd7
      refine jan (S:=(fun W=>W.cell? ⟨π.gy,0,none⟩=some (.pointer (some ⟨κ.gw,0,none⟩))∧W.cell? ⟨ab,ao+j,none⟩=some (.int .i64 p))) [16] (by kernel_rfl) ?_ (fun hHeld=>?_)
      ·exact ⟨HP6.out.y.cell 0,Hpk6.out⟩
      refine tK 0 94 (v:=?_) rfl ?_ ?_;rotate_left 1;(focus intro w hSw;(try dsimp only at hSw);go_simp;try with_reducible rfl);try simp only [Act.put,zsA,zsB,zsC]
      refine tK 1 95 (v:=?_) rfl ?_ ?_;rotate_left 1;(focus intro w hSw;(try dsimp only at hSw);go_simp;try with_reducible rfl);try simp only [Act.put,zsA,zsB,zsC]
      refine tK 2 96 (v:=?_) rfl ?_ ?_;rotate_left 1;(focus intro w hSw;(try dsimp only at hSw);go_simp;try with_reducible rfl);try simp only [Act.put,zsA,zsB,zsC]
      refine tK 3 97 (v:=?_) rfl ?_ ?_;rotate_left 1;(focus intro w hSw;(try dsimp only at hSw);go_simp;try with_reducible rfl);try simp only [Act.put,zsA,zsB,zsC]
      refine tK 4 98 (v:=?_) rfl ?_ ?_;rotate_left 1;(focus intro w hSw;(try dsimp only at hSw);go_simp;try with_reducible rfl);try simp only [Act.put,zsA,zsB,zsC]
      refine tK 5 99 (v:=?_) rfl ?_ ?_;rotate_left 1;(focus intro w hSw;(try dsimp only at hSw);go_simp;try with_reducible rfl);try simp only [Act.put,zsA,zsB,zsC]
      refine tK 6 100 (v:=?_) rfl ?_ ?_;rotate_left 1;(focus intro w hSw;(try dsimp only at hSw);go_simp;try with_reducible rfl);try simp only [Act.put,zsA,zsB,zsC]
      refine tK 7 101 (v:=?_) rfl ?_ ?_;rotate_left 1;(focus intro w hSw;(try dsimp only at hSw);go_simp;try with_reducible rfl);try simp only [Act.put,zsA,zsB,zsC]
      refine tK 8 102 (v:=?_) rfl ?_ ?_;rotate_left 1;(focus intro w hSw;(try dsimp only at hSw);go_simp;try with_reducible rfl);try simp only [Act.put,zsA,zsB,zsC]
      refine tK 9 103 (v:=?_) rfl ?_ ?_;rotate_left 1;(focus intro w hSw;(try dsimp only at hSw);go_simp;try with_reducible rfl);try simp only [Act.put,zsA,zsB,zsC]
      refine tK 10 104 (v:=?_) rfl ?_ ?_;rotate_left 1;(focus intro w hSw;(try dsimp only at hSw);go_simp;try with_reducible rfl);try simp only [Act.put,zsA,zsB,zsC]
      refine tK 11 105 (v:=?_) rfl ?_ ?_;rotate_left 1;(focus intro w hSw;(try dsimp only at hSw);go_simp;try with_reducible rfl);try simp only [Act.put,zsA,zsB,zsC]
      refine tK 12 106 (v:=?_) rfl ?_ ?_;rotate_left 1;(focus intro w hSw;(try dsimp only at hSw);go_simp;try with_reducible rfl);try simp only [Act.put,zsA,zsB,zsC]
      refine tK 13 107 (v:=?_) rfl ?_ ?_;rotate_left 1;(focus intro w hSw;(try dsimp only at hSw);go_simp;try with_reducible rfl);try simp only [Act.put,zsA,zsB,zsC]
      refine tK 14 108 (v:=?_) rfl ?_ ?_;rotate_left 1;(focus intro w hSw;(try dsimp only at hSw);go_simp;try with_reducible rfl);try simp only [Act.put,zsA,zsB,zsC]
      refine tK 15 109 (v:=?_) rfl ?_ ?_;rotate_left 1;(focus intro w hSw;(try dsimp only at hSw);go_simp;try with_reducible rfl);try simp only [Act.put,zsA,zsB,zsC]
      refine jah (i:=16) (o:=⟨some 110,_,_,_,_,_⟩) (by kernel_rfl) rfl (fun K' hK=>?_)
      go_simp
      ((with_reducible refine HDl.out.mono ?_);rintro e w7 ⟨rfl,c7,hW7,hS7⟩)
      go_wp2_with fail
      refine hK.out _ _ (fun h=>absurd h (by decide)) (fun _=>?_)
      clear hK K'
      try simp only [Act.put,zsA,zsB,zsC]
      refine jao (by kernel_rfl) ?_ _
      have HW7:=Lib.hid hW7
      have HP7:=Lib.hid (HP6.out.stc (stE.trans hS7) (by decide))
      have HS7:Hid (Stc (fun j=>j≤7) c2 c7 w2 w7):=Lib.hid (HS6.out.trans ((stE.trans hS7).mono (by decide) (fun j q=>by omega)))
      clear hW7 hS7 HDl stE hde HP6 HW6 HS6 wdb edb Hpk6
      go_wp2_with fail
      go_roundw
      case rel =>
       refine ⟨j+1,c7,s7,_,_,by omega,by go_num,HI7,Lib.hid ?_,HW7,HP7,HS7,?_,?_,Lib.hid ?_⟩
       ·have h1:=Hws.out
        have h2:=wsum_erase hdb6
        have h3:=jen bag2 [bag2[da]]
        have h4:wsum [bag2[da]]≤11:=by have:=wt_11 bag2[da];show wt bag2[da]+0≤11;omega
        have h5:=Hos.out
        rw [jen]
        omega
       ·rw [List.length_append];omega
       ·rw [List.length_append]
        cases Nat.beq (dst (bag2++[bag2[da]])[db]) 3 with
        | true=>show got2.length+1≤_;omega
        | false=>show got2.length+0≤_;omega
       ·intro t ht
        rw [List.drop_append_of_le_length hg2'] at ht
        rcases List.mem_append.1 ht with q | q
        ·exact HG'.out t q
        ·cases hq:Nat.beq (dst (bag2++[bag2[da]])[db]) 3 with
         | true =>
           rw [hq] at q
           have q:t∈[(bag2++[bag2[da]])[db]]:=q
           have hd3:=Nat.eq_of_beq_eq_true hq
           rw [List.mem_singleton.1 q]
           exact gok_of hd3 (inv_nu i hi8 HI6.out _ (List.getElem_mem hdb6) hd3)
         | false =>
           rw [hq] at q
           cases q
      case measure=>simp [intOf];omega
     ·have hcase:bag2=[]∨(0<bag2.length∧40≤bag2.length):=by
       cases bag2 with
       | nil=>exact .inl rfl
       | cons a l=>right;simp only [List.length_cons] at hL ⊢;omega
      rcases hcase with hc | hc
      ·have hL0:¬((0:Int)<(bag2.length:Int)):=by rw [hc];decide
       have hL0':¬(0<bag2.length):=by rw [hc];decide
       have Hc:=Lib.hid hc
       clear hc
       go_wp2_with fail
       go_roundw
       case rel=>exact ⟨j+1,c5,s2,bag2,got2,by omega,by go_num,HI,Lib.hid (by have:=Hws.out;omega),HW5,HP5,HS5,hg2',by omega,HG'⟩
       case measure=>simp [intOf];omega
      ·have hL0:(0:Int)<(bag2.length:Int):=by omega
       have hL4:¬((bag2.length:Int)<40):=by omega
       go_wp2_with fail
       go_roundw
       case rel=>exact ⟨j+1,c5,s2,bag2,got2,by omega,by go_num,HI,Lib.hid (by have:=Hws.out;omega),HW5,HP5,HS5,hg2',by omega,HG'⟩
       case measure=>simp [intOf];omega
    ·have hws77:wsum bag2≤3000:=by have:=Hws.out;omega
     obtain ⟨s7,g7,hd7,hI7⟩:=drain_inv (chkN i hi8) (wsum bag2) HI.out (Nat.le_refl _)
     have hfin:=inv_fin i hi8 hI7
     have hb77:bag2.length≤11+11*j:=Nat.le_trans (len_wsum (inv_wt i hi8 HI.out)) Hws.out
     have hdl:=drain_len hd7
     have hgk:=drain_nu i hi8 hd7 HI.out
     have HDr:=Lib.hid (jco (m:=3000) HW.out hd7 hws77 (Nat.le_refl _) (by omega) (by omega))
     have Hfin:=Lib.hid hfin
     have Hgk:=Lib.hid hgk
     have Hdl:Hid (g7.length≤77):=Lib.hid (by have:=Hws.out;omega)
     have y0:wr.cell? ⟨π.gy,0,none⟩=some (.pointer (some ⟨κ.gw,0,none⟩)):=HP.out.y.cell 0
     clear hfin hgk hd7 hI7 hdl hws77
     have hcase:¬(j<ps.length)∨(j<ps.length∧¬(j<6)):=by omega
     rcases hcase with hc | ⟨hc0,hc⟩
     ·have hjl:¬((j:Int)<(ps.length:Int)):=by omega
      go_wp2_with fail
      refine HDr.out.mono ?_
      rintro e w8 ⟨rfl,c8,hW8,hS8⟩
      have HW8:=Lib.hid hW8
      have HP8:=Lib.hid (HP.out.stc hS8 (by decide))
      have HS8:Hid (Stc (fun j=>j≤7) c2 c8 w2 w8):=Lib.hid (HS.out.trans (hS8.mono (by decide) (fun j q=>by omega)))
      clear hW8 hS8 HDr HW HP HS y0
      go_wp2_with fail
      go_roundw
      case rel =>
       refine ⟨i+1,c8,got2++g7,ns1+1,by omega,by go_num,Lib.hid ?_,HP8,HS8,?_,?_,by omega,Lib.hid ?_⟩
       ·have:=HW8.out
        rw [Hfin.out,←jke i hi8] at this
        exact this
       ·rw [List.length_append];omega
       ·rw [List.length_append];have:=Hdl.out;omega
       ·intro t ht
        rw [List.drop_append_of_le_length hg2'] at ht
        rcases List.mem_append.1 ht with q | q
        ·exact HG'.out t q
        ·exact gok_of (Hgk.out t q).1 (Hgk.out t q).2
      case measure=>simp [intOf];omega
     ·have hjl:(j:Int)<(ps.length:Int):=by omega
      have hj6':¬((j:Int)<6):=by omega
      go_wp2_with fail
      refine HDr.out.mono ?_
      rintro e w8 ⟨rfl,c8,hW8,hS8⟩
      have HW8:=Lib.hid hW8
      have HP8:=Lib.hid (HP.out.stc hS8 (by decide))
      have HS8:Hid (Stc (fun j=>j≤7) c2 c8 w2 w8):=Lib.hid (HS.out.trans (hS8.mono (by decide) (fun j q=>by omega)))
      clear hW8 hS8 HDr HW HP HS y0
      go_wp2_with fail
      go_roundw
      case rel =>
       refine ⟨i+1,c8,got2++g7,ns1+1,by omega,by go_num,Lib.hid ?_,HP8,HS8,?_,?_,by omega,Lib.hid ?_⟩
       ·have:=HW8.out
        rw [Hfin.out,←jke i hi8] at this
        exact this
       ·rw [List.length_append];omega
       ·rw [List.length_append];have:=Hdl.out;omega
       ·intro t ht
        rw [List.drop_append_of_le_length hg2'] at ht
        rcases List.mem_append.1 ht with q | q
        ·exact HG'.out t q
        ·exact gok_of (Hgk.out t q).1 (Hgk.out t q).2
      case measure=>simp [intOf];omega
  ·have hik:¬((i:Int)<(K:Int)):=by omega
   have hr8:K-1<8:=by omega
   have hsK:sAt i=finN (K-1):=by rw [←jke (K-1) hr8];congr 1;omega
   obtain ⟨b,os,m,n,b2,os2,hb,hd1,hd2,hbb⟩:=end_of (K-1) hr8
   have hW0:Wv κ c1 wr (finN (K-1)) [] got1 ns1:=by rw [←hsK];exact HW.out
   have ta:=tm_ans (K-1) hr8
   rw [show (500:Int)+((K-1:Nat):Int)=500+(K:Int)-1 by omega] at ta
   have hrd:=Lib.hid (read_any hW0 HP.out act_read hb hd1 hd2 ta hg2 HG.out (by omega) (by omega))
   have HBt:Hid (btF n.1=some (b2,os2)):=Lib.hid hbb
   clear hb hd1 hd2 hbb hW0 ta hsK
   go_wp2_with fail
   refine hrd.out.mono ?_
   rintro e w8 ⟨rfl,c8,sn,hW8,hP8,hS8⟩
   have HW8:=Lib.hid hW8
   have HP8:=Lib.hid hP8
   have HS8:Hid (Stc (fun j=>j≤7) c2 c8 w2 w8):=Lib.hid (HS.out.trans hS8)
   clear hW8 hP8 hS8 hrd HW HP HS HG
   have y0:w8.cell? ⟨π.gy,0,none⟩=some (.pointer (some ⟨κ.gw,0,none⟩)):=HP8.out.y.cell 0
   have hbt:=Lib.hid (wBeat HW8.out HBt.out (by simp))
   have hw1:IntKind.i64.wrap (500+(K:Int))=500+(K:Int):=by rw [IntKind.wrap_i64];omega
   have hw2:IntKind.i64.wrap (500+(K:Int)-1)=500+(K:Int)-1:=by rw [IntKind.wrap_i64];omega
   go_wp2_with fail
   refine hbt.out.mono ?_
   rintro e w9 ⟨rfl,c9,hW9,hS9⟩
   have HS9:Hid (Stc (fun j=>j≤7) c2 c9 w2 w9):=Lib.hid (HS8.out.trans (hS9.mono (by decide) (fun j q=>by omega)))
   clear hW9 hS9 hbt HW8 HP8 HS8 HBt y0
   have hnum:=num0_any w9
   go_wp2_with fail
   refine hnum.mono ?_
   rintro e w10 ⟨rfl,rfl⟩
   go_wp2_with fail
   go_ret
   exact ⟨rfl,Hb2.out.trans (HS9.out.only.below (fun k hk q=>by have:=Hc2.out k (by have:=Hs1.out;omega);rcases q with q | q<;>omega) (by have:=Hs1.out;have:=Hs2.out;omega))⟩
end
end
end Db
theorem topDoubles_walk {w:World} (a0:Int) (A1:Option Addr) (c1:Nat) (z1:List Int) (w0:(Lit.int .i64 a0).wf=true) (rd1:Reads w w.heap.size 1 A1 z1.length (z1.map (Value.int .i64))) (wf1:∀ n∈z1,(Lit.int .i64 n).wf=true) (nb1:z1.length*8≤140737488351232) :
 Calls Tryz.prog 5 #[.int .i64 a0,.slice A1 z1.length c1] w fun e w'=>e=.returned (.bool true)∧Below w.heap.size w w' :=
 Db.topDoubles_walk0 a0 A1 c1 z1 rd1 (by omega)
end
end Go.Proofs.YtcchekmejnhlmaaGreat
