/- Joined texts. -/
import Derived.Test.YtcchekmejnhlmaaGreatK1
import Derived.Test.YtcchekmejnhlmaaGreatK4
import Derived.Test.YtcchekmejnhlmaaGreatK5
import Derived.Test.YtcchekmejnhlmaaGreatKeys
import Derived.Test.YtcchekmejnhlmaaGreatProg
import Derived.Test.YtcchekmejnhlmaaGreatRows
import Derived.Test.YtcchekmejnhlmaaGreatShelf
import Derived.Laws.BitsAllLaws
import Derived.Laws.BitsLemmas
import Derived.IntWalk
import Derived.Lib.Bytealg
import Derived.Lib.Small
import Derived.Deep.RegionHeld3
import Derived.Deep.DrawnRows
import Derived.BigQuiet
import Derived.Lib.FrozenHead2
import Derived.Lib.OthersKept
import Derived.Laws.Externs
namespace Go.Proofs.YtcchekmejnhlmaaGreat
set_option linter.unusedVariables false
set_option maxHeartbeats 4000000
section
open Go.RowKit
def Mg.flds (k:Nat):List Int:=[[6,7,12],[6,7,8,2],[7,9,11,2,10],[7,8,2,4],[0,2,3,5,6,7,12],[0,2],[0,2,3],[0],[0,1,3,13],[0,3,13],[0,2],[0,3,13],[0,4],[0,4],[2],[2],[2,14]].getD k []
def Mg.low (k j:Nat):Int:=if k=1∧j=2 then -1 else if (k=2∨k=3)∧(j=2∨j=10) then -2147483648 else 0
theorem Mg.fld_all:∀ k,k<17→(Mg.flds k).all (fun x=>decide (0≤x)&&decide (x<15))=true:=by decide
theorem Mg.fld_len:∀ k,k<17→(Mg.flds k).length≤7:=by decide
theorem Mg.fld_at {k:Nat} (hk:k<17) (i:Nat) (hi:i<(Mg.flds k).length):∃ j:Nat,(Mg.flds k)[i]=(j:Int)∧j<15:=by
 have h:=List.all_eq_true.1 (Mg.fld_all k hk) _ (List.getElem_mem hi)
 rw [Bool.and_eq_true,decide_eq_true_eq,decide_eq_true_eq] at h
 exact ⟨((Mg.flds k)[i]).toNat,by omega,by omega⟩
section
variable {w:World}
set_option maxRecDepth 100000 in
theorem limits_rd (x:Int) (hx:((x==1)=false∧(x==2)=true)∨((x==1)=false∧(x==2)=false∧(x==3)=true)) (k:Int) (hk:(k==8)=false∧(k==9)=false∧((k==2)=true∨((k==2)=false∧(k==10)=true))):Calls Tryz.prog 84 #[.int .i64 x,.int .i64 k] w fun e w'=>e=.returned (.tuple #[.int .i64 (-2147483648),.int .i64 2147483647])∧w=w':=by
 obtain ⟨h8,h9,hk⟩:=hk
 rcases hx with ⟨hx1,hx⟩ | ⟨hx1,hx,hx'⟩<;>rcases hk with hk | ⟨hk,hk'⟩
 all_goals
  go_enter Tryz.func84,Tryz.ntmps84
  go_wp2_with fail
  go_ret2
  exact ⟨rfl,rfl⟩
set_option maxRecDepth 100000 in
theorem limits_rd' (x:Int) (hx:(x==1)=false) (k:Int) (hk:(k==8)=false∧(k==9)=false∧(k==2)=false∧(k==10)=false):Calls Tryz.prog 84 #[.int .i64 x,.int .i64 k] w fun e w'=>e=.returned (.tuple #[.int .i64 0,.int .i64 2147483647])∧w=w':=by
 obtain ⟨h8,h9,h2,h10⟩:=hk
 go_enter Tryz.func84,Tryz.ntmps84
 go_wp2_with fail
 go_ret2
 exact ⟨rfl,rfl⟩
theorem limits_gen (k j:Nat) (hk:k<17) (hj:j<11):Calls Tryz.prog 84 #[.int .i64 (k:Int),.int .i64 (j:Int)] w fun e w'=>e=.returned (.tuple #[.int .i64 (Mg.low k j),.int .i64 (Tp.high j)])∧w=w':=by
 by_cases h8:j=8
 ·subst h8
  have e:Mg.low k 8=0:=by unfold Mg.low;rw [if_neg (by omega),if_neg (by omega)]
  rw [e]
  exact limits_8 _
 by_cases h9:j=9
 ·subst h9
  have e:Mg.low k 9=0:=by unfold Mg.low;rw [if_neg (by omega),if_neg (by omega)]
  rw [e]
  exact limits_9 _
 rw [Tp.high_at j h8 h9]
 by_cases k1:k=1
 ·subst k1
  by_cases h2:j=2
  ·subst h2
   exact limits_rep
  ·have e:Mg.low 1 j=0:=by unfold Mg.low;rw [if_neg (by omega),if_neg (by omega)]
   rw [e]
   refine limits_rep' _ (jak h8) (jak h9) ?_
   by_cases h10:j=10
   ·exact .inl ⟨jak h2,jcm h10⟩
   ·exact .inr ⟨jak h2,jak h10⟩
 by_cases k23:k=2∨k=3
 ·have hx:(((k:Int)==1)=false∧((k:Int)==2)=true)∨(((k:Int)==1)=false∧((k:Int)==2)=false∧((k:Int)==3)=true):=by
   rcases k23 with rfl | rfl
   ·exact .inl ⟨rfl,rfl⟩
   ·exact .inr ⟨rfl,rfl,rfl⟩
  by_cases h2:j=2
  ·have e:Mg.low k j=-2147483648:=by unfold Mg.low;rw [if_neg (by omega),if_pos (by omega)]
   rw [e]
   exact limits_rd _ hx _ ⟨jak h8,jak h9,.inl (jcm h2)⟩
  by_cases h10:j=10
  ·have e:Mg.low k j=-2147483648:=by unfold Mg.low;rw [if_neg (by omega),if_pos (by omega)]
   rw [e]
   exact limits_rd _ hx _ ⟨jak h8,jak h9,.inr ⟨jak h2,jcm h10⟩⟩
  ·have e:Mg.low k j=0:=by unfold Mg.low;rw [if_neg (by omega),if_neg (by omega)]
   rw [e]
   exact limits_rd' _ (jak k1) _ ⟨jak h8,jak h9,jak h2,jak h10⟩
 ·have e:Mg.low k j=0:=by unfold Mg.low;rw [if_neg (by omega),if_neg (by omega)]
  rw [e]
  refine limits_at _ _ (jak h8) (jak h9) (jak k1) (jak (m:=2) (fun q=>k23 (.inl q))) (jak (m:=3) (fun q=>k23 (.inr q))) ?_
  by_cases h2:j=2
  ·exact .inl (jcm h2)
  by_cases h10:j=10
  ·exact .inr (.inl ⟨jak h2,jcm h10⟩)
  ·exact .inr (.inr ⟨jak h2,jak h10⟩)
def Mg.cliFrom (k:Nat):Bool:=decide (k=0)||decide (k=2)
def Mg.cliTo (k:Nat):Bool:=decide (k=1)||decide (k=3)
set_option maxRecDepth 100000 in
set_option maxHeartbeats 2000000 in
theorem who_gen (k:Nat) (fr to:Int) (g:Nat) (c0:w.cell? ⟨g,0,none⟩=some (.int .i64 (k:Int))) (c1:w.cell? ⟨g,1,none⟩=some (.int .i64 fr)) (c2:w.cell? ⟨g,2,none⟩=some (.int .i64 to)) (hf:Tp.whoOk (Mg.cliFrom k) fr) (ht:Tp.whoOk (Mg.cliTo k) to) :
 Calls Tryz.prog 82 #[.pointer (some ⟨g,0,none⟩)] w fun e w'=>e=.returned (.bool true)∧w=w':=by
 have hc:(k=0∨k=2∨k=1∨k=3)∨(((k:Int)==0)=false∧((k:Int)==2)=false∧((k:Int)==1)=false∧((k:Int)==3)=false):=by
  by_cases q:k=0∨k=2∨k=1∨k=3
  ·exact .inl q
  ·exact .inr ⟨jak (m:=0) (by omega),jak (m:=2) (by omega),jak (m:=1) (by omega),jak (m:=3) (by omega)⟩
 rcases hc with (rfl | rfl | rfl | rfl) | ⟨q0,q2,q1,q3⟩
 case inr =>
  have e1:Mg.cliFrom k=false:=by unfold Mg.cliFrom;simp at q0 q2 ⊢;omega
  have e2:Mg.cliTo k=false:=by unfold Mg.cliTo;simp at q1 q3 ⊢;omega
  rw [e1] at hf
  rw [e2] at ht
  simp only [Tp.whoOk,Bool.false_eq_true,if_false] at hf ht
  go_enter Tryz.func82,Tryz.ntmps82
  go_wp2_with fail
  refine (jdl _ hf.1 hf.2).mono ?_
  rintro e w1 ⟨rfl,rfl⟩
  go_wp2_with fail
  refine (jdl _ ht.1 ht.2).mono ?_
  rintro e w1 ⟨rfl,rfl⟩
  go_wp2_with fail
  go_ret
  exact ⟨rfl,rfl⟩
 all_goals
  simp [Tp.whoOk,Mg.cliFrom,Mg.cliTo] at hf ht
  go_enter Tryz.func82,Tryz.ntmps82
  go_wp2_with fail
  first
   | refine (jdm _ hf.1 hf.2).mono ?_
   | refine (jdl _ hf.1 hf.2).mono ?_
  rintro e w1 ⟨rfl,rfl⟩
  go_wp2_with fail
  first
   | refine (jdm _ ht.1 ht.2).mono ?_
   | refine (jdl _ ht.1 ht.2).mono ?_
  rintro e w1 ⟨rfl,rfl⟩
  go_wp2_with fail
  go_ret
  exact ⟨rfl,rfl⟩
end
end
section
open Go.RowKit
def Mg.cells (m:Tp.Msg) (ser:ByteArray) (A:Option Addr) (n cap:Nat) (base:Int) (snap:ByteArray) (A':Option Addr) (n' cap':Nat) (txt:ByteArray):List Value :=
 [.int .i64 m.kind,.int .i64 m.frm,.int .i64 m.to,.int .i64 m.view,.int .i64 m.normal,.int .i64 m.at_,.int .i64 m.commit,.int .i64 m.round,.int .i64 m.client,.int .i64 m.session,.int .i64 m.number,.int .i64 m.code,.int .i64 m.agg,.int .i64 m.until_,.string ser,.slice A n cap,.int .i64 base,.string snap,.slice A' n' cap',.string txt]
structure Mg.Ok (k:Nat) (m:Tp.Msg) (ser:ByteArray) (nb:Nat) (base:Int) (ne:Nat) (txt:ByteArray):Prop where
 lt:k<17
 kind:m.kind=(k:Int)
 frm:Tp.whoOk (Mg.cliFrom k) m.frm
 to:Tp.whoOk (Mg.cliTo k) m.to
 has:∀ j:Nat,j<11→(j:Int)∉Mg.flds k→m.fld j=0
 low:∀ j:Nat,j<11→Mg.low k j≤m.fld j
 high:∀ j:Nat,j<11→m.fld j≤Tp.high j
 ser1:(11:Int)∈Mg.flds k→Pt.nameB ser=true
 ser0:(11:Int)∉Mg.flds k→ser=⟨#[]⟩
 bat0:(12:Int)∉Mg.flds k→nb=0
 log0:(13:Int)∉Mg.flds k→base=0∧ne=0
 txt1:txt.size≤65536
 txt0:(14:Int)∉Mg.flds k→txt=⟨#[]⟩
section
variable {w:World}
set_option maxRecDepth 100000 in
set_option maxHeartbeats 4000000 in
theorem jji (k:Nat) (m:Tp.Msg) (ser:ByteArray) (A:Option Addr) (cap:Nat) (ps:List Pt.Point) (base:Int) (snap:ByteArray) (A':Option Addr) (cap':Nat) (es:List Ent) (txt:ByteArray) (h:Mg.Ok k m ser ps.length base es.length txt)
 (hF:∀ W:World,Calls Tryz.prog 81 #[.int .i64 (k:Int)] W (jjz W (Mg.flds k)))
 (hr:Reads w w.heap.size 3 A ps.length (ps.flatMap jal)) (hp:Pt.batchB ps=true) (hp8:ps.length≤8) (hwf:∀ p∈ps,Pt.wf p) (hl:LogOk w A' es) (hlb:Sv.logB base snap es=true) (hsn:snap.size≤maxLen) (hes:es.length≤4096) :
 Calls Tryz.prog 46 #[.agg (Mg.cells m ser A ps.length cap base snap A' es.length cap' txt).toArray] w fun e w'=>e=.returned (.bool true)∧Below w.heap.size w w':=by
 have hB:=Blk.new w 39 (Mg.cells m ser A ps.length cap base snap A' es.length cap' txt).toArray
 have hb1:Below w.heap.size w (w.alloc (.cells (Mg.cells m ser A ps.length cap base snap A' es.length cap' txt).toArray 39)):=(Below.refl _ _).alloc (Nat.le_refl _) _
 have hk:=h.kind
 have hk17:=h.lt
 have HF:=Lib.hid (hF (w.alloc (.cells (Mg.cells m ser A ps.length cap base snap A' es.length cap' txt).toArray 39)))
 have HW:Hid (∀ W,Blk W w.heap.size 39 (Mg.cells m ser A ps.length cap base snap A' es.length cap' txt).toArray→Calls Tryz.prog 82 #[.pointer (some ⟨w.heap.size,0,none⟩)] W fun e w'=>e=.returned (.bool true)∧W=w'):=fun W hb=>who_gen k m.frm m.to _ ((hb.cell 0).trans (by show some (Value.int .i64 m.kind)=_;rw [hk])) ((hb.cell 1).trans rfl) ((hb.cell 2).trans rfl) h.frm h.to
 have HBt:Hid (∀ W,Below w.heap.size w W→Calls Tryz.prog 86 #[.slice A ps.length cap] W fun e w'=>e=.returned (.bool true)∧Below W.heap.size W w'):=fun W hb=>by
  have:=jio A cap ps W w.heap.size (hr.below hb) hb.size (by omega) hwf
  rw [hp] at this
  exact this
 have HML:Hid (∀ W,Below w.heap.size w W→Calls Tryz.prog 87 #[.agg #[.int .i64 base,.string snap,.slice A' es.length cap']] W fun e w'=>e=.returned (.bool true)∧Below W.heap.size W w'):=fun W hb=>by
  have:=jjk base snap A' cap' es W (hl.below hb) hsn (by omega)
  rw [hlb] at this
  exact this
 have HB:=Lib.hid hB
 have Hb1:=Lib.hid hb1
 have HLim:=Lib.hid (fun (W:World) (j:Nat) (hj:j<11)=>limits_gen (w:=W) k j hk17 hj)
 have h7:=Mg.fld_len k hk17
 have HFl:=Lib.hid (fun i hi=>Mg.fld_at hk17 i hi)
 clear hB hb1 hr hwf hl hF hlb hp
 go_enter Tryz.func46,Tryz.ntmps46
 unfold Mg.cells
 go_wp2_with fail
 rw [hk]
 change Calls _ _ _ (w.alloc (.cells #[.int .i64 (k:Int),.int .i64 m.frm,.int .i64 m.to,.int .i64 m.view,.int .i64 m.normal,.int .i64 m.at_,.int .i64 m.commit,.int .i64 m.round,.int .i64 m.client,.int .i64 m.session,.int .i64 m.number,.int .i64 m.code,.int .i64 m.agg,.int .i64 m.until_,.string ser,.slice A ps.length cap,.int .i64 base,.string snap,.slice A' es.length cap',.string txt] 39)) _
 rw [←hk]
 change Calls _ _ _ (w.alloc (.cells (Mg.cells m ser A ps.length cap base snap A' es.length cap' txt).toArray 39)) _
 generalize w.alloc (.cells (Mg.cells m ser A ps.length cap base snap A' es.length cap' txt).toArray 39)=w1 at *
 rw [hk]
 refine HF.out.mono ?_
 rintro e w2 ⟨b,rfl,hr,hb2⟩
 have HB2:=Lib.hid (HB.out.below hb2 (by have:=HB.out.lt;omega))
 have Hb2:=Lib.hid (Hb1.out.trans (hb2.mono Hb1.out.size))
 have HR:=Lib.hid hr
 clear hr hb2 HF Hb1 HB
 go_wp2_with fail
 refine (HW.out _ HB2.out).mono ?_
 rintro e w3 ⟨rfl,rfl⟩
 go_wp2_with fail
 rw [←Tp.hasL_nil]
 have hH:=Blk.new w2 146 (Tp.hasL [])
 have HHs:=Lib.hid hH
 have Hb3:=Lib.hid (Hb2.out.alloc Hb2.out.size (.cells (Tp.hasL []) 146))
 have HB3:=Lib.hid (HB2.out.alloc (.cells (Tp.hasL []) 146))
 have HR3:=Lib.hid (HR.out.alloc (Nat.le_refl _) (.cells (Tp.hasL []) 146))
 have hgh:w.heap.size<w2.heap.size:=HB2.out.lt
 clear hH Hb2 HB2 HR HW
 generalize w2.heap.size=gh at *
 generalize w2.alloc (.cells (Tp.hasL []) 146)=w3 at *
 go_loopw [7,26] (fun f i wr=>∃ n:Nat,n≤(Mg.flds k).length∧i=.int .i64 (n:Int)∧Hid (Blk wr gh 146 (Tp.hasL ((Mg.flds k).take n)))∧Hid (Blk wr w.heap.size 39 (Mg.cells m ser A ps.length cap base snap A' es.length cap' txt).toArray)∧Hid (Reads wr gh 1 (some ⟨b,0,none⟩) (Mg.flds k).length ((Mg.flds k).map (Value.int .i64)))∧Hid (Below w.heap.size w wr)) (fun _ i _=>(Mg.flds k).length-(intOf i).toNat)
 case atStart=>exact ⟨0,Nat.zero_le _,rfl,HHs,HB3,HR3,Hb3⟩
 case round =>
  obtain ⟨n,hn',rfl,HHs,HB3,HR3,Hb3⟩:=hrel
  by_cases hlt:n<(Mg.flds k).length
  ·obtain ⟨j,hj,hj15⟩:=HFl.out n hlt
   have hc1:wr.cell? ⟨b,n,none⟩=some (.int .i64 (j:Int)):=reads1_cell HR3.out hlt (by rw [List.getElem?_map,List.getElem?_eq_getElem hlt,hj];rfl)
   have hc2:wr.cell? ⟨gh,j,none⟩=some (.bool (decide ((j:Int)∈(Mg.flds k).take n))):=(HHs.out.cell j).trans (Tp.hasL_at _ _ hj15)
   have hf2:wr.frozen? ⟨gh,j,none⟩=false:=HHs.out.frozen j
   have hlt':(n:Int)<((Mg.flds k).length:Int):=by omega
   have hj':(j:Int)<15:=by omega
   have HHn:Hid (Blk (wr.setCell ⟨gh,j,none⟩ (.bool true)) gh 146 (Tp.hasL ((Mg.flds k).take (n+1)))):=by
    have:=HHs.out.set_ j (.bool true)
    rw [Tp.hasL_put _ _ hj15] at this
    rw [List.take_succ_eq_append_getElem hlt,hj]
    exact this
   have HBn:Hid (Blk (wr.setCell ⟨gh,j,none⟩ (.bool true)) w.heap.size 39 (Mg.cells m ser A ps.length cap base snap A' es.length cap' txt).toArray):=HB3.out.far (by show w.heap.size≠gh;omega) _
   have HRn:=Lib.hid (HR3.out.below ((Below.refl gh wr).setCell (p:=⟨gh,j,none⟩) (Nat.le_refl _) (.bool true)))
   have Hbn:Hid (Below w.heap.size w (wr.setCell ⟨gh,j,none⟩ (.bool true))):=Hb3.out.setCell (p:=⟨gh,j,none⟩) (by show w.heap.size≤gh;omega) _
   clear HHs HB3 HR3 Hb3
   go_wp2_with fail
   go_roundw
   case rel=>exact ⟨n+1,by omega,by go_num,HHn,HBn,HRn,Hbn⟩
   case measure=>simp [intOf];omega
  ·have htk:(Mg.flds k).take n=Mg.flds k:=List.take_of_length_le (by omega)
   rw [htk] at HHs
   have hlt':¬(n:Int)<((Mg.flds k).length:Int):=by omega
   clear HR3 HFl htk
   have HFd:Hid (∀ j:Nat,j<11→wr.cell? ⟨w.heap.size,j+3,none⟩=some (.int .i64 (m.fld j))):=fun j hj=>(HB3.out.cell (j+3)).trans (by
    rcases (by omega:j=0∨j=1∨j=2∨j=3∨j=4∨j=5∨j=6∨j=7∨j=8∨j=9∨j=10) with rfl | rfl | rfl | rfl | rfl | rfl | rfl | rfl | rfl | rfl | rfl<;>rfl)
   go_wp2_with fail
   go_loopw [8,9,10,11,33] (fun _ _ _ _ i wq=>∃ n:Nat,n≤15∧i=.int .i64 (n:Int)∧wr=wq) (fun _ _ _ _ i _=>15-(intOf i).toNat)
   case atStart=>exact ⟨0,Nat.zero_le _,rfl,rfl⟩
   case round =>
    obtain ⟨n',hn15,rfl,rfl⟩:=hrel
    by_cases hlt:n'<15
    ·have hlt':(n':Int)<15:=by omega
     by_cases h11:n'<11
     ·have HL:=Lib.hid (HLim.out wr n' h11)
      have hcf:=HFd.out n' h11
      have hck:wr.cell? ⟨w.heap.size,0,none⟩=some (.int .i64 (k:Int)):=(HB3.out.cell 0).trans (by rw [←hk];rfl)
      have hch:wr.cell? ⟨gh,n',none⟩=some (.bool (decide ((n':Int)∈Mg.flds k))):=(HHs.out.cell n').trans (Tp.hasL_at _ _ hlt)
      have dl:¬m.fld n'<Mg.low k n':=by have:=h.low n' h11;omega
      have dh:¬Tp.high n'<m.fld n':=by have:=h.high n' h11;omega
      have dz:decide ((n':Int)∈Mg.flds k)=false→m.fld n'=0:=fun e=>h.has n' h11 (of_decide_eq_false e)
      go_wp2_with fail
      refine (jkk _ n' h11).mono ?_
      rintro e w4 ⟨rfl,rfl⟩
      go_wp2_with fail
      refine HL.out.mono ?_
      rintro e w4 ⟨rfl,rfl⟩
      cases hb:decide ((n':Int)∈Mg.flds k)
      ·rw [hb] at hch
       have dz':=dz hb
       clear dz hb
       generalize m.fld n'=x at *
       generalize Mg.low k n'=lo at *
       generalize Tp.high n'=hi at *
       subst dz'
       go_wp2_with fail
       go_roundw
       case rel=>exact ⟨n'+1,by omega,by go_num,by first | rfl | trivial⟩
       case measure=>simp [intOf];omega
      ·rw [hb] at hch
       clear dz hb
       generalize m.fld n'=x at *
       generalize Mg.low k n'=lo at *
       generalize Tp.high n'=hi at *
       go_wp2_with fail
       go_roundw
       case rel=>exact ⟨n'+1,by omega,by go_num,by first | rfl | trivial⟩
       case measure=>simp [intOf];omega
     ·go_wp2_with fail
      refine (jkj _ n' (by omega) hlt).mono ?_
      rintro e w4 ⟨rfl,rfl⟩
      go_wp2_with fail
      go_roundw
      case rel=>exact ⟨n'+1,by omega,by go_num,by first | rfl | trivial⟩
      case measure=>simp [intOf];omega
    ·have hlt':¬(n':Int)<15:=by omega
     have h11:wr.cell? ⟨gh,11,none⟩=some (.bool (decide ((11:Int)∈Mg.flds k))):=(HHs.out.cell 11).trans (Tp.hasL_at _ 11 (by omega))
     have h12:wr.cell? ⟨gh,12,none⟩=some (.bool (decide ((12:Int)∈Mg.flds k))):=(HHs.out.cell 12).trans (Tp.hasL_at _ 12 (by omega))
     have h13:wr.cell? ⟨gh,13,none⟩=some (.bool (decide ((13:Int)∈Mg.flds k))):=(HHs.out.cell 13).trans (Tp.hasL_at _ 13 (by omega))
     have h14:wr.cell? ⟨gh,14,none⟩=some (.bool (decide ((14:Int)∈Mg.flds k))):=(HHs.out.cell 14).trans (Tp.hasL_at _ 14 (by omega))
     have m14:wr.cell? ⟨w.heap.size,14,none⟩=some (.string ser):=(HB3.out.cell 14).trans rfl
     have m15:wr.cell? ⟨w.heap.size,15,none⟩=some (.slice A ps.length cap):=(HB3.out.cell 15).trans rfl
     have m16:wr.cell? ⟨w.heap.size,16,none⟩=some (.int .i64 base):=(HB3.out.cell 16).trans rfl
     have m17:wr.cell? ⟨w.heap.size,17,none⟩=some (.string snap):=(HB3.out.cell 17).trans rfl
     have m18:wr.cell? ⟨w.heap.size,18,none⟩=some (.slice A' es.length cap'):=(HB3.out.cell 18).trans rfl
     have m19:wr.cell? ⟨w.heap.size,19,none⟩=some (.string txt):=(HB3.out.cell 19).trans rfl
     have s1:decide ((11:Int)∈Mg.flds k)=true→Pt.nameB ser=true:=fun e=>h.ser1 (of_decide_eq_true e)
     have s0:decide ((11:Int)∈Mg.flds k)=false→ser=⟨#[]⟩:=fun e=>h.ser0 (of_decide_eq_false e)
     have t0:decide ((14:Int)∈Mg.flds k)=false→txt=⟨#[]⟩:=fun e=>h.txt0 (of_decide_eq_false e)
     have b0:decide ((12:Int)∈Mg.flds k)=false→ps.length=0:=fun e=>h.bat0 (of_decide_eq_false e)
     have l0:decide ((13:Int)∈Mg.flds k)=false→base=0∧es.length=0:=fun e=>h.log0 (of_decide_eq_false e)
     have ts:=h.txt1
     have hgl:gh<wr.heap.size:=HHs.out.lt
     clear HFd HHs HB3 HLim h hk
     generalize decide ((11:Int)∈Mg.flds k)=b11 at *
     generalize decide ((12:Int)∈Mg.flds k)=b12 at *
     generalize decide ((13:Int)∈Mg.flds k)=b13 at *
     generalize decide ((14:Int)∈Mg.flds k)=b14 at *
     have hwl:w.heap.size<wr.heap.size:=by omega
     have tsz:¬(65536:Int)<(txt.size:Int):=by omega
     have e0:((⟨#[]⟩:ByteArray).toList==(⟨#[]⟩:ByteArray).toList)=true:=by simp
     have z0:((⟨#[]⟩:ByteArray).size:Int)=0:=rfl
     have Hs1:=Lib.hid s1
     have Hb0:=Lib.hid b0
     have Hl0:=Lib.hid l0
     clear s1 b0 l0
     cases b11<;>cases b14
     all_goals
      try obtain rfl:=s0 rfl
      try obtain rfl:=t0 rfl
      clear s0 t0 ts
      go_wp2_with fail
      first
       | (refine (name_any _ _).mono ?_
          rintro e w0 ⟨rfl,hw0⟩
          subst hw0
          have hnm:Pt.nameB ser=true:=Hs1.out (by trivial)
          rw [hnm]
          go_wp2_with fail)
       | skip
      refine (HBt.out wr Hb3.out).mono ?_
      rintro e w4 ⟨rfl,hb4⟩
      rw [←hb4.cell (p:=⟨gh,_,none⟩) hgl] at h12 h13
      rw [←hb4.cell (p:=⟨w.heap.size,_,none⟩) hwl] at m15 m16 m17 m18
      have Hb4:=Lib.hid (Hb3.out.trans (hb4.mono Hb3.out.size))
      have hg4:gh<w4.heap.size:=by have:=hb4.size;omega
      have hw4:w.heap.size<w4.heap.size:=by omega
      clear hb4
      have hnb:b12=false→¬(0:Int)<(ps.length:Int):=fun e=>by have:=Hb0.out e;omega
      have nl:¬(ps.length:Int)<0:=by omega
      cases b12
      all_goals
       try have hnb':=hnb rfl
       clear hnb
       go_wp2_with fail
       refine (HML.out w4 Hb4.out).mono ?_
       rintro e w5 ⟨rfl,hb5⟩
       rw [←hb5.cell (p:=⟨gh,_,none⟩) hg4] at h13
       rw [←hb5.cell (p:=⟨w.heap.size,_,none⟩) hw4] at m16 m17 m18
       have Hb5:=Lib.hid (Hb4.out.trans (hb5.mono Hb4.out.size))
       clear hb5
       cases b13
       ·have g1:(base==0)=true:=beq_iff_eq.2 (Hl0.out (by trivial)).1
        have g2:((es.length:Int)==0)=true:=beq_iff_eq.2 (by have:=(Hl0.out (by trivial)).2;omega)
        go_wp2_with fail
        go_ret
        exact ⟨rfl,Hb5.out⟩
       ·go_wp2_with fail
        go_ret
        exact ⟨rfl,Hb5.out⟩
end
end
section
open Go.RowKit
theorem info_u8:(Tryz.prog.info? 5).map (fun i=>(i.zero,i.size,i.bytes))=some (some (.int .u8 0),1,1):=by kernel_rfl
def jbq (c:UInt8):Value:=.int .u8 (c.toNat:Int)
theorem fits_any (x:Int) (w:World):Calls Tryz.prog 199 #[.int .i64 x] w fun e w'=>e=.returned (.bool (Wr.isNum x))∧w=w':=by
 by_cases h1:-9007199254740992≤x
 ·by_cases h2:x≤9007199254740992
  ·go_enter Tryz.func199,Tryz.ntmps199
   go_wp2
   go_ret
   exact ⟨jau ((Wr.isNum_iff x).2 ⟨h1,h2⟩).symm,rfl⟩
  ·go_enter Tryz.func199,Tryz.ntmps199
   go_wp2
   go_ret
   exact ⟨jau ((Wr.isNum_false x).2 (by omega)).symm,rfl⟩
 ·go_enter Tryz.func199,Tryz.ntmps199
  go_wp2
  go_ret
  exact ⟨jau ((Wr.isNum_false x).2 (by omega)).symm,rfl⟩
theorem fits_at (x:Int) (b:Bool) (h:Wr.isNum x=b) (w:World):Calls Tryz.prog 199 #[.int .i64 x] w fun e w'=>e=.returned (.bool b)∧w=w':=by subst h;exact fits_any x w
theorem jkx {w:World} {base g n cap:Nat} {ys:List UInt8} (h:w.ownsRow base 5 1 (.slice (some ⟨g,0,none⟩) n cap) n (ys.map jbq)) (hn:ys.length=n) :
 (convert 127 9 (.slice (some ⟨g,0,none⟩) n cap)).run Tryz.prog w=.ok (.string ⟨ys.toArray⟩) w:=by
 subst hn
 refine run_convert_bytes_back (P:=Tryz.prog) w 127 9 5 ⟨g,0,none⟩ cap ys Tryz.underlying127 Tryz.underlying5 Tryz.underlying9 (fun j hj=>?_)
 rw [jds,Nat.zero_add,h.cellAt j (by omega)]
 simp [jbq,hj]
set_option maxRecDepth 100000 in
set_option maxHeartbeats 400000 in
theorem putNum_any (x:Int) (w:World) (hx:-9223372036854775808≤x∧x≤9223372036854775807) :
 Calls Tryz.prog 140 #[.int .i64 x] w fun e w'=>e=.returned (.string (Wr.putB x))∧Below w.heap.size w w':=by
 obtain ⟨i0,hi,hz0,hz1,hz2⟩:=info_parts info_u8
 cases hnum:Wr.isNum x
 ·have Hn:=Lib.hid hnum
  clear hnum
  go_enter Tryz.func140,Tryz.ntmps140
  go_wp2_with fail
  refine (fits_at _ _ Hn.out _).mono ?_
  rintro e w' ⟨rfl,rfl⟩
  go_wp2_with fail
  go_ret
  exact ⟨ret_str (by unfold Wr.putB Wr.putL;rw [Hn.out];rfl),Below.refl _ _⟩
 ·obtain ⟨h1,h2⟩:=(Wr.isNum_iff x).1 hnum
  have Hn:=Lib.hid hnum
  have hzl:=Wr.zig_lt x hnum
  clear hnum
  have hzig:∃ z:Nat,z=Wr.zig x:=⟨_,rfl⟩
  obtain ⟨z0,hz0'⟩:=hzig
  have Hz:=Lib.hid hz0'
  rw [←hz0'] at hzl
  clear hz0'
  have hzx:(x<0→(z0:Int)=-2*x-1)∧(¬x<0→(z0:Int)=2*x):=by
   rw [Hz.out];unfold Wr.zig
   constructor
   ·intro h;rw [if_pos h];omega
   ·intro h;rw [if_neg h];omega
  have Hzx:=Lib.hid hzx
  have Hput:Hid (Wr.putL x=Wr.vb 9 z0):=by show Wr.putL x=_;unfold Wr.putL;rw [if_pos Hn.out,Hz.out]
  clear hzx
  by_cases hneg:x<0
  all_goals
   go_enter Tryz.func140,Tryz.ntmps140
   go_wp2_with fail
   refine (fits_at _ _ Hn.out _).mono ?_
   rintro e w' ⟨rfl,rfl⟩
   go_wp2_with fail
   go_loopw [3,4] (fun u v wr=>∃ (ys:List UInt8) (z:Nat),ys.length≤8∧Hid (z<128^(9-ys.length))∧z≤18014398509481984∧u=.int .u64 (z:Int)∧Hid (Wr.vb 9 z0=ys++Wr.vb (9-ys.length) z)∧wr.ownsRow w.heap.size 5 1 v ys.length (ys.map jbq)∧Below w.heap.size w wr) (fun u _ _=>(intOf u).toNat)
   case atStart=>exact ⟨[],z0,by simp,Lib.hid (by simp;omega),hzl,by first | rw [Hzx.out.1 hneg] | rw [Hzx.out.2 hneg],Lib.hid (by simp),jcu _ _ _ _,Below.refl _ _⟩
   case round =>
    obtain ⟨ys,z,hyl,hzb,hzs,rfl,hvb,hown,hb⟩:=hrel
    by_cases hlt:z<128
    ·have Hvb:Hid (Wr.vb 9 z0=ys++[UInt8.ofNat z]):=by show Wr.vb 9 z0=_;rw [hvb.out,Wr.vb_small _ _ hlt]
     have hbyte:Hid (jbq (UInt8.ofNat z)=.int .u8 (z:Int)):=by show jbq _=_;unfold jbq;rw [Wr.toNat_ofNat_small _ (by omega)]
     clear hzb hvb
     go_wp2_with (at_builtin;refine jck wr rfl _ _ 127 rfl w.heap.size 5 i0 _ 1 1 Tryz.underlying127 hi hz0 hz1 hz2 rfl (by decide) _ ys.length _ (by rfl) hown [.int .u8 (z:Int)] (by rfl) rfl (by simp [Value.oneCell']) (by unfold maxLen;omega) (by omega) w hb hb.size ?_;intro v3 w3 hown3 hb3;obtain ⟨g,cap,hv3,hg3,hlt3⟩:=hown3.form (by omega);subst hv3;have hcv:=jkx (ys:=ys++[UInt8.ofNat z]) (by rw [List.map_append,List.map_cons,List.map_nil,hbyte.out];exact hown3) (by simp))
     go_ret
     exact ⟨ret_str (by unfold Wr.putB;rw [Hput.out,Hvb.out]),hb3⟩
    ·have Hvb:Hid (Wr.vb 9 z0=(ys++[UInt8.ofNat (z % 128+128)])++Wr.vb (9-(ys++[UInt8.ofNat (z % 128+128)]).length) (z / 128)):=by
      show Wr.vb 9 z0=_
      rw [hvb.out,show 9-ys.length=(8-ys.length)+1 from by omega,Wr.vb_more _ _ hlt]
      simp
     have hl7:ys.length≤7:=by
      rcases Nat.lt_or_ge ys.length 8 with h | h
      ·omega
      ·have h8:ys.length=8:=by omega
       have:=hzb.out
       rw [h8] at this
       simp at this;omega
     have hzb':Hid (z / 128<128^(9-(ys++[UInt8.ofNat (z % 128+128)]).length)):=by
      show z / 128<_
      have:=hzb.out
      rw [show 9-ys.length=(8-ys.length)+1 from by omega] at this
      have:=Wr.vb_next _ _ this
      rw [show 9-(ys++[UInt8.ofNat (z % 128+128)]).length=8-ys.length from by simp]
      exact this
     have hbyte:Hid (jbq (UInt8.ofNat (z % 128+128))=.int .u8 (bits .or .u8 ((z:Int) % 256) 128)):=by show jbq _=_;unfold jbq;rw [Wr.toNat_ofNat_small _ (by omega),Wr.vb_byte]
     clear hzb hvb
     go_wp2_with (at_builtin;refine jck wr rfl _ _ 127 rfl w.heap.size 5 i0 _ 1 1 Tryz.underlying127 hi hz0 hz1 hz2 rfl (by decide) _ ys.length _ (by rfl) hown [.int .u8 (bits .or .u8 ((z:Int) % 256) 128)] (by rfl) rfl (by simp [Value.oneCell']) (by unfold maxLen;omega) (by omega) w hb hb.size ?_;intro v3 w3 hown3 hb3)
     go_roundw
     case rel=>exact ⟨ys++[UInt8.ofNat (z % 128+128)],z / 128,by simp;omega,hzb',by omega,by go_num,Hvb,by rw [List.map_append,List.map_cons,List.map_nil,hbyte.out,List.length_append];exact hown3,hb3⟩
     case measure=>simp [intOf];omega
end
section
open Go.RowKit
def put8 (x k:Nat):List UInt8:=(List.range 8).map fun p=>if 8≤p+k then UInt8.ofNat (x / 256^(7-p) % 256) else 0
theorem jgu (x k:Nat):(put8 x k).length=8:=by simp [put8]
theorem put8_zero (x:Nat):put8 x 0=List.replicate 8 0:=by rfl
theorem put8_step (x k:Nat) (hk:k<8):(put8 x k).set (7-k) (UInt8.ofNat (x / 256^k % 256))=put8 x (k+1):=by
 rcases (by omega:k=0∨k=1∨k=2∨k=3∨k=4∨k=5∨k=6∨k=7) with rfl | rfl | rfl | rfl | rfl | rfl | rfl | rfl<;>rfl
def beN:Nat→Nat→List UInt8
 | 0,_=>[]
 | n+1,x=>beN n (x / 256)++[UInt8.ofNat (x % 256)]
theorem beN_pk:∀ n x,Ev.pk (beN n x)=x % 256^n
 | 0,x=>by rw [beN,Nat.pow_zero,Nat.mod_one];rfl
 | n+1,x=>by
   have e:Ev.pk [UInt8.ofNat (x % 256)]=x % 256:=by
    rw [Ev.pk_cons];show 1*_+Ev.pk []=_
    rw [Nat.one_mul,UInt8.toNat_ofNat',Nat.mod_mod];rfl
   rw [beN,Ev.pk_append,beN_pk n,e,Nat.pow_succ,Nat.mul_comm (256^n) 256,Nat.mod_mul]
   show 256^1*_+_=_
   rw [Nat.pow_one,Nat.add_comm]
theorem put8_be (x:Nat):put8 x 8=beN 8 x:=by
 have e:put8 x 8=[UInt8.ofNat (x / 256^7 % 256),UInt8.ofNat (x / 256^6 % 256),UInt8.ofNat (x / 256^5 % 256),UInt8.ofNat (x / 256^4 % 256),UInt8.ofNat (x / 256^3 % 256),UInt8.ofNat (x / 256^2 % 256),UInt8.ofNat (x / 256^1 % 256),UInt8.ofNat (x / 256^0 % 256)]:=rfl
 rw [e]
 simp [beN,Nat.div_div_eq_div_mul]
theorem put8_pk (x:Nat) (hx:x<18446744073709551616):Ev.pk (put8 x 8)=x:=by
 rw [put8_be,beN_pk]
 exact Nat.mod_eq_of_lt hx
theorem x_made_bytes (n:Nat):madeCells (Value.int .u8 0).cells (n*1)=((List.replicate n (0:UInt8)).map jbq).toArray:=by
 apply Array.ext_getElem?
 intro i
 simp only [madeCells,Value.cells,Nat.mul_one]
 by_cases h:i<n
 ·simp [h,Nat.mod_one];rfl
 ·simp [h]
theorem jha (W:World) (ys:List UInt8) (h:ys.length≤maxLen):(W.alloc (.cells (ys.map jbq).toArray 5)).ownsRow W.heap.size 5 1 (.slice (some ⟨W.heap.size,0,none⟩) ys.length ys.length) ys.length (ys.map jbq) :=
 ⟨by simp,.inr ⟨W.heap.size,ys.length,(ys.map jbq).toArray,rfl,Nat.le_refl _,heap_alloc_new W _,Nat.le_refl _,h,by simp,by rw [Nat.mul_one];exact List.take_of_length_le (by simp)⟩⟩
theorem jfy (n:Nat) (hn:n≤1000000) (W:World):(Instr.makeSlice 127 (.int .i64 (n:Int)) (.int .i64 (n:Int))).run Tryz.prog W=.ok (.slice (some ⟨W.heap.size,0,none⟩) n n) (W.alloc (.cells ((List.replicate n (0:UInt8)).map jbq).toArray 5)):=by
 obtain ⟨i0,hi,hz0,hz1,hz2⟩:=info_parts info_u8
 have:=jfb (P:=Tryz.prog) 127 5 i0 _ Tryz.underlying127 hi hz0 .i64 .i64 n n (Nat.le_refl _) (by rw [hz2];omega) (by omega) W
 rw [hz1,x_made_bytes] at this
 exact this
section
variable {w:World}
theorem jav {wr:World} {x k:Nat} (HO:Hid (wr.ownsRow w.heap.size 5 1 (.slice (some ⟨w.heap.size,0,none⟩) 8 8) 8 ((put8 x k).map jbq))) (Hb:Hid (Below w.heap.size w wr)) (hk:k<8) (i:Value) (hi:i=.int .i64 ((k+1:Nat):Int)) (j:Nat) (hj:j=7-k) (z:Int) (hz:z=((x / 256^k % 256:Nat):Int)) :
 ∃ (k:Nat),k≤8∧i=.int .i64 (k:Int)∧Hid ((wr.setCell ⟨w.heap.size,j,none⟩ (.int .u8 z)).ownsRow w.heap.size 5 1 (.slice (some ⟨w.heap.size,0,none⟩) 8 8) 8 ((put8 x k).map jbq))∧Hid (Below w.heap.size w (wr.setCell ⟨w.heap.size,j,none⟩ (.int .u8 z))):=by
 refine ⟨k+1,by omega,hi,?_,Hb.out.setCell (p:=⟨w.heap.size,j,none⟩) (Nat.le_refl _) _⟩
 show World.ownsRow _ _ _ _ _ _ _
 have e:Value.int .u8 z=jbq (UInt8.ofNat (x / 256^k % 256)):=by
  rw [hz]
  show _=Value.int .u8 ((UInt8.ofNat (x / 256^k % 256)).toNat:Int)
  rw [UInt8.toNat_ofNat',Nat.mod_mod]
 rw [e,←put8_step x k hk,List.map_set,hj]
 exact own_set HO.out (7-k) (jbq (UInt8.ofNat (x / 256^k % 256)))
set_option maxRecDepth 100000 in
set_option maxHeartbeats 2000000 in
theorem cellPutX (x:Nat) (hx:x<18446744073709551616):Calls Tryz.prog 167 #[.int .u64 (x:Int),.int .i64 8] w fun e w'=>e=.returned (.string ⟨(put8 x 8).toArray⟩)∧Below w.heap.size w w':=by
 have hmk:=jfy 8 (by omega) w
 rw [show ((8:Nat):Int)=8 from rfl] at hmk
 have hO:=jha w (List.replicate 8 0) (by simp [maxLen])
 have hbe:Below w.heap.size w (w.alloc (.cells ((List.replicate 8 (0:UInt8)).map jbq).toArray 5)):=(Below.refl _ _).alloc (Nat.le_refl _) _
 rw [List.length_replicate] at hO
 have HO:Hid ((w.alloc (.cells ((List.replicate 8 (0:UInt8)).map jbq).toArray 5)).ownsRow w.heap.size 5 1 (.slice (some ⟨w.heap.size,0,none⟩) 8 8) 8 ((put8 x 0).map jbq)):=by
  rw [put8_zero]
  exact Lib.hid hO
 have Hbe:=Lib.hid hbe
 clear hO hbe
 generalize ((List.replicate 8 (0:UInt8)).map jbq).toArray=cs at *
 go_enter Tryz.func167,Tryz.ntmps167
 go_wp2_with fail
 go_loopw [6,11] (fun _ i wr=>∃ (k:Nat),k≤8∧i=.int .i64 (k:Int)∧Hid (wr.ownsRow w.heap.size 5 1 (.slice (some ⟨w.heap.size,0,none⟩) 8 8) 8 ((put8 x k).map jbq))∧Hid (Below w.heap.size w wr)) (fun _ i _=>8-(intOf i).toNat)
 case atStart=>exact ⟨0,Nat.zero_le _,rfl,HO,Hbe⟩
 case round =>
  obtain ⟨k,hk,rfl,HO,Hb⟩:=hrel
  have hl:=jgu x k
  by_cases hlt:k<8
  ·have hcell:∀ j,j<8→∃ v,wr.cell? ⟨w.heap.size,j,none⟩=some v:=fun j hj=>⟨_,jdj HO.out (u:=jbq ((put8 x k)[j]'(by omega))) (by rw [List.getElem?_map,List.getElem?_eq_getElem (by omega)];rfl)⟩
   obtain ⟨v,hv⟩:=hcell (7-k) (by omega)
   have fz:=jeh HO.out (7-k)
   rcases (by omega:k=0∨k=1∨k=2∨k=3∨k=4∨k=5∨k=6∨k=7) with rfl | rfl | rfl | rfl | rfl | rfl | rfl | rfl
   ·go_wp2_with fail
    refine ⟨?_,by simp [intOf]⟩
    exact jav HO Hb (by omega) _ rfl 7 rfl _ (by simp only [Nat.reducePow];omega)
   ·go_wp2_with fail
    refine ⟨?_,by simp [intOf]⟩
    exact jav HO Hb (by omega) _ rfl 6 rfl _ (by simp only [Nat.reducePow];omega)
   ·go_wp2_with fail
    refine ⟨?_,by simp [intOf]⟩
    exact jav HO Hb (by omega) _ rfl 5 rfl _ (by simp only [Nat.reducePow];omega)
   ·go_wp2_with fail
    refine ⟨?_,by simp [intOf]⟩
    exact jav HO Hb (by omega) _ rfl 4 rfl _ (by simp only [Nat.reducePow];omega)
   ·go_wp2_with fail
    refine ⟨?_,by simp [intOf]⟩
    exact jav HO Hb (by omega) _ rfl 3 rfl _ (by simp only [Nat.reducePow];omega)
   ·go_wp2_with fail
    refine ⟨?_,by simp [intOf]⟩
    exact jav HO Hb (by omega) _ rfl 2 rfl _ (by simp only [Nat.reducePow];omega)
   ·go_wp2_with fail
    refine ⟨?_,by simp [intOf]⟩
    exact jav HO Hb (by omega) _ rfl 1 rfl _ (by simp only [Nat.reducePow];omega)
   ·go_wp2_with fail
    refine ⟨?_,by simp [intOf]⟩
    exact jav HO Hb (by omega) _ rfl 0 rfl _ (by simp only [Nat.reducePow];omega)
  ·have hk8:¬(k:Int)<8:=by omega
   obtain rfl:k=8:=by omega
   have hconv:=jkx HO.out hl
   go_wp2_with fail
   go_ret
   exact ⟨rfl,Hb.out⟩
set_option maxRecDepth 100000 in
set_option maxHeartbeats 2000000 in
theorem vaultHighX (x:Nat) (hx:x<18446744073709551616):Calls Tryz.prog 197 #[.int .u64 (x:Int),.int .i64 8] w fun e w'=>e=.returned (.string ⟨(put8 x 8).toArray⟩)∧Below w.heap.size w w':=by
 have hmk:=jfy 8 (by omega) w
 rw [show ((8:Nat):Int)=8 from rfl] at hmk
 have hO:=jha w (List.replicate 8 0) (by simp [maxLen])
 have hbe:Below w.heap.size w (w.alloc (.cells ((List.replicate 8 (0:UInt8)).map jbq).toArray 5)):=(Below.refl _ _).alloc (Nat.le_refl _) _
 rw [List.length_replicate] at hO
 have HO:Hid ((w.alloc (.cells ((List.replicate 8 (0:UInt8)).map jbq).toArray 5)).ownsRow w.heap.size 5 1 (.slice (some ⟨w.heap.size,0,none⟩) 8 8) 8 ((put8 x 0).map jbq)):=by
  rw [put8_zero]
  exact Lib.hid hO
 have Hbe:=Lib.hid hbe
 clear hO hbe
 generalize ((List.replicate 8 (0:UInt8)).map jbq).toArray=cs at *
 go_enter Tryz.func197,Tryz.ntmps197
 go_wp2_with fail
 go_loopw [6,11] (fun _ i wr=>∃ (k:Nat),k≤8∧i=.int .i64 (k:Int)∧Hid (wr.ownsRow w.heap.size 5 1 (.slice (some ⟨w.heap.size,0,none⟩) 8 8) 8 ((put8 x k).map jbq))∧Hid (Below w.heap.size w wr)) (fun _ i _=>8-(intOf i).toNat)
 case atStart=>exact ⟨0,Nat.zero_le _,rfl,HO,Hbe⟩
 case round =>
  obtain ⟨k,hk,rfl,HO,Hb⟩:=hrel
  have hl:=jgu x k
  by_cases hlt:k<8
  ·have hcell:∀ j,j<8→∃ v,wr.cell? ⟨w.heap.size,j,none⟩=some v:=fun j hj=>⟨_,jdj HO.out (u:=jbq ((put8 x k)[j]'(by omega))) (by rw [List.getElem?_map,List.getElem?_eq_getElem (by omega)];rfl)⟩
   obtain ⟨v,hv⟩:=hcell (7-k) (by omega)
   have fz:=jeh HO.out (7-k)
   rcases (by omega:k=0∨k=1∨k=2∨k=3∨k=4∨k=5∨k=6∨k=7) with rfl | rfl | rfl | rfl | rfl | rfl | rfl | rfl
   ·go_wp2_with fail
    refine ⟨?_,by simp [intOf]⟩
    exact jav HO Hb (by omega) _ rfl 7 rfl _ (by simp only [Nat.reducePow];omega)
   ·go_wp2_with fail
    refine ⟨?_,by simp [intOf]⟩
    exact jav HO Hb (by omega) _ rfl 6 rfl _ (by simp only [Nat.reducePow];omega)
   ·go_wp2_with fail
    refine ⟨?_,by simp [intOf]⟩
    exact jav HO Hb (by omega) _ rfl 5 rfl _ (by simp only [Nat.reducePow];omega)
   ·go_wp2_with fail
    refine ⟨?_,by simp [intOf]⟩
    exact jav HO Hb (by omega) _ rfl 4 rfl _ (by simp only [Nat.reducePow];omega)
   ·go_wp2_with fail
    refine ⟨?_,by simp [intOf]⟩
    exact jav HO Hb (by omega) _ rfl 3 rfl _ (by simp only [Nat.reducePow];omega)
   ·go_wp2_with fail
    refine ⟨?_,by simp [intOf]⟩
    exact jav HO Hb (by omega) _ rfl 2 rfl _ (by simp only [Nat.reducePow];omega)
   ·go_wp2_with fail
    refine ⟨?_,by simp [intOf]⟩
    exact jav HO Hb (by omega) _ rfl 1 rfl _ (by simp only [Nat.reducePow];omega)
   ·go_wp2_with fail
    refine ⟨?_,by simp [intOf]⟩
    exact jav HO Hb (by omega) _ rfl 0 rfl _ (by simp only [Nat.reducePow];omega)
  ·have hk8:¬(k:Int)<8:=by omega
   obtain rfl:k=8:=by omega
   have hconv:=jkx HO.out hl
   go_wp2_with fail
   go_ret
   exact ⟨rfl,Hb.out⟩
end
namespace Ev
noncomputable section
def sPut8 (args:List V) (H:HT) (n:Nat):Rs:=match args with
 | [.c (.i .u64 (.ofNat x)),.c (.i .i64 (.ofNat m))]=>cnd (and (Nat.beq m 8) (Nat.blt x 18446744073709551616)) (.ok (.c (.s 8 x)) H n) .no
 | _=>.no
theorem sPut8_of {fid:Nat} (hc:∀ (x:Nat) (w:World),x<18446744073709551616→Calls Tryz.prog fid #[.int .u64 (x:Int),.int .i64 8] w fun e w'=>e=.returned (.string ⟨(put8 x 8).toArray⟩)∧Below w.heap.size w w'):jbi Tryz.prog fid sPut8:=by
 intro args H n v H' n' h
 unfold sPut8 at h
 split at h
 ·rename_i x m
  have q:=jai h
  clear h
  obtain ⟨hb,h⟩:=q
  rw [Bool.and_eq_true] at hb
  have e:=jae hb.1
  have hx:=jaa hb.2
  subst e
  cases h
  refine ⟨Nat.le_refl _,fun G w cargs hR ha hf=>?_⟩
  obtain ⟨c,d,rfl,h1,h2⟩:=cargs2 ha
  have h1:c=.int .u64 (x:Int):=h1
  have h2:d=.int .i64 8:=h2
  subst h1
  subst h2
  refine (hc x w hx).mono ?_
  rintro e w' ⟨rfl,hb'⟩
  exact ⟨_,G,rfl,jbj hR hb',⟨_,rfl,by simp [jgu],put8_pk x hx⟩⟩
 ·cases h
theorem sPut_ok:jbi Tryz.prog 167 sPut8:=sPut8_of fun x w hx=>cellPutX x hx
theorem sHigh_ok:jbi Tryz.prog 197 sPut8:=sPut8_of fun x w hx=>vaultHighX x hx
end
end Ev
end
namespace Sm
def hstep (x c:Nat):Nat:=(1099511628211*(x ^^^ c)) % 18446744073709551616
def jjm:Nat:=14695981039346656037
attribute [irreducible] jjm hstep
def hashL (l:List UInt8):Nat:=l.foldl (fun x c=>hstep x c.toNat) jjm
theorem hstep_eq (x c:Nat):hstep x c=((x ^^^ c)*1099511628211) % 18446744073709551616:=by unfold hstep;rw [Nat.mul_comm]
theorem hbegin_eq:jjm=14695981039346656037:=by unfold jjm;rfl
theorem hstep_lt (x c:Nat):hstep x c<18446744073709551616:=by rw [hstep_eq];exact Nat.mod_lt _ (by omega)
theorem hbegin_lt:jjm<18446744073709551616:=by rw [hbegin_eq];omega
theorem foldl_lt (l:List UInt8) (x:Nat) (h:x<18446744073709551616):l.foldl (fun x c=>hstep x c.toNat) x<18446744073709551616:=by
 induction l generalizing x with
 | nil=>exact h
 | cons c l ih=>exact ih _ (hstep_lt _ _)
theorem hashL_lt (l:List UInt8):hashL l<18446744073709551616:=foldl_lt l _ hbegin_lt
theorem hashL_snoc (l:List UInt8) (c:UInt8):hashL (l++[c])=hstep (hashL l) c.toNat:=by
 simp only [hashL,List.foldl_append,List.foldl_cons,List.foldl_nil]
theorem hashL_nil:hashL []=jjm:=by simp only [hashL,List.foldl_nil]
theorem byte_u64 (c:UInt8):IntKind.u64.wrap (c.toNat:Int)=(c.toNat:Int):=IntWalk.u64_in _ (by have:=c.toNat_lt;omega)
theorem hash_int (x:Nat) (c:UInt8) (h:x<18446744073709551616):IntKind.u64.wrap (bits .xor .u64 (x:Int) (IntKind.u64.wrap (c.toNat:Int))*1099511628211)=(hstep x c.toNat:Int):=by
 rw [byte_u64,u64_xor_nat x c.toNat h (by have:=c.toNat_lt;omega),hstep_eq,IntKind.wrap_u64]
 omega
end Sm
section
open Go.RowKit
set_option maxHeartbeats 400000 in
theorem hash_any (s:ByteArray) (w:World) (hs:s.size≤maxLen) :
 Calls Tryz.prog 133 #[.string s] w fun e w'=>e=.returned (.int .u64 (Sm.hashL s.data.toList))∧w=w':=by
 unfold maxLen at hs
 go_enter Tryz.func133,Tryz.ntmps133
 go_wp2
 go_loop [3,7] (fun x i=>∃ k:Nat,k≤s.size∧i=.int .i64 k∧x=.int .u64 (Sm.hashL (s.data.toList.take k))) (fun _ i=>s.size-(intOf i).toNat)
 case atStart=>exact ⟨0,Nat.zero_le _,rfl,by rw [List.take_zero,Sm.hashL_nil,Sm.hbegin_eq];rfl⟩
 case round =>
  obtain ⟨k,hk,rfl,rfl⟩:=hrel
  by_cases hlt:k<s.size
  ·go_wp2
   go_round
   case rel=>exact ⟨k+1,by omega,by go_num,by rw [take_snoc s k hlt,Sm.hashL_snoc,Sm.hash_int _ _ (Sm.hashL_lt _)]⟩
   case measure=>simp [intOf];omega
  ·go_wp2
   go_ret
   exact ⟨ret_int (by rw [List.take_of_length_le (by simp;omega)]),rfl⟩
end
namespace Sg
open Go.Proofs.YtcchekmejnhlmaaGreat
def tailAt (x j:Nat):UInt8:=UInt8.ofNat (x / 256^(7-j) % 256)
def tailL (x:Nat):List UInt8:=(List.range 8).map (tailAt x)
def tailB (x:Nat):ByteArray:=⟨(tailL x).toArray⟩
def tailCell (x k j:Nat):Value:=if 8≤j+k then .int .u8 ((tailAt x j).toNat:Int) else .int .u8 0
def tailRow (x k:Nat):Array Value:=((List.range 8).map (tailCell x k)).toArray
theorem tail_low (x k:Nat):(x:Int) / 2^(8*k) % 256=((x / 256^k % 256:Nat):Int):=by
 have e2:((256^k:Nat):Int)=2^(8*k):=by
  rw [show (256:Nat)^k=2^(8*k) from by rw [Nat.pow_mul]]
  exact Int.natCast_pow 2 (8*k)
 rw [←e2,←Int.natCast_ediv];omega
theorem jdw (x k:Nat):(tailRow x k).size=8:=by simp [tailRow]
theorem tailRow_at (x k j:Nat) (h:j<8):(tailRow x k)[j]? =some (tailCell x k j):=by simp [tailRow,h]
theorem tailRow_zero (x:Nat):tailRow x 0=#[.int .u8 0,.int .u8 0,.int .u8 0,.int .u8 0,.int .u8 0,.int .u8 0,.int .u8 0,.int .u8 0]:=by
 simp [tailRow,tailCell,List.range,List.range.loop]
theorem tailRow_next (x k:Nat) (hk:k<8):(tailRow x k).setIfInBounds (7-k) (.int .u8 ((x / 256^k % 256:Nat):Int))=tailRow x (k+1):=by
 apply Array.ext_getElem?
 intro j
 rw [Array.getElem?_setIfInBounds]
 by_cases hj:j<8
 ·rw [tailRow_at _ _ _ hj,tailRow_at _ _ _ hj]
  by_cases he:7-k=j
  ·rw [if_pos he,if_pos (by rw [jdw];omega)]
   unfold tailCell tailAt
   rw [if_pos (by omega),show 7-j=k from by omega,UInt8.toNat_ofNat']
   have:x / 256^k % 256<256:=Nat.mod_lt _ (by omega)
   rw [Nat.mod_eq_of_lt (a:=x / 256^k % 256) (by simpa using this)]
  ·rw [if_neg he]
   unfold tailCell
   by_cases hc:8≤j+k
   ·rw [if_pos hc,if_pos (by omega)]
   ·rw [if_neg hc,if_neg (by omega)]
 ·rw [if_neg (by omega),Array.getElem?_eq_none (by rw [jdw];omega),Array.getElem?_eq_none (by rw [jdw];omega)]
theorem tailL_length (x:Nat):(tailL x).length=8:=by simp [tailL]
theorem tailRow_done (x j:Nat) (h:j<(tailL x).length):(tailRow x 8)[j]? =some (.int .u8 (((tailL x)[j].toNat:Nat):Int)):=by
 rw [tailL_length] at h
 rw [tailRow_at _ _ _ h]
 simp [tailCell,tailL]
end Sg
section
open Go.RowKit
set_option maxRecDepth 100000 in
set_option maxHeartbeats 400000 in
theorem tail_any (x:Nat) (w:World) (hx:x<18446744073709551616) :
 Calls Tryz.prog 269 #[.int .u64 x] w fun e w'=>e=.returned (.string (Sg.tailB x))∧Below w.heap.size w w':=by
 go_enter Tryz.func269,Tryz.ntmps269
 go_wp2
 go_loopw [4,5] (fun _ i wr=>∃ k:Nat,k≤8∧i=.int .i64 k∧wr=w.alloc (.cells (Sg.tailRow x k) 361)) (fun _ i _=>8-(intOf i).toNat)
 case atStart=>exact ⟨0,Nat.zero_le _,rfl,by rw [Sg.tailRow_zero]⟩
 case round =>
  obtain ⟨k,hk,rfl,rfl⟩:=hrel
  by_cases hlt:k<8
  ·have hlow:=Sg.tail_low x k
   have hn:=Lib.hid (Sg.tailRow_next x k hlt)
   have hc:(Sg.tailRow x k)[7-k]? =some (.int .u8 0):=by
    rw [Sg.tailRow_at _ _ _ (by omega)];unfold Sg.tailCell;rw [if_neg (by omega)]
   go_wp2
   go_roundw
   case rel=>exact ⟨k+1,by omega,by go_num,by rw [←hn.out];rfl⟩
   case measure=>simp [intOf];omega
  ·obtain rfl:k=8:=by omega
   have hcv:(convert 127 9 (.slice (some ⟨w.heap.size,0,none⟩) 8 8)).run Tryz.prog (w.alloc (.cells (Sg.tailRow x 8) 361))=.ok (.string (Sg.tailB x)) (w.alloc (.cells (Sg.tailRow x 8) 361)) :=
    run_convert_bytes_back (P:=Tryz.prog) _ 127 9 5 ⟨w.heap.size,0,none⟩ 8 (Sg.tailL x) Tryz.underlying127 Tryz.underlying5 Tryz.underlying9 (fun j hj=>by
     rw [←Sg.tailRow_done x j hj]
     rw [jds,Nat.zero_add];exact cell_new _ _ _ _)
   go_wp2
   go_ret
   exact ⟨rfl,(Below.refl _ _).alloc (Nat.le_refl _) _⟩
end
section
open Go.RowKit
theorem jje (x:Nat):Sg.tailL x=put8 x 8:=by
 unfold Sg.tailL put8 Sg.tailAt
 refine List.map_congr_left fun p _=>?_
 rw [if_pos (by omega)]
set_option maxRecDepth 100000 in
theorem u_len (b:Nat) (p:Value) (A:Option Addr) (len cap:Nat) (w:World) (hbk:w.heap[b]? =some (.cells #[p,.slice A len cap] 203 (0,0))) :
 Calls Tryz.prog 132 #[.pointer (some ⟨b,0,none⟩)] w fun e w'=>e=.returned (.int .i64 (len:Int))∧w'=w:=by
 have c1:w.cell? ⟨b,1,none⟩=some (.slice A len cap):=by rw [Lib.cell_of_heap hbk];rfl
 go_enter Tryz.func132,Tryz.ntmps132
 go_wp2
 go_ret
 exact ⟨rfl,rfl⟩
namespace Ev
noncomputable section
def sTail (args:List V) (H:HT) (n:Nat):Rs:=match args with
 | [.c (.i .u64 (.ofNat x))]=>cnd (Nat.blt x 18446744073709551616) (.ok (.c (.s 8 x)) H n) .no
 | _=>.no
theorem sTail_ok:jbi Tryz.prog 269 sTail:=by
 intro args H n v H' n' h
 unfold sTail at h
 split at h
 ·rename_i x
  have q:=jai h
  clear h
  obtain ⟨hb,h⟩:=q
  have hx:=jaa hb
  cases h
  refine ⟨Nat.le_refl _,fun G w cargs hR ha hf=>?_⟩
  obtain ⟨c,rfl,h1⟩:=jcp ha
  have h1:c=.int .u64 (x:Int):=h1
  subst h1
  refine (tail_any x w hx).mono ?_
  rintro e w' ⟨rfl,hb'⟩
  refine ⟨_,G,rfl,jbj hR hb',⟨Sg.tailB x,rfl,?_,?_⟩⟩
  ·show (Sg.tailL x).toArray.toList.length=8
   rw [jje];exact jgu x 8
  ·show pk (Sg.tailL x).toArray.toList=x
   rw [jje];exact put8_pk x hx
 ·cases h
def sbLen (T u8:Nat) (args:List V) (H:HT) (n:Nat):Rs:=match args with
 | [.c (.p id off)]=>cnd (and (Nat.beq off 0) (Nat.blt id HB)) (match hget H id with
  | .bd e a .sn=>cnd (Nat.beq e T) (.ok (.c (.i .i64 (.ofNat 0))) H n) .no
  | .bd e a (.su gid o len lb es)=>cnd (Nat.beq e T) (.ok (.c (.i .i64 (.ofNat len))) H n) .no
  | _=>.no) .no
 | _=>.no
theorem sbLen_ok:jbi Tryz.prog 132 (sbLen bT bU):=by
 intro args H n v H' n' h
 unfold sbLen at h
 split at h
 ·rename_i id off
  have q:=jai h
  clear h
  obtain ⟨hb,h⟩:=q
  rw [Bool.and_eq_true] at hb
  have hoff:=jae hb.1
  have hid:=jaa hb.2
  subst hoff
  split at h
  ·rename_i e a hob
   have q:=jai h
   clear h
   obtain ⟨hb2,h⟩:=q
   have he:=jae hb2
   subst he
   cases h
   refine ⟨Nat.le_refl _,fun G w cargs hR ha hf=>?_⟩
   obtain ⟨ca,rfl,ha1⟩:=jcp ha
   obtain ⟨b,sz0,hg,rfl⟩:=ha1
   have hpid:hp H id=.bd bT a .sn:=(jas hid).trans hob
   obtain ⟨b',sz,o,hg',hbk,hok⟩:=hR.1 id (by rw [hpid];exact fun q=>by cases q)
   rw [hg] at hg';cases hg'
   rw [hpid] at hok
   obtain ⟨rfl,p,vv,rfl,hpa,hbuf⟩:=hok
   have hbuf:vv=.slice none 0 0:=hbuf
   subst hbuf
   refine (u_len b p none 0 0 w hbk).mono ?_
   rintro e w' ⟨rfl,rfl⟩
   exact ⟨_,G,rfl,Stp.refl hR,rfl⟩
  ·rename_i e a gid o len lb es hob
   have q:=jai h
   clear h
   obtain ⟨hb2,h⟩:=q
   have he:=jae hb2
   subst he
   cases h
   refine ⟨Nat.le_refl _,fun G w cargs hR ha hf=>?_⟩
   obtain ⟨ca,rfl,ha1⟩:=jcp ha
   obtain ⟨b,sz0,hg,rfl⟩:=ha1
   have hpid:hp H id=.bd bT a (.su gid o len lb es):=(jas hid).trans hob
   obtain ⟨b',sz,ob,hg',hbk,hok⟩:=hR.1 id (by rw [hpid];exact fun q=>by cases q)
   rw [hg] at hg';cases hg'
   rw [hpid] at hok
   obtain ⟨rfl,p,vv,rfl,hpa,hbuf⟩:=hok
   obtain ⟨g,szg,cc,hgg,rfl,_⟩:=hbuf
   refine (u_len b p _ len cc w hbk).mono ?_
   rintro e w' ⟨rfl,rfl⟩
   exact ⟨_,G,rfl,Stp.refl hR,rfl⟩
  ·cases h
 ·cases h
def cloM (id:Nat) (H:HT) (n:Nat):Rs:=cnd (and (Nat.blt id HB) (Nat.blt n HB)) (match hget H id with
 | .mp es=>.ok (.c (.m n)) (hset H n (.mp es)) (Nat.add n 1)
 | _=>.no) .no
def sClone (args:List V) (H:HT) (n:Nat):Rs:=match args with
 | [.c .mn]=>.ok (.c .mn) H n
 | [.c (.m id)]=>cloM id H n
 | _=>.no
theorem sClone_ok:jbi Tryz.prog 214 sClone:=by
 intro args H n v H' n' h
 unfold sClone at h
 split at h
 ·cases h
  refine ⟨Nat.le_refl _,fun G w cargs hR ha hf=>?_⟩
  obtain ⟨c,rfl,h1⟩:=jcp ha
  have h1:c=.map none:=h1
  subst h1
  refine (AnyW.maps_Clone_nil Tryz.cloneM w).mono ?_
  rintro e w' ⟨rfl,rfl⟩
  exact ⟨_,G,rfl,Stp.refl hR,rfl⟩
 ·rename_i id
  unfold cloM at h
  have q:=jai h
  clear h
  obtain ⟨hb,h⟩:=q
  rw [Bool.and_eq_true] at hb
  have hid:=jaa hb.1
  have hn:=jaa hb.2
  split at h
  ·rename_i es hes
   cases h
   refine ⟨Nat.le_succ _,fun G w cargs hR ha hf=>?_⟩
   obtain ⟨c,rfl,h1⟩:=jcp ha
   obtain ⟨b,sz0,hg,rfl⟩:=h1
   have hpid:hp H id=.mp es:=(jas hid).trans hes
   obtain ⟨b',sz,o,hg',hbk,hok⟩:=hR.1 id (by rw [hpid];exact fun q=>by cases q)
   rw [hg] at hg';cases hg'
   rw [hpid] at hok
   have hok0:=hok
   obtain ⟨ents,clock,rfl,hst,hes2⟩:=hok
   have hG:G n=none:=hf n (Nat.le_refl _) (Nat.lt_succ_self n)
   refine (AnyW.maps_Clone Tryz.cloneM b ents clock w hbk).mono ?_
   rintro e w' ⟨rfl,rfl⟩
   have hle:Gh.le G (gset G n (w.heap.size,0)):=fun j y hy=>by
    unfold gset;split
    ·rename_i e;rw [e,hG] at hy;cases hy
    ·exact hy
   refine ⟨_,gset G n (w.heap.size,0),rfl,?_,⟨w.heap.size,0,by simp [gset],rfl⟩⟩
   rw [jbv _ hn]
   exact jhg hR hG (.map ents clock) 0 (.mp es) (ObOk.le hle ⟨ents,clock,rfl,hst,hes2⟩)
  ·cases h
 ·cases h
end
end Ev
end
section
open Go.RowKit
theorem jkg {w:World} {base base':Nat} {e:TypeId} {size n:Nat} {v:Value} {xs:List Value} (h:w.ownsRow base e size v n xs) (hb:base'≤base):w.ownsRow base' e size v n xs :=
 ⟨h.1,by
  rcases h.2 with h0 | ⟨g,cap,cur,e1,e2,e3⟩
  ·exact .inl h0
  ·exact .inr ⟨g,cap,cur,e1,Nat.le_trans hb e2,e3⟩⟩
end
section
open Go.RowKit
theorem pt3_of {w:World} {h:Nat} {n:ByteArray} {t v:Int} (hP:Blk w h 46 #[.string n,.int .i64 t,.int .i64 v]) :
 w.cell? ⟨h,0,none⟩=some (.string n)∧w.cell? ⟨h,1,none⟩=some (.int .i64 t)∧w.cell? ⟨h,2,none⟩=some (.int .i64 v):=⟨hP.cell 0,hP.cell 1,hP.cell 2⟩
theorem pt_cells {w wr:World} {B b off k:Nat} {ps:List Pt.Point} (hlt:k<ps.length) (hc:∀ j u,(ps.flatMap jal)[j]? =some u→w.cell? ⟨b,off+j,none⟩=some u) (hk:∀ p:Addr,p.block<B→wr.cell? p=w.cell? p) (hb:b<B) :
 wr.cell? ⟨b,off+k*3,none⟩=some (.string ps[k].1)∧wr.cell? ⟨b,off+k*3+1,none⟩=some (.int .i64 ps[k].2.1)∧wr.cell? ⟨b,off+k*3+2,none⟩=some (.int .i64 ps[k].2.2):=by
 refine ⟨?_,?_,?_⟩
 ·rw [hk ⟨b,_,none⟩ hb];have:=hc (k*3+0) (.string ps[k].1) (by rw [jbz jal 3 (fun _=>rfl) ps k 0 hlt (by omega)];rfl);rwa [←Nat.add_assoc] at this
 ·rw [hk ⟨b,_,none⟩ hb];have:=hc (k*3+1) (.int .i64 ps[k].2.1) (by rw [jbz jal 3 (fun _=>rfl) ps k 1 hlt (by omega)];rfl);rwa [←Nat.add_assoc] at this
 ·rw [hk ⟨b,_,none⟩ hb];have:=hc (k*3+2) (.int .i64 ps[k].2.2) (by rw [jbz jal 3 (fun _=>rfl) ps k 2 hlt (by omega)];rfl);rwa [←Nat.add_assoc] at this
end
section
open Go.RowKit
def orV (x y:Int):Int:=if x≠0 then x else y
def Pt.cmpP (a b:Pt.Point):Int:=orV (Lib.compareBytes a.1.data.toList b.1.data.toList) (Lib.compareInt a.2.1 b.2.1)
def Pt.lessB (a b:Pt.Point):Bool:=decide (Pt.cmpP a b<0)
attribute [local go_sem ↓] Go.wp_at_zero Go.wp_at_succ
end
section
open Go.RowKit
structure Aft (B:Nat) (W:World) where
 world:World
 below:Below B W world
instance (B:Nat) (W:World):Nonempty (Aft B W):=⟨⟨W,Below.refl B W⟩⟩
section
variable {P:Program} {B:Nat} {W:World}
variable {f:FuncId} {args:Array Value} {v:Value} {x:Aft B W}
theorem Aft.reads (x:Aft B W) {size n:Nat} {A:Option Addr} {xs:List Value} (h:Reads W B size A n xs):Reads x.world B size A n xs:=h.below x.below
end
end
section
open Go.RowKit
def Sg.z0:Pt.Point:=(⟨#[]⟩,0,0)
def Sg.okAt (ps:List Pt.Point) (i:Nat):Bool:=Pt.mayB (ps.getD i Sg.z0)&&(decide (i=0)||Pt.lessB (ps.getD (i-1) Sg.z0) (ps.getD i Sg.z0))
def Sg.riseB (ps:List Pt.Point):Bool:=decide (ps.length≤64)&&(List.range ps.length).all (Sg.okAt ps)
end
namespace Cl
open Go.Proofs.YtcchekmejnhlmaaGreat
def intsD:Int→List Int→List UInt8
 | _,[]=>[]
 | last,x::xs=>Wr.putL (x-last)++intsD x xs
def intsB (xs:List Int):ByteArray:=if xs.all Pt.smallB then ⟨(intsD 0 xs).toArray⟩ else ⟨#[]⟩
def idx (ws:List ByteArray) (x:ByteArray):Nat:=ws.findIdx fun w=>decide (w=x)
def txGo:List ByteArray→List ByteArray→List ByteArray×List Nat
 | ws,[]=>(ws,[])
 | ws,x::xs =>
   if idx ws x<ws.length then ((txGo ws xs).1,idx ws x::(txGo ws xs).2)
   else ((txGo (ws++[x]) xs).1,ws.length::(txGo (ws++[x]) xs).2)
def wordsL (ws:List ByteArray):List UInt8:=ws.flatMap fun w=>(Wr.textB w).data.toList
def placesL (ks:List Nat):List UInt8:=ks.flatMap fun (k:Nat)=>Wr.putL (k:Int)
def textsL (xs:List ByteArray):List UInt8:=Wr.putL ((txGo [] xs).1.length:Int)++wordsL (txGo [] xs).1++placesL (txGo [] xs).2
def shortB (xs:List ByteArray):Bool:=xs.all fun x=>decide (x.size≤12)
def textsB (xs:List ByteArray):ByteArray:=if shortB xs then ⟨(textsL xs).toArray⟩ else ⟨#[]⟩
end Cl
namespace Cl
open Go.Proofs.YtcchekmejnhlmaaGreat
end Cl
section
open Go.RowKit
abbrev Bld:=Lib.IsBuilderF 203 5
end
section
open Go.RowKit
end
section
open Go.RowKit
end
section
open Go.RowKit
def RdAt (w:World) (g:Nat) (s:ByteArray) (r:Pt.St):Prop:=Blk w g 156 #[.string s,.int .i64 r.1,.bool r.2]
section
variable {w w':World} {g:Nat} {s:ByteArray} {r:Pt.St}
theorem RdAt.only {S:Nat→Prop} (h:RdAt w g s r) (ho:Only S w w') (hg:¬S g):RdAt w' g s r:=Blk.only h ho hg
end
end
section
open Go.RowKit
end
end Go.Proofs.YtcchekmejnhlmaaGreat
