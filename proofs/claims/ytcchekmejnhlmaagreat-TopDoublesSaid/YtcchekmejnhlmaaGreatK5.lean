/- Joined texts. -/
import Derived.Test.YtcchekmejnhlmaaGreatK1
import Derived.Test.YtcchekmejnhlmaaGreatK4
import Derived.Test.YtcchekmejnhlmaaGreatProg
import Derived.Test.YtcchekmejnhlmaaGreatRows
import Derived.Laws.BitsAllLaws
import Derived.Laws.BitsLemmas
import Derived.IntWalk
import Derived.Lib.Strings
import Derived.Deep.QuietTactic
import Derived.BigQuiet
import Derived.ProofKit
import Derived.OpenShut
import Derived.ShutString
import Derived.SliceStrings
import Derived.Deep.Slices
import Derived.Deep.Fields
import Derived.ChangeSame
import Derived.SizedLaws
import Derived.Lib.SmallJoins
namespace Go.Proofs.YtcchekmejnhlmaaGreat
set_option linter.unusedVariables false
set_option maxHeartbeats 4000000
section
open Go.RowKit
section
variable {w w':World}
set_option maxRecDepth 100000 in
theorem mul64_4096 (w:World):Calls Tryz.prog 195 #[.int .u64 1,.int .u64 4096] w fun e w'=>e=.returned (.tuple #[.int .u64 0,.int .u64 4096])∧w=w':=by
 go_enter Tryz.func195,Tryz.ntmps195
 go_wp2_with fail
 go_ret2
 exact ⟨rfl,rfl⟩
set_option maxRecDepth 100000 in
theorem mul_4096 (w:World):Calls Tryz.prog 135 #[.int .u64 1,.int .u64 4096] w fun e w'=>e=.returned (.tuple #[.int .u64 0,.int .u64 4096])∧w=w':=by
 go_enter Tryz.func135,Tryz.ntmps135
 go_wp2_with fail
 refine (mul64_4096 _).mono ?_
 rintro e w2 ⟨rfl,rfl⟩
 go_wp2_with fail
 go_ret2
 exact ⟨rfl,rfl⟩
def Tp.zrow (s:ByteArray) (N p:Nat):Array Value:=(List.replicate p (Value.string s)++List.replicate (N-p) (Value.string ⟨#[]⟩)).toArray
theorem Tp.zrow_size (s:ByteArray) {N p:Nat} (h:p≤N):(Tp.zrow s N p).size=N:=by simp [Tp.zrow];omega
theorem Tp.zrow_next (s:ByteArray) {N p q:Nat} (h:p+q≤N):((Tp.zrow s N p).toList.take p++List.replicate q (Value.string s)++(Tp.zrow s N p).toList.drop (p+q)).toArray=Tp.zrow s N (p+q):=by
 unfold Tp.zrow
 congr 1
 show (List.replicate p (Value.string s)++List.replicate (N-p) (Value.string ⟨#[]⟩)).take p++List.replicate q (Value.string s)++(List.replicate p (Value.string s)++List.replicate (N-p) (Value.string ⟨#[]⟩)).drop (p+q)=_
 rw [List.take_append_of_le_length (by simp),List.take_of_length_le (by simp),List.drop_append,List.drop_of_length_le (by simp),List.nil_append,List.length_replicate,List.drop_replicate,show p+q-p=q from by omega,List.replicate_append_replicate,show N-p-q=N-(p+q) from by omega]
theorem Tp.zrow_at (s:ByteArray) {N p j:Nat} (h:j<p) (hp:p≤N):(Tp.zrow s N p)[j]? =some (Value.string s):=by
 unfold Tp.zrow
 rw [List.getElem?_toArray,List.getElem?_append_left (by simpa using h),List.getElem?_replicate,if_pos h]
theorem info_str:(Tryz.prog.info? 9).map (fun i=>(i.zero,i.size,i.bytes))=some (some (.string ⟨#[]⟩),1,16):=by kernel_rfl
theorem below_row {B g:Nat} {w0:World} (h:Below B w0 w) (hg:B≤g) (cs:Array Value):Below B w0 (w.setRow g cs) :=
 ⟨h.os,h.tape,h.output,by rw [setRow_size];exact h.size,fun k hk=>(setRow_other w g k cs (by omega)).trans (h.block k hk)⟩
theorem made_texts (s:ByteArray) (n:Nat):madeCells (Value.cells (.string ⟨#[]⟩)) (n*1)=Tp.zrow s n 0:=by
 unfold Tp.zrow madeCells
 simp only [List.replicate,List.nil_append,Nat.sub_zero,Nat.mul_one]
 apply Array.ext
 ·simp
 ·intro i h1 h2
  simp [Value.cells,Nat.mod_one]
theorem make_texts (s:ByteArray) (n:Nat) (hn:n≤1000000) (W:World):(Instr.makeSlice 128 (.int .i64 (n:Int)) (.int .i64 (n:Int))).run Tryz.prog W=.ok (.slice (some ⟨W.heap.size,0,none⟩) n n) (W.alloc (.cells (Tp.zrow s n 0) 9)):=by
 obtain ⟨i0,hi,hz0,hz1,hz2⟩:=info_parts info_str
 have:=jfb (P:=Tryz.prog) 128 9 i0 _ Tryz.underlying128 hi hz0 .i64 .i64 n n (Nat.le_refl _) (by rw [hz2];omega) (by omega) W
 rw [hz1,made_texts s] at this
 exact this
set_option maxRecDepth 100000 in
theorem jju {W:World} {g p q N:Nat} {s:ByteArray} (h:Blk W g 9 (Tp.zrow s N p)) (hp:p+q≤N) (dL dC sL sC:Nat) (a:Addr) (hq:q=Nat.min sL dL) (ha:∀ j,j<q→W.cell? (a.add j)=some (.string s)) (ty:TypeId) :
 (Builtin.copy_ #[128,128] ty #[.slice (some ⟨g,p,none⟩) dL dC,.slice (some a) sL sC]).run Tryz.prog W=.ok (.int .i64 (q:Int)) (W.setRow g (Tp.zrow s N (p+q))):=by
 have e:(Tryz.prog.info? 9).map (·.size)=some 1:=by kernel_rfl
 have:=run_copy_row (P:=Tryz.prog) W 128 128 ty 9 g p dL dC a sL sC (Tp.zrow s N p) 9 (List.replicate q (Value.string s)) Tryz.underlying128 e h (by simp [hq]) (fun j v hv=>by
  rw [List.getElem?_replicate] at hv
  split at hv
  ·rename_i hj
   injection hv with hv
   rw [←hv];exact ha j hj
  ·cases hv) (by rw [Tp.zrow_size s (by omega)];simp;omega) (fun v hv=>by rw [List.mem_replicate] at hv;rw [hv.2];rfl)
 rw [List.length_replicate,Tp.zrow_next s hp] at this
 exact this
set_option maxRecDepth 100000 in
theorem repeat_any {gx cx:Nat} (s:ByteArray) (N:Nat) (hN:N=4096) (hx:w.cell? ⟨gx,0,none⟩=some (.string s)) (hgx:gx<w.heap.size):Calls Tryz.prog 72 #[.slice (some ⟨gx,0,none⟩) 1 cx,.int .i64 (N:Int)] w fun e w'=>e=.returned (.slice (some ⟨w.heap.size,0,none⟩) N N)∧Blk w' w.heap.size 9 (Tp.zrow s N N)∧Below w.heap.size w w':=by
 have hu:IntKind.u64.wrap (N:Int)=(N:Int):=IntWalk.u64_in _ (by omega)
 have hi:IntKind.i64.wrap (N:Int)=(N:Int):=IntWalk.i64_in _ (by omega)
 have hM:=Lib.hid (fun (W:World)=>show Calls Tryz.prog 135 #[.int .u64 1,.int .u64 (N:Int)] W fun e w'=>e=.returned (.tuple #[.int .u64 0,.int .u64 (N:Int)])∧W=w' from by rw [hN];exact mul_4096 W)
 have hmk:=make_texts s N (by omega)
 have h0:(0:Int)≤(N:Int):=by omega
 have hb:¬9223372036854775807<(N:Int):=by omega
 have hB:=Lib.hid (Blk.new w 9 (Tp.zrow s N 0))
 have hX:=Lib.hid (fun (W:World) (h:Below w.heap.size w W)=>(h.cell (p:=⟨gx,0,none⟩) hgx).trans hx)
 have HN:=Lib.hid hN
 clear hN
 go_enter Tryz.func72,Tryz.ntmps72
 go_wp2_with fail
 refine (hM.out _).mono ?_
 rintro e w2 ⟨rfl,rfl⟩
 go_wp2_with fail
 have hcp:=jju hB.out (p:=0) (q:=1) (by have:=HN.out;omega) N N 1 cx ⟨gx,0,none⟩ (by have:=HN.out;simp [Nat.min_def];omega) (fun j hj=>by
  obtain rfl:j=0:=by omega
  exact hX.out _ (Below.alloc (Below.refl _ _) (Nat.le_refl _) _)) 3
 have hB1:Hid (Blk ((w.alloc (.cells (Tp.zrow s N 0) 9)).setRow w.heap.size (Tp.zrow s N (0+1))) w.heap.size 9 (Tp.zrow s N 1)):=Lib.hid (setRow_heap _ _ _ _ _ _ hB.out)
 have hL1:Hid (Below w.heap.size w ((w.alloc (.cells (Tp.zrow s N 0) 9)).setRow w.heap.size (Tp.zrow s N (0+1)))):=Lib.hid (below_row (Below.alloc (Below.refl _ _) (Nat.le_refl _) _) (Nat.le_refl _) _)
 refine Lib.hid ?_
 go_wp2_with fail
 clear hcp hmk hx
 go_loopw [8] (fun n wr=>∃ p:Nat,1≤p∧p≤N∧n=.int .i64 (p:Int)∧Hid (Blk wr w.heap.size 9 (Tp.zrow s N p))∧Hid (Below w.heap.size w wr)) (fun n _=>N-(intOf n).toNat)
 case atStart=>exact ⟨1,by omega,by have:=HN.out;omega,rfl,hB1,hL1⟩
 case round =>
  obtain ⟨p,hp1,hpN,rfl,hb,hl⟩:=hrel
  rcases Nat.lt_or_ge p N with hlt | hge
  ·have hlt':(p:Int)<(N:Int):=by omega
   have hle':(p:Int)≤(N:Int):=by omega
   have hp0:(0:Int)≤(p:Int):=by omega
   have hNp:¬N=p:=by omega
   obtain ⟨q,hq⟩:∃ q:Nat,q=Nat.min p (N-p):=⟨_,rfl⟩
   have hq0:0<q:=by rw [hq];simp [Nat.min_def];split<;>omega
   have hqp:q≤p:=by rw [hq];exact Nat.min_le_left _ _
   have hqN:p+q≤N:=by have:=Nat.min_le_right p (N-p);have:q≤N-p:=by rw [hq];exact this
                      omega
   have HCP:=Lib.hid (jju (dL:=N-p) (sL:=p) (dC:=N-p) (sC:=N) (a:=⟨w.heap.size,0,none⟩) hb.out.drew hqN hq (fun j hj=>by rw [jds,Nat.zero_add];exact (hb.out.drew.cell j).trans (Tp.zrow_at s (by omega) (by omega))) 3)
   have hw1:IntKind.i64.wrap ((p:Int)+(q:Int))=((p+q:Nat):Int):=by rw [IntWalk.i64_in _ (by have:=HN.out;omega)];omega
   have HB2:Hid (Blk (wr.drew.setRow w.heap.size (Tp.zrow s N (p+q))) w.heap.size 9 (Tp.zrow s N (p+q))):=Lib.hid (setRow_heap _ _ _ _ _ _ hb.out.drew)
   have HL2:Hid (Below w.heap.size w (wr.drew.setRow w.heap.size (Tp.zrow s N (p+q)))):=Lib.hid (below_row hl.out.drew (Nat.le_refl _) _)
   clear hq
   go_wp2_with fail
   refine jan (S:=(fun _=>True)) [] (by kernel_rfl) ?_ (fun hHeld=>?_)
   ·trivial
   refine tK 0 38 (v:=?_) rfl ?_ ?_;rotate_left 1;(focus intro w hSw;(try dsimp only at hSw);go_simp;try with_reducible rfl);try simp only [Act.put,zsA,zsB,zsC]
   refine tK 1 39 (v:=?_) rfl ?_ ?_;rotate_left 1;(focus intro w hSw;(try dsimp only at hSw);go_simp;try with_reducible rfl);try simp only [Act.put,zsA,zsB,zsC]
   refine tK 2 40 (v:=?_) rfl ?_ ?_;rotate_left 1;(focus intro w hSw;(try dsimp only at hSw);go_simp;try with_reducible rfl);try simp only [Act.put,zsA,zsB,zsC]
   refine tK 3 41 (v:=?_) rfl ?_ ?_;rotate_left 1;(focus intro w hSw;(try dsimp only at hSw);go_simp;try with_reducible rfl);try simp only [Act.put,zsA,zsB,zsC]
   refine tK 4 42 (v:=?_) rfl ?_ ?_;rotate_left 1;(focus intro w hSw;(try dsimp only at hSw);go_simp;try with_reducible rfl);try simp only [Act.put,zsA,zsB,zsC]
   refine tK 5 43 (v:=?_) rfl ?_ ?_;rotate_left 1;(focus intro w hSw;(try dsimp only at hSw);go_simp;try with_reducible rfl);try simp only [Act.put,zsA,zsB,zsC]
   refine tK 6 44 (v:=?_) rfl ?_ ?_;rotate_left 1;(focus intro w hSw;(try dsimp only at hSw);go_simp;try with_reducible rfl);try simp only [Act.put,zsA,zsB,zsC]
   refine jah (i:=7) (o:=⟨some 45,_,_,_,_,_⟩) (by kernel_rfl) rfl (fun K' hK=>?_)
   (refine step_copy_at (o:=⟨some 45,_,_,_,_,_⟩) rfl (.tmp 41) (.tmp 44) 128 128 rfl _ _ (by rfl) (by rfl) HCP.out ?_)
   refine hK.out _ _ (fun _=>?_) (fun hHeld'=>?_)
   ·trivial
   have hHeld:=hHeld' rfl
   clear hK K'
   try simp only [Act.put,zsA,zsB,zsC]
   refine tK 8 46 (v:=?_) rfl ?_ ?_;rotate_left 1;(focus intro w hSw;(try dsimp only at hSw);go_simp;try with_reducible rfl);try simp only [Act.put,zsA,zsB,zsC]
   refine tK 9 8 (v:=?_) rfl ?_ ?_;rotate_left 1;(focus intro w hSw;(try dsimp only at hSw);go_simp;try with_reducible rfl);try simp only [Act.put,zsA,zsB,zsC]
   refine jao (by kernel_rfl) ?_ _
   go_roundw
   case rel =>
    repeat' (first | exact ⟨⟨p+q,by omega,hqN,by first | rfl | (simp only [hw1];rfl),HB2,HL2⟩,rfl⟩ | apply Exists.intro)
   case measure=>simp [intOf];omega
  ·obtain rfl:p=N:=by omega
   have hlt':¬(p:Int)<(p:Int):=by omega
   go_wp2_with fail
   go_ret
   exact ⟨rfl,hb.out,hl.out⟩
end
end
section
namespace Ev
open Go.RowKit
noncomputable section
def repO (x:Sc) (H:HT) (n:Nat):Rs:=match x with
 | .s l m=>cnd (Nat.blt n HB) (.ok (.c (.sk n 0 4096 4096 1)) (hset H n (.row 4096 false 4 (.s l m) .z)) (Nat.add n 1)) .no
 | _=>.no
def sRep (args:List V) (H:HT) (n:Nat):Rs:=match args with
 | [.c (.sk id off len cap es),.c (.i .i64 (.ofNat k))]=>cnd (and (and (Nat.beq off 0) (Nat.beq len 1)) (and (Nat.beq k 4096) (Nat.blt id HB))) (match hget H id with
   | .row m x dep d t=>cnd (Nat.blt 0 m) (repO (tget dep d t 0) H n) .no
   | _=>.no) .no
 | _=>.no
set_option maxRecDepth 100000 in
theorem sRep_ok:jbi Tryz.prog 72 sRep:=by
 intro args H n v H' n' h
 unfold sRep at h
 split at h
 ·rename_i id off len cap es k
  have q:=jai h
  clear h
  obtain ⟨hb,h⟩:=q
  rw [Bool.and_eq_true,Bool.and_eq_true,Bool.and_eq_true] at hb
  have e1:=jae hb.1.1
  have e2:=jae hb.1.2
  have e3:=jae hb.2.1
  have hid:=jaa hb.2.2
  subst e1
  subst e2
  split at h
  ·rename_i m x dep d t hob
   have q:=jai h
   clear h
   obtain ⟨hm,h⟩:=q
   have hm:=jaa hm
   have hpid:hp H id=.row m x dep d t:=(jas hid).trans hob
   unfold repO at h
   split at h
   ·rename_i l mm hs
    have q:=jai h
    clear h
    obtain ⟨hn,h⟩:=q
    have hn:=jaa hn
    cases h
    refine ⟨Nat.le_succ _,fun G w cargs hR ha hf=>?_⟩
    obtain ⟨c,c2,rfl,h1,h2⟩:=cargs2 ha
    obtain ⟨b,sz,hg,rfl,_⟩:=h1
    have h2:c2=.int .i64 (k:Int):=h2
    subst h2
    obtain ⟨b',sz',arr,el,fz,hg',L⟩:=hR.lies (id:=id) hpid
    rw [hg] at hg';cases hg'
    have hc:=jij (off:=0) L.hb (by have:=L.le;have:=L.size;omega)
    have hv:=L.cell 0 hm
    rw [hs] at hv
    obtain ⟨s,hv,s1,s2⟩:=hv
    rw [hv] at hc
    have hlt:=hR.lt (by rw [hpid];exact fun q=>by cases q) hg
    refine (repeat_any (cx:=cap) s k e3 hc hlt).mono ?_
    rintro e w' ⟨rfl,hB,hb'⟩
    have hG:G n=none:=hf n (Nat.le_refl _) (Nat.lt_succ_self _)
    have hsz:(Tp.zrow s k k).size=4096:=by rw [Tp.zrow_size s (by omega)];exact e3
    subst e3
    refine ⟨_,gset G n (w.heap.size,4096),rfl,stp_one hR hb' hn hG (Nat.le_refl _) hB _ ⟨_,_,_,rfl,hsz,Nat.le_refl _,fun _=>rfl,by decide,fun i hi=>by simp,fun i hi=>?_⟩,⟨w.heap.size,4096,by simp [gset],rfl,Nat.le_refl _,by omega⟩⟩
    rw [jel]
    have:=Tp.zrow_at s (N:=4096) (p:=4096) (j:=i) (by omega) (by omega)
    rw [Array.getD_eq_getD_getElem?,this]
    exact ⟨s,rfl,s1,s2⟩
   ·cases h
  ·cases h
 ·cases h
end
end Ev
end
section
open Go.RowKit
structure Tp.Msg where
 kind:Int
 frm:Int
 to:Int
 view:Int
 normal:Int
 at_:Int
 commit:Int
 round:Int
 client:Int
 session:Int
 number:Int
 code:Int
 agg:Int
 until_:Int
def Tp.msgCells (m:Tp.Msg):List Value:=[.int .i64 m.kind,.int .i64 m.frm,.int .i64 m.to,.int .i64 m.view,.int .i64 m.normal,.int .i64 m.at_,.int .i64 m.commit,.int .i64 m.round,.int .i64 m.client,.int .i64 m.session,.int .i64 m.number,.int .i64 m.code,.int .i64 m.agg,.int .i64 m.until_,.string ⟨#[]⟩,.slice none 0 0,.int .i64 0,.string ⟨#[]⟩,.slice none 0 0,.string ⟨#[]⟩]
section
variable {w:World}
set_option maxRecDepth 100000 in
theorem jdl (x:Int) (h0:0≤x) (h1:x<7):Calls Tryz.prog 94 #[.int .i64 x] w fun e w'=>e=.returned (.bool true)∧w=w':=by
 have d0:decide (x ≥ 0)=true:=decide_eq_true h0
 have d1:decide (x<7)=true:=decide_eq_true h1
 go_enter Tryz.func94,Tryz.ntmps94
 go_wp2_with fail
 go_ret
 exact ⟨rfl,rfl⟩
set_option maxRecDepth 100000 in
theorem jdm (x:Int) (h0:100≤x) (h1:x<108):Calls Tryz.prog 49 #[.int .i64 x] w fun e w'=>e=.returned (.bool true)∧w=w':=by
 have d0:decide (x ≥ 100)=true:=decide_eq_true h0
 have d1:decide (x<108)=true:=decide_eq_true h1
 go_enter Tryz.func49,Tryz.ntmps49
 go_wp2_with fail
 go_ret
 exact ⟨rfl,rfl⟩
set_option maxRecDepth 100000 in
theorem msgClient_no (x:Int) (h0:x<100):Calls Tryz.prog 49 #[.int .i64 x] w fun e w'=>e=.returned (.bool false)∧w=w':=by
 have d0:decide (x ≥ 100)=false:=decide_eq_false (by omega)
 go_enter Tryz.func49,Tryz.ntmps49
 go_wp2_with fail
 go_ret
 exact ⟨rfl,rfl⟩
end
end
namespace Wr
def isNum (x:Int):Bool:=decide (-9007199254740992≤x)&&decide (x≤9007199254740992)
def zig (x:Int):Nat:=if x<0 then (-2*x-1).toNat else (2*x).toNat
def unzig (z:Nat):Int:=if z % 2=1 then -((z / 2:Nat):Int)-1 else ((z / 2:Nat):Int)
theorem isNum_iff (x:Int):isNum x=true↔-9007199254740992≤x∧x≤9007199254740992:=by simp [isNum]
theorem isNum_false (x:Int):isNum x=false↔¬(-9007199254740992≤x∧x≤9007199254740992):=by
 rw [←isNum_iff];simp
theorem zig_lt (x:Int) (h:isNum x=true):zig x≤18014398509481984:=by
 rw [isNum_iff] at h
 unfold zig;split<;>omega
def vb:Nat→Nat→List UInt8
 | 0,z=>[UInt8.ofNat z]
 | n+1,z=>if z<128 then [UInt8.ofNat z] else UInt8.ofNat (z % 128+128)::vb n (z / 128)
def putL (x:Int):List UInt8:=if isNum x then vb 9 (zig x) else []
def putB (x:Int):ByteArray:=⟨(putL x).toArray⟩
theorem vb_small (n z:Nat) (h:z<128):vb n z=[UInt8.ofNat z]:=by
 cases n with
 | zero=>rfl
 | succ n=>unfold vb;rw [if_pos h]
theorem vb_more (n z:Nat) (h:¬z<128):vb (n+1) z=UInt8.ofNat (z % 128+128)::vb n (z / 128):=by
 rw [vb,if_neg h]
def gn:Nat→Nat→Nat→List UInt8→Sum Int (Int×Nat)
 | 0,_,_,_=>.inl 201
 | _+1,_,_,[]=>.inl 200
 | n+1,i,u,c::l =>
   if 128≤c.toNat then gn n (i+1) (u+c.toNat % 128*128^i) l
   else if c.toNat=0∧0<i then .inl 201
   else if isNum (unzig (u+c.toNat % 128*128^i)) then .inr (unzig (u+c.toNat % 128*128^i),i+1) else .inl 201
def getN (l:List UInt8) (at_:Int):Int×Int×Int :=
 if at_<0∨(l.length:Int)<at_ then (0,0,200)
 else match gn 8 0 0 (l.drop at_.toNat) with
  | .inl e=>(0,0,e)
  | .inr (x,k)=>(x,at_+(k:Int),0)
theorem toNat_ofNat_small (z:Nat) (h:z<256):(UInt8.ofNat z).toNat=z:=by rw [UInt8.toNat_ofNat'];omega
def textB (s:ByteArray):ByteArray:=putB (s.size:Int)++s
theorem or_128:∀ n:Fin 256,n.1 ||| 128=n.1 % 128+128:=by decide +kernel
theorem vb_byte (z:Nat):bits .or .u8 ((z:Int) % 256) 128=((z % 128+128:Nat):Int):=by
 have e:((z:Int) % 256)=((z % 256:Nat):Int):=by omega
 have h:=u8_or_nat (z % 256) 128 (by omega) (by omega)
 have o:=or_128 ⟨z % 256,by omega⟩
 simp only at o
 rw [o] at h
 rw [e]
 exact h.trans (by congr 1;omega)
theorem vb_next (z n:Nat) (h:z<128^(n+1)):z / 128<128^n:=by
 rw [Nat.pow_succ] at h
 exact Nat.div_lt_of_lt_mul (by rw [Nat.mul_comm];exact h)
end Wr
namespace Wr
theorem ext_list {a b:ByteArray} (h:a.data.toList=b.data.toList):a=b:=by
 apply ByteArray.ext
 exact Array.toList_inj.1 h
end Wr
namespace Pt
open Go.Proofs.YtcchekmejnhlmaaGreat
abbrev Point:=ByteArray×Int×Int
def nameC (c:UInt8):Bool:=(decide (97≤c.toNat)&&decide (c.toNat≤122))||(decide (48≤c.toNat)&&decide (c.toNat≤57))||decide (c.toNat=95)
def nameB (s:ByteArray):Bool:=decide (1≤s.size)&&decide (s.size≤12)&&s.data.toList.all nameC
def smallB (x:Int):Bool:=decide (-2147483648≤x)&&decide (x≤2147483647)
def mayB (p:Point):Bool:=nameB p.1&&smallB p.2.1&&smallB p.2.2
def batchB (ps:List Point):Bool:=decide (ps.length≤8)&&ps.all mayB
theorem smallB_iff (x:Int):smallB x=true↔-2147483648≤x∧x≤2147483647:=by simp [smallB]
def oneL (p:Point):List UInt8:=(Wr.textB p.1).data.toList++Wr.putL p.2.1++Wr.putL p.2.2
def ptsL (ps:List Point):List UInt8:=Wr.putL (ps.length:Int)++ps.flatMap oneL
def ptsB (ps:List Point):ByteArray:=⟨(ptsL ps).toArray⟩
abbrev St:=Int×Bool
def rdNum (s:ByteArray) (lo hi:Int) (r:St):Int×St :=
 if (Wr.getN s.data.toList r.1).2.2≠0∨(Wr.getN s.data.toList r.1).1<lo∨hi<(Wr.getN s.data.toList r.1).1∨r.2=true then (0,(r.1,true))
 else ((Wr.getN s.data.toList r.1).1,((Wr.getN s.data.toList r.1).2.1,false))
end Pt
section
open Go.RowKit
def jal (f:ByteArray×Int×Int):List Value:=[.string f.1,.int .i64 f.2.1,.int .i64 f.2.2]
end
section
open Go.RowKit
theorem nameC_yes1 {c:UInt8} (h:(97:Int)≤(c.toNat:Int)) (h':(c.toNat:Int)≤122):Pt.nameC c=true:=by unfold Pt.nameC;simp;omega
theorem nameC_yes2 {c:UInt8} (h:(48:Int)≤(c.toNat:Int)) (h':(c.toNat:Int)≤57):Pt.nameC c=true:=by unfold Pt.nameC;simp;omega
theorem nameC_yes3 {c:UInt8} (h:((c.toNat:Int)==95)=true):Pt.nameC c=true:=by rw [beq_iff_eq] at h;unfold Pt.nameC;simp;omega
theorem nameC_no {c:UInt8} (h:¬((97:Int)≤(c.toNat:Int)∧(c.toNat:Int)≤122)) (h':¬((48:Int)≤(c.toNat:Int)∧(c.toNat:Int)≤57)) (h'':((c.toNat:Int)==95)=false):Pt.nameC c=false:=by
 rw [beq_eq_false_iff_ne] at h'';unfold Pt.nameC;simp;omega
theorem name_none {s:ByteArray} (h:s.size=0):Pt.nameB s=false:=by unfold Pt.nameB;simp [h]
theorem name_much {s:ByteArray} (h:¬s.size≤12):Pt.nameB s=false:=by unfold Pt.nameB;simp [h]
theorem name_stop {s:ByteArray} {k:Nat} (hk:k<s.size) (h:Pt.nameC s[k]=false):Pt.nameB s=false:=by
 unfold Pt.nameB
 have:s.data.toList.all Pt.nameC=false:=by
  rw [List.all_eq_false]
  exact ⟨s[k],by simp;exact Array.getElem_mem _,by rw [h];simp⟩
 rw [this];simp
theorem name_step {s:ByteArray} {k:Nat} (hk:k<s.size) (ha:(s.data.toList.take k).all Pt.nameC=true) (h:Pt.nameC s[k]=true):(s.data.toList.take (k+1)).all Pt.nameC=true:=by
 rw [take_snoc s k hk,List.all_append,ha];simp [h]
theorem name_done {s:ByteArray} {k:Nat} (h1:1≤s.size) (h2:s.size≤12) (hk:¬k<s.size) (ha:(s.data.toList.take k).all Pt.nameC=true):Pt.nameB s=true:=by
 rw [List.take_of_length_le (by simp;omega)] at ha
 unfold Pt.nameB;simp [ha,h1,h2]
set_option maxRecDepth 100000 in
set_option maxHeartbeats 800000 in
theorem name_any (s:ByteArray) (w:World):Calls Tryz.prog 85 #[.string s] w fun e w'=>e=.returned (.bool (Pt.nameB s))∧w=w':=by
 by_cases h0:s.size=0
 ·have hf:=Lib.hid (name_none h0)
  have he:=jkv h0
  subst he
  clear h0
  generalize Pt.nameB ⟨#[]⟩=b at *
  go_enter Tryz.func85,Tryz.ntmps85
  go_wp2
  go_step3
  go_wp2
  rw [Exit.noGoto_ret]
  go_ret
  exact ⟨jau hf.out.symm,rfl⟩
 ·have hne:=jhs h0
  by_cases h12:s.size≤12
  ·go_enter Tryz.func85,Tryz.ntmps85
   go_wp2
   go_step3
   go_wp2
   go_step3
   go_wp2
   go_loop [14] (fun i=>∃ k:Nat,k≤s.size∧i=.int .i64 (k:Int)∧Hid ((s.data.toList.take k).all Pt.nameC=true)) (fun i=>s.size-(intOf i).toNat)
   case atStart=>exact ⟨0,Nat.zero_le _,rfl,Lib.hid (by simp)⟩
   case round =>
    obtain ⟨k,hk,rfl,ha⟩:=hrel
    by_cases hlt:k<s.size
    ·have hc8:s[k].toNat<256:=s[k].toNat_lt
     have hk1:=fun h=>name_step hlt ha.out h
     have hk2:=name_stop hlt
     have HY:=Lib.hid hk1
     have HN:=Lib.hid hk2
     clear hk1 hk2 ha
     go_wp2
     all_goals first
      | (go_round
         case rel=>exact ⟨k+1,by omega,by go_num,Lib.hid (HY.out (by first | exact nameC_yes1 ‹_› ‹_› | exact nameC_yes2 ‹_› ‹_› | exact nameC_yes3 ‹_›))⟩
         case measure=>simp [intOf];omega)
      | ((try rw [Exit.noGoto_ret])
         go_ret
         exact ⟨jau (HN.out (nameC_no (by omega) (by omega) ‹_›)).symm,rfl⟩)
    ·have hst:=Lib.hid (name_done (by omega) h12 hlt ha.out)
     clear ha
     go_wp2
     (try rw [Exit.noGoto_ret])
     go_ret
     exact ⟨jau hst.out.symm,rfl⟩
  ·have hf:=Lib.hid (name_much h12)
   generalize Pt.nameB s=b at *
   go_enter Tryz.func85,Tryz.ntmps85
   go_wp2
   go_step3
   go_wp2
   rw [Exit.noGoto_ret]
   go_ret
   exact ⟨jau hf.out.symm,rfl⟩
theorem small_eq (x:Int) (hx:-9223372036854775808≤x∧x≤9223372036854775807):(x==wrap64 (wrap32 x))=Pt.smallB x:=by
 rw [Bool.eq_iff_iff,beq_iff_eq,Pt.smallB_iff]
 have h32:wrap32 x=(x+2147483648) % 4294967296-2147483648:=by unfold wrap32;rfl
 rw [h32,IntWalk.wrap64_in _ ⟨by omega,by omega⟩]
 omega
set_option maxRecDepth 100000 in
theorem small_any (x:Int) (w:World) (hx:-9223372036854775808≤x∧x≤9223372036854775807):Calls Tryz.prog 201 #[.int .i64 x] w fun e w'=>e=.returned (.bool (Pt.smallB x))∧w=w':=by
 have H:=Lib.hid (small_eq x hx)
 clear hx
 generalize Pt.smallB x=b at *
 go_enter Tryz.func201,Tryz.ntmps201
 go_wp2
 go_ret
 exact ⟨jau H.out,rfl⟩
end
section
open Go.RowKit
def Pt.wf (p:Pt.Point):Prop:=(-9223372036854775808≤p.2.1∧p.2.1≤9223372036854775807)∧(-9223372036854775808≤p.2.2∧p.2.2≤9223372036854775807)
set_option maxRecDepth 100000 in
theorem may_any (p:Pt.Point) (w:World) (hp:Pt.wf p):Calls Tryz.prog 143 #[.agg #[.string p.1,.int .i64 p.2.1,.int .i64 p.2.2]] w fun e w'=>e=.returned (.bool (Pt.mayB p))∧Below w.heap.size w w':=by
 obtain ⟨s,t,v⟩:=p
 have H1:=fun W=>Lib.hid (name_any s W)
 have H2:=fun W=>Lib.hid (small_any t W hp.1)
 have H3:=fun W=>Lib.hid (small_any v W hp.2)
 have hm:Pt.mayB (s,t,v)=(Pt.nameB s&&Pt.smallB t&&Pt.smallB v):=rfl
 clear hp
 generalize Pt.mayB (s,t,v)=b at *
 generalize Pt.nameB s=b1 at *
 generalize Pt.smallB t=b2 at *
 generalize Pt.smallB v=b3 at *
 have Hm:=Lib.hid hm
 clear hm
 have hb:=(Below.refl w.heap.size w).alloc (Nat.le_refl _) (.cells #[.string s,.int .i64 t,.int .i64 v] 46)
 cases b1
 ·go_enter Tryz.func143,Tryz.ntmps143
  go_wp2_with fail
  refine (H1 _).out.mono ?_
  rintro e w' ⟨rfl,rfl⟩
  go_wp2_with fail
  go_ret
  exact ⟨jau (by rw [Hm.out];rfl),hb⟩
 ·cases b2
  ·go_enter Tryz.func143,Tryz.ntmps143
   go_wp2_with fail
   refine (H1 _).out.mono ?_
   rintro e w' ⟨rfl,rfl⟩
   go_wp2_with fail
   refine (H2 _).out.mono ?_
   rintro e w' ⟨rfl,rfl⟩
   go_wp2_with fail
   go_ret
   exact ⟨jau (by rw [Hm.out];rfl),hb⟩
  ·go_enter Tryz.func143,Tryz.ntmps143
   go_wp2_with fail
   refine (H1 _).out.mono ?_
   rintro e w' ⟨rfl,rfl⟩
   go_wp2_with fail
   refine (H2 _).out.mono ?_
   rintro e w' ⟨rfl,rfl⟩
   go_wp2_with fail
   refine (H3 _).out.mono ?_
   rintro e w' ⟨rfl,rfl⟩
   go_wp2_with fail
   go_ret
   exact ⟨jau (by rw [Hm.out];rfl),hb⟩
end
section
open Go.RowKit
theorem batch_stop {ps:List Pt.Point} {k:Nat} (hk:k<ps.length) (h:Pt.mayB ps[k]=false):ps.any (fun p=>!Pt.mayB p)=true:=by
 rw [List.any_eq_true]
 exact ⟨ps[k],List.getElem_mem _,by rw [h];rfl⟩
theorem batch_step {ps:List Pt.Point} {k:Nat} (hk:k<ps.length) (ha:(ps.take k).any (fun p=>!Pt.mayB p)=false) (h:Pt.mayB ps[k]=true):(ps.take (k+1)).any (fun p=>!Pt.mayB p)=false:=by
 rw [List.take_succ_eq_append_getElem hk,List.any_append,ha];simp [h]
theorem batch_done {ps:List Pt.Point} {k:Nat} (hk:¬k<ps.length) (ha:(ps.take k).any (fun p=>!Pt.mayB p)=false):ps.any (fun p=>!Pt.mayB p)=false:=by
 rwa [List.take_of_length_le (by omega)] at ha
theorem batch_eq (ps:List Pt.Point):Pt.batchB ps=(decide (ps.length≤8)&&!ps.any (fun p=>!Pt.mayB p)):=by
 unfold Pt.batchB;congr 1
 induction ps with
 | nil=>rfl
 | cons p ps ih=>rw [List.all_cons,List.any_cons,ih];simp
def IdxPost (w:World) (b:Bool) (e:Ending) (w':World):Prop:=∃ i:Int,e=.returned (.int .i64 i)∧decide (0≤i)=b∧Below w.heap.size w w'
theorem batch1_any (p:Pt.Point) (w:World) (hp:Pt.wf p):Calls Tryz.prog 142 #[.agg #[.string p.1,.int .i64 p.2.1,.int .i64 p.2.2]] w fun e w'=>e=.returned (.bool (!Pt.mayB p))∧Below w.heap.size w w':=by
 have H1:=fun W=>Lib.hid (may_any p W hp)
 generalize Pt.mayB p=b at *
 go_enter Tryz.func142,Tryz.ntmps142
 go_wp2_with fail
 refine (H1 _).out.mono ?_
 rintro e w' ⟨rfl,hb⟩
 go_wp2_with fail
 go_ret
 exact ⟨rfl,((Below.refl w.heap.size w).alloc (Nat.le_refl _) _).trans (hb.mono (by simp))⟩
set_option maxRecDepth 100000 in
set_option maxHeartbeats 400000 in
theorem jkr (A:Option Addr) (c:Nat) (ps:List Pt.Point) (w:World) (B:Nat) (hr:Reads w B 3 A ps.length (ps.flatMap jal)) (hB:B≤w.heap.size) (hn:ps.length≤140737488355328) (hwf:∀ p∈ps,Pt.wf p) :
 Calls Tryz.prog 200 #[.slice A ps.length c,.func (.func 142) #[] #[]] w (IdxPost w (ps.any fun p=>!Pt.mayB p)):=by
 have HW:=Lib.hid hwf
 have HR:=Lib.hid hr
 clear hwf hr
 go_enter Tryz.func200,Tryz.ntmps200
 go_wp2
 go_loopw [5,8] (fun _ i wr=>∃ k:Nat,k≤ps.length∧i=.int .i64 (k:Int)∧Hid ((ps.take k).any (fun p=>!Pt.mayB p)=false)∧Hid (Below w.heap.size w wr)) (fun _ i _=>ps.length-(intOf i).toNat)
 case atStart=>exact ⟨0,Nat.zero_le _,rfl,Lib.hid (by simp),Lib.hid (Below.refl _ _)⟩
 case round =>
  obtain ⟨k,hk,rfl,ha,hbw⟩:=hrel
  by_cases hlt:k<ps.length
  ·obtain ⟨b,off,rfl,hbl,hc⟩:=HR.out.2 (by omega)
   have hbw1:=hbw.out
   have hcell0:wr.cell? ⟨b,off+k*3,none⟩=some (.string ps[k].1):=by have:=hc (k*3+0) (.string ps[k].1) (by rw [jbz jal 3 (fun _=>rfl) ps k 0 hlt (by omega)];rfl);rw [hbw1.cell (p:=⟨b,_,none⟩) (show b<_ by omega)];rwa [←Nat.add_assoc] at this
   have hcell1:wr.cell? ⟨b,off+k*3+1,none⟩=some (.int .i64 ps[k].2.1):=by have:=hc (k*3+1) (.int .i64 ps[k].2.1) (by rw [jbz jal 3 (fun _=>rfl) ps k 1 hlt (by omega)];rfl);rw [hbw1.cell (p:=⟨b,_,none⟩) (show b<_ by omega)];rwa [←Nat.add_assoc] at this
   have hcell2:wr.cell? ⟨b,off+k*3+2,none⟩=some (.int .i64 ps[k].2.2):=by have:=hc (k*3+2) (.int .i64 ps[k].2.2) (by rw [jbz jal 3 (fun _=>rfl) ps k 2 hlt (by omega)];rfl);rw [hbw1.cell (p:=⟨b,_,none⟩) (show b<_ by omega)];rwa [←Nat.add_assoc] at this
   have H1:=fun W=>Lib.hid (batch1_any ps[k] W (HW.out _ (List.getElem_mem _)))
   have HS:=Lib.hid fun h=>batch_stop hlt h
   have HG:=Lib.hid fun h=>batch_step hlt ha.out h
   clear hc ha hbw1
   cases hm:Pt.mayB ps[k]
   ·have hF:=Lib.hid (HS.out hm)
    rw [hm] at H1
    clear HS HG hm
    go_wp2_with fail
    refine (H1 _).out.mono ?_
    rintro e w1 ⟨rfl,hb1⟩
    go_wp2_with fail
    go_ret
    exact ⟨_,rfl,by rw [hF.out];simp,hbw.out.trans (hb1.mono hbw.out.size)⟩
   ·have hF:=Lib.hid (HG.out hm)
    rw [hm] at H1
    clear HS HG hm
    go_wp2_with fail
    refine (H1 _).out.mono ?_
    rintro e w1 ⟨rfl,hb1⟩
    go_wp2_with fail
    go_roundw
    case rel=>exact ⟨k+1,by omega,by go_num,hF,Lib.hid (hbw.out.trans (hb1.mono hbw.out.size))⟩
    case measure=>simp [intOf];omega
  ·have hF:=Lib.hid (batch_done hlt ha.out)
   clear ha
   go_wp2_with fail
   go_ret
   exact ⟨_,rfl,by rw [hF.out];rfl,hbw.out⟩
set_option maxRecDepth 100000 in
theorem jgp (A:Option Addr) (c:Nat) (ps:List Pt.Point) (w:World) (B:Nat) (hr:Reads w B 3 A ps.length (ps.flatMap jal)) (hB:B≤w.heap.size) (hn:ps.length≤140737488355328) (hwf:∀ p∈ps,Pt.wf p) :
 Calls Tryz.prog 141 #[.slice A ps.length c,.func (.func 142) #[] #[]] w fun e w'=>e=.returned (.bool (ps.any fun p=>!Pt.mayB p))∧Below w.heap.size w w':=by
 have H1:=fun W=>Lib.hid fun (h:w=W)=>(show Calls Tryz.prog 200 #[.slice A ps.length c,.func (.func 142) #[] #[]] W (IdxPost W (ps.any fun p=>!Pt.mayB p)) from h▸jkr A c ps w B hr hB hn hwf)
 clear hr hwf
 go_enter Tryz.func141,Tryz.ntmps141
 go_wp2_with fail
 refine ((H1 _).out rfl).mono ?_
 rintro e w1 ⟨i,rfl,hi,hb⟩
 have Hi:=Lib.hid hi
 clear hi
 go_wp2_with fail
 go_ret
 exact ⟨jau Hi.out,hb⟩
set_option maxRecDepth 100000 in
theorem jio (A:Option Addr) (c:Nat) (ps:List Pt.Point) (w:World) (B:Nat) (hr:Reads w B 3 A ps.length (ps.flatMap jal)) (hB:B≤w.heap.size) (hn:ps.length≤140737488355328) (hwf:∀ p∈ps,Pt.wf p) :
 Calls Tryz.prog 86 #[.slice A ps.length c] w fun e w'=>e=.returned (.bool (Pt.batchB ps))∧Below w.heap.size w w':=by
 have H1:=Lib.hid (jgp A c ps w B hr hB hn hwf)
 have He:=batch_eq ps
 clear hr hwf
 by_cases h8:ps.length≤8
 ·have HE:Hid (Pt.batchB ps=!ps.any (fun p=>!Pt.mayB p)):=by show _=_;rw [He];simp [h8]
  clear He
  generalize Pt.batchB ps=r at *
  generalize ps.any (fun p=>!Pt.mayB p)=b at *
  go_enter Tryz.func86,Tryz.ntmps86
  go_wp2_with fail
  refine H1.out.mono ?_
  rintro e w1 ⟨rfl,hb⟩
  go_wp2_with fail
  go_ret
  exact ⟨jau HE.out.symm,hb⟩
 ·have HE:Hid (Pt.batchB ps=false):=by show _=_;rw [He];simp [h8]
  clear He
  generalize Pt.batchB ps=r at *
  go_enter Tryz.func86,Tryz.ntmps86
  go_wp2_with fail
  go_ret
  exact ⟨jau HE.out.symm,Below.refl _ _⟩
end
namespace Pt
open Go.Proofs.YtcchekmejnhlmaaGreat
end Pt
section
open Go.RowKit
def Ig.numB (x:Int):Bool:=decide (0≤x)&&decide (x≤2147483647)
def Ig.mayB (v c s n:Int) (ps:List Pt.Point):Bool:=[v,c,s,n].all Ig.numB&&(Pt.batchB ps&&(decide (0<s)||decide (ps.length=0)))
theorem Ig.num_yes {x:Int} (h0:¬x<0) (h1:¬2147483647<x):Ig.numB x=true:=by unfold Ig.numB;simp;omega
theorem Ig.num_no {x:Int} (h:x<0∨2147483647<x):Ig.numB x=false:=by unfold Ig.numB;simp;omega
theorem Ig.may_stop {v c s n:Int} {ps:List Pt.Point} {k:Nat} (hk:k < [v,c,s,n].length) (h:Ig.numB ([v,c,s,n][k])=false):Ig.mayB v c s n ps=false:=by
 unfold Ig.mayB
 have:[v,c,s,n].all Ig.numB=false:=by
  rw [List.all_eq_false];exact ⟨_,List.getElem_mem hk,by rw [h];simp⟩
 rw [this];rfl
theorem Ig.may_go {v c s n:Int} {ps:List Pt.Point} (h:[v,c,s,n].all Ig.numB=true):Ig.mayB v c s n ps=(Pt.batchB ps&&(decide (0<s)||decide (ps.length=0))):=by
 unfold Ig.mayB;rw [h];rfl
set_option maxRecDepth 100000 in
set_option maxHeartbeats 1000000 in
theorem jgg (v c s n:Int) (A:Option Addr) (d:Nat) (ps:List Pt.Point) (w:World) (B:Nat) (hr:Reads w B 3 A ps.length (ps.flatMap jal)) (hB:B≤w.heap.size) (hn:ps.length≤140737488355328) (hwf:∀ p∈ps,Pt.wf p) :
 Calls Tryz.prog 144 #[.agg #[.int .i64 v,.int .i64 c,.int .i64 s,.int .i64 n,.slice A ps.length d]] w fun e w'=>e=.returned (.bool (Ig.mayB v c s n ps))∧Below w.heap.size w w':=by
 have HBt:=fun W (hb:Below w.heap.size w W)=>Lib.hid (jio A d ps W B (hr.below (hb.mono hB)) (by have:=hb.size;omega) hn hwf)
 have HSt:=Lib.hid (fun k hk h=>@Ig.may_stop v c s n ps k hk h)
 have HGo:=Lib.hid (@Ig.may_go v c s n ps)
 clear hr hwf
 generalize Ig.mayB v c s n ps=res at *
 generalize Pt.batchB ps=bt at *
 go_enter Tryz.func144,Tryz.ntmps144
 go_wp2_with fail
 have hE:=(Blk.new w 191 #[.int .i64 v,.int .i64 c,.int .i64 s,.int .i64 n,.slice A ps.length d]).alloc (.cells #[.int .i64 v,.int .i64 c,.int .i64 s,.int .i64 n] 3)
 have hX:=Blk.new (w.alloc (.cells #[.int .i64 v,.int .i64 c,.int .i64 s,.int .i64 n,.slice A ps.length d] 191)) 3 #[.int .i64 v,.int .i64 c,.int .i64 s,.int .i64 n]
 rw [World.size_alloc] at hX
 have hb2:Below w.heap.size w ((w.alloc (.cells #[.int .i64 v,.int .i64 c,.int .i64 s,.int .i64 n,.slice A ps.length d] 191)).alloc (.cells #[.int .i64 v,.int .i64 c,.int .i64 s,.int .i64 n] 3)):=((Below.refl _ _).alloc (Nat.le_refl _) _).alloc (by simp) _
 have HE:=Lib.hid hE
 have HX:=Lib.hid hX
 have Hb2:=Lib.hid hb2
 clear hE hX hb2
 generalize (w.alloc (.cells #[.int .i64 v,.int .i64 c,.int .i64 s,.int .i64 n,.slice A ps.length d] 191)).alloc (.cells #[.int .i64 v,.int .i64 c,.int .i64 s,.int .i64 n] 3)=w2 at *
 go_loopw [4,15] (fun _ i wr=>∃ k:Nat,k≤4∧i=.int .i64 (k:Int)∧Hid (([v,c,s,n].take k).all Ig.numB=true)∧w2=wr) (fun _ i _=>4-(intOf i).toNat)
 case atStart=>exact ⟨0,Nat.zero_le _,rfl,Lib.hid (by simp),rfl⟩
 case round =>
  obtain ⟨k,hk,rfl,ha,rfl⟩:=hrel
  by_cases hlt:k<4
  ·have hlt':k < [v,c,s,n].length:=hlt
   have hcell:w2.cell? ⟨w.heap.size+1,k,none⟩=some (.int .i64 [v,c,s,n][k]):=(HX.out.cell k).trans (by
    rcases (by omega:k=0∨k=1∨k=2∨k=3) with rfl | rfl | rfl | rfl<;>rfl)
   have HS:=Lib.hid (fun h=>HSt.out k hlt' h)
   have HG:Hid (Ig.numB [v,c,s,n][k]=true→([v,c,s,n].take (k+1)).all Ig.numB=true):=fun h=>by
    rw [List.take_succ_eq_append_getElem hlt',List.all_append,ha.out];simp [h]
   clear HSt HGo HBt
   generalize [v,c,s,n][k]=x at *
   by_cases h0:x<0
   ·have Hres:=Lib.hid (HS.out (Ig.num_no (.inl h0)))
    clear HS HG
    go_wp2_with fail
    go_ret
    exact ⟨jau Hres.out.symm,Hb2.out⟩
   ·by_cases h1:2147483647<x
    ·have Hres:=Lib.hid (HS.out (Ig.num_no (.inr h1)))
     clear HS HG
     go_wp2_with fail
     go_ret
     exact ⟨jau Hres.out.symm,Hb2.out⟩
    ·have Hn:=Lib.hid (HG.out (Ig.num_yes h0 h1))
     clear HS HG
     go_wp2_with fail
     go_roundw
     case rel=>exact ⟨k+1,by omega,by go_num,Hn,trivial⟩
     case measure=>simp [intOf];omega
  ·have htk:[v,c,s,n].take k=[v,c,s,n]:=List.take_of_length_le (by simp;omega)
   rw [htk] at ha
   have Hres:=Lib.hid (HGo.out ha.out)
   have c2:=HE.out.cell 2
   have c4:=HE.out.cell 4
   simp only [List.getElem?_toArray,List.getElem?_cons_zero,List.getElem?_cons_succ] at c2 c4
   clear HSt HGo htk ha
   go_wp2_with fail
   refine (HBt w2 Hb2.out).out.mono ?_
   rintro e w3 ⟨rfl,hb3⟩
   have d2:=(hb3.cell (p:=⟨w.heap.size,2,none⟩) HE.out.lt).trans c2
   have d4:=(hb3.cell (p:=⟨w.heap.size,4,none⟩) HE.out.lt).trans c4
   have Hb3:Hid (Below w.heap.size w w3):=Hb2.out.trans (hb3.mono Hb2.out.size)
   clear hb3 c2 c4
   cases bt
   ·go_wp2_with fail
    go_ret
    exact ⟨jau (by rw [Hres.out];first | rfl | (simp;done) | (simp [*];done) | (simp;omega) | (simp [*];omega)),Hb3.out⟩
   ·by_cases hs:0<s
    ·go_wp2_with fail
     go_ret
     exact ⟨jau (by rw [Hres.out];first | rfl | (simp;done) | (simp [*];done) | (simp;omega) | (simp [*];omega)),Hb3.out⟩
    ·by_cases hz:ps.length=0
     ·have hzb:((ps.length:Int)==0)=true:=by simp [hz]
      go_wp2_with fail
      go_ret
      exact ⟨jau (by rw [Hres.out];first | rfl | (simp;done) | (simp [*];done) | (simp;omega) | (simp [*];omega)),Hb3.out⟩
     ·have hzb:((ps.length:Int)==0)=false:=beq_eq_false_iff_ne.2 (by omega)
      go_wp2_with fail
      go_ret
      exact ⟨jau (by rw [Hres.out];first | rfl | (simp;done) | (simp [*];done) | (simp;omega) | (simp [*];omega)),Hb3.out⟩
end
section
open Go.RowKit Go.ChangeShapes Go.WideShapes Go.Deep
def RowData {H α:Type} (d:DataW H) (g:α→DataW H) (xs:List α):Prop:=(d=.nil∧xs=[])∨∃ spare,d=.slice (xs.map g) spare
section
variable {H:Type} {enc:TypeId×Value→H} {P:Program} {w:World}
theorem reach_eq:reachBytes=140737488351232:=by decide
theorem sized_data {α:Type} {g:α→DataW H} {ts:List TypeId} {ds:List (DataW H)} (h:(DataW.weightsEach P ts ds).all (·≤reachBytes)=true) {j:Nat} {t e:TypeId} {d:DataW H} {xs:List α} (ht:ts[j]? =some t) (hd:ds[j]? =some d) (hu:P.underlying t=some (.slice e)) (hs:RowData d g xs) (b:Nat) (hb:P.bytesOf e=b) :
 xs.length*b≤140737488351232:=by
 rcases hs with ⟨_,rfl⟩ | ⟨spare,rfl⟩
 ·simp
 ·have:=sized_slice h ht hd hu
  rw [hb,List.length_map] at this
  have h2:xs.length*b≤(xs.length+spare.length)*b:=Nat.mul_le_mul_right _ (by omega)
  have h3:=reach_eq
  omega
def intData (k:IntKind) (n:Int):DataW H:=.lit (.int k n)
theorem spot_mk {a:Addr} {v:Value} (h:w.cell? (a.add 0)=some v):∃ b off,a=⟨b,off,.none⟩∧b<w.heap.size:=by
 have e0:a.add 0=a:=by unfold Addr.add;simp
 rw [e0] at h
 have hs:=World.cell?_spot h
 obtain ⟨b,off,spot⟩:=a
 subst hs
 refine ⟨b,off,rfl,?_⟩
 rcases Nat.lt_or_ge b w.heap.size with hlt | hge
 ·exact hlt
 ·simp [World.cell?,Array.getElem?_eq_none hge] at h
theorem open_int_list {t e:TypeId} {k:IntKind} {r:Reach} {base:Nat} {sp:Nat→Bool} {held:Bool} {v:Value} {d:DataW H} {p:List MemPlace} (ht:P.underlying t=some (.slice e)) (he:P.underlying e=some (.int k)) (hC:P.cellsOf e=1)
 (hv:Value.okWide P w r base t v) (h:DataW.Trod enc P w 0 sp held t v d p) :
 ∃ (A:Option Addr) (c:Nat) (zs:List Int),v=.slice A zs.length c∧Reads w w.heap.size 1 A zs.length (zs.map (.int k))∧(∀ n∈zs,(Lit.int k n).wf=true)∧RowData d (intData k) zs:=by
 obtain ⟨A,len,cap,rfl⟩:=okWide_slice ht hv
 obtain ⟨fuel,hf⟩:=h
 rcases open_ints ht he hC hf with ⟨hcs,hx⟩ | ⟨a,l,c,zs,hcs,_,hl,hm,hz,hx,hcell,hwz⟩
 ·simp [Value.cells] at hcs
  obtain ⟨rfl,rfl,rfl⟩:=hcs
  simp only [Prod.mk.injEq] at hx
  exact ⟨.none,0,[],rfl,Reads.none_,by simp,.inl ⟨hx.1,rfl⟩⟩
 ·simp [Value.cells] at hcs
  obtain ⟨rfl,rfl,rfl⟩:=hcs
  simp only [Prod.mk.injEq] at hx
  have hlz:len≤zs.length:=by rw [hz];split<;>omega
  have hlen:(zs.take len).length=len:=by rw [List.length_take];omega
  refine ⟨some a,cap,zs.take len,by rw [hlen],?_,fun n hn=>hwz n (List.mem_of_mem_take hn),.inr ⟨_,hx.1⟩⟩
  rw [hlen]
  refine ⟨by simp;omega,fun h0=>?_⟩
  obtain ⟨b,off,rfl,hb⟩:=spot_mk (hcell 0 (by omega))
  refine ⟨b,off,rfl,hb,fun j u hu=>?_⟩
  have hj:j<len:=by have:=(List.getElem?_eq_some_iff.1 hu).1;simp at this;omega
  have:=hcell j (by omega)
  rw [jds] at this
  rw [this,←hu,List.getElem?_map,List.getElem?_take_of_lt hj,List.getD_eq_getElem?_getD,List.getElem?_eq_getElem (by omega)]
  rfl
end
end
section
open Go.RowKit Go.ChangeShapes Go.WideShapes Go.Deep
abbrev Ent:=(Int×Int×Int×Int)×(Option Addr×Nat×List (ByteArray×Int×Int))
def entCells (q:Ent):List Value:=[.int .i64 q.1.1,.int .i64 q.1.2.1,.int .i64 q.1.2.2.1,.int .i64 q.1.2.2.2,.slice q.2.1 q.2.2.2.length q.2.2.1]
def ptCells3 (f:ByteArray×Int×Int):List Value:=[.string f.1,.int .i64 f.2.1,.int .i64 f.2.2]
structure EntOk (w:World) (q:Ent):Prop where
 reads:Reads w w.heap.size 3 q.2.1 q.2.2.2.length (q.2.2.2.flatMap ptCells3)
 pts:∀ f∈q.2.2.2,(Lit.int .i64 f.2.1).wf=true∧(Lit.int .i64 f.2.2).wf=true∧f.1.size≤maxLen
 nums:(Lit.int .i64 q.1.1).wf=true∧(Lit.int .i64 q.1.2.1).wf=true∧(Lit.int .i64 q.1.2.2.1).wf=true∧(Lit.int .i64 q.1.2.2.2).wf=true
section
variable {H:Type} {enc:TypeId×Value→H} {P:Program} {w:World}
end
end
section
open Go.RowKit
theorem wf_int {a:Int} (h:(Lit.int .i64 a).wf=true):-9223372036854775808≤a∧a≤9223372036854775807:=by
 simpa [Lit.wf,IntKind.min,IntKind.max,IntKind.signed,IntKind.bits] using h
end
section
open Go.RowKit
theorem ent_cells {w:World} {B:Nat} {A:Option Addr} {z:List Ent} (h:Reads w B 5 A z.length (z.flatMap entCells)) (j:Nat) (hj:j<z.length):∃ b off,A=some ⟨b,off,none⟩∧b<B ∧
 w.cell? ⟨b,off+j*5,none⟩=some (.int .i64 z[j].1.1)∧w.cell? ⟨b,off+j*5+1,none⟩=some (.int .i64 z[j].1.2.1)∧w.cell? ⟨b,off+j*5+2,none⟩=some (.int .i64 z[j].1.2.2.1)∧w.cell? ⟨b,off+j*5+3,none⟩=some (.int .i64 z[j].1.2.2.2)∧w.cell? ⟨b,off+j*5+4,none⟩=some (.slice z[j].2.1 z[j].2.2.2.length z[j].2.2.1):=by
 obtain ⟨b,off,e,hb,hc⟩:=h.2 (by omega)
 have g:∀ i u,(entCells z[j])[i]? =some u→i<5→w.cell? ⟨b,off+j*5+i,none⟩=some u:=fun i u hu hi=>by
  have:=hc (j*5+i) u (by rw [jbz entCells 5 (fun _=>rfl) z j i hj hi];exact hu)
  rwa [←Nat.add_assoc] at this
 exact ⟨b,off,e,hb,g 0 _ rfl (by omega),g 1 _ rfl (by omega),g 2 _ rfl (by omega),g 3 _ rfl (by omega),g 4 _ rfl (by omega)⟩
theorem ent_pts {w:World} {q:Ent} (h:EntOk w q):Reads w w.heap.size 3 q.2.1 q.2.2.2.length (q.2.2.2.flatMap jal)∧∀ p∈q.2.2.2,Pt.wf p :=
 ⟨h.reads,fun p hp=>by
  obtain ⟨h1,h2,_⟩:=h.pts p hp
  exact ⟨wf_int h1,wf_int h2⟩⟩
end
section
open Go.RowKit
theorem Sv.nil_list:(⟨#[]⟩:ByteArray).toList=[]:=by decide +kernel
def Sv.entB (q:Ent):Bool:=Ig.mayB q.1.1 q.1.2.1 q.1.2.2.1 q.1.2.2.2 q.2.2.2
def Sv.headB (base:Int) (snap:ByteArray) (n:Nat):Bool:=decide (0≤base)&&decide (base≤2147483647)&&decide (snap.size≤65536)&&!(decide (base=0)&&decide (snap.size≠0))&&decide (n≤4096)
def Sv.logB (base:Int) (snap:ByteArray) (es:List Ent):Bool:=Sv.headB base snap es.length&&es.all Sv.entB
theorem Sv.log_no {base:Int} {snap:ByteArray} {es:List Ent} (h:Sv.headB base snap es.length=false):Sv.logB base snap es=false:=by unfold Sv.logB;rw [h];rfl
theorem Sv.log_stop {base:Int} {snap:ByteArray} {es:List Ent} {k:Nat} (hk:k<es.length) (h:Sv.entB es[k]=false):Sv.logB base snap es=false:=by
 unfold Sv.logB
 have:es.all Sv.entB=false:=by rw [List.all_eq_false];exact ⟨_,List.getElem_mem hk,by rw [h];simp⟩
 rw [this,Bool.and_false]
theorem Sv.log_yes {base:Int} {snap:ByteArray} {es:List Ent} (h:Sv.headB base snap es.length=true) (ha:es.all Sv.entB=true):Sv.logB base snap es=true:=by unfold Sv.logB;rw [h,ha];rfl
theorem Sv.all_step {es:List Ent} {k:Nat} (hk:k<es.length) (ha:(es.take k).all Sv.entB=true) (h:Sv.entB es[k]=true):(es.take (k+1)).all Sv.entB=true:=by
 rw [List.take_succ_eq_append_getElem hk,List.all_append,ha];simp [h]
structure LogOk (w:World) (A:Option Addr) (es:List Ent):Prop where
 rd:Reads w w.heap.size 5 A es.length (es.flatMap entCells)
 ok:∀ q∈es,EntOk w q
 big:∀ q∈es,q.2.2.2.length*32≤140737488351232
theorem EntOk.below {w w':World} {q:Ent} (h:EntOk w q) (hb:Below w.heap.size w w'):EntOk w' q:=⟨(h.reads.below hb).more hb.size,h.pts,h.nums⟩
theorem LogOk.below {w w':World} {A:Option Addr} {es:List Ent} (h:LogOk w A es) (hb:Below w.heap.size w w'):LogOk w' A es:=⟨(h.rd.below hb).more hb.size,fun q hq=>(h.ok q hq).below hb,h.big⟩
set_option maxRecDepth 100000 in
set_option maxHeartbeats 2000000 in
theorem jjk (base:Int) (snap:ByteArray) (A:Option Addr) (c:Nat) (es:List Ent) (w:World) (h:LogOk w A es) (hs:snap.size≤maxLen) (hn:es.length*56≤140737488355328) :
 Calls Tryz.prog 87 #[.agg #[.int .i64 base,.string snap,.slice A es.length c]] w fun e w'=>e=.returned (.bool (Sv.logB base snap es))∧Below w.heap.size w w':=by
 have HC:=Lib.hid (ent_cells h.rd)
 have HE:=Lib.hid (fun (j:Nat) (hj:j<es.length)=>And.intro (ent_pts (h.ok es[j] (List.getElem_mem hj))) (h.big es[j] (List.getElem_mem hj)))
 have HNo:=Lib.hid (@Sv.log_no base snap es)
 have HSt:=Lib.hid (fun k hk h=>@Sv.log_stop base snap es k hk h)
 have HYe:=Lib.hid (@Sv.log_yes base snap es)
 have HGo:=Lib.hid (fun k hk ha h=>@Sv.all_step es k hk ha h)
 clear h
 generalize hres:Sv.logB base snap es=res at *
 clear hres
 have hB:=Blk.new w 37 #[.int .i64 base,.string snap,.slice A es.length c]
 have HB:=Lib.hid hB
 have Hb1:Hid (Below w.heap.size w (w.alloc (.cells #[.int .i64 base,.string snap,.slice A es.length c] 37))):=(Below.refl _ _).alloc (Nat.le_refl _) _
 clear hB
 have HM:Hid (∀ W,Below w.heap.size w W→∀ (j:Nat) (hj:j<es.length),Calls Tryz.prog 144 #[.agg #[.int .i64 es[j].1.1,.int .i64 es[j].1.2.1,.int .i64 es[j].1.2.2.1,.int .i64 es[j].1.2.2.2,.slice es[j].2.1 es[j].2.2.2.length es[j].2.2.1]] W fun e w'=>e=.returned (.bool (Sv.entB es[j]))∧Below W.heap.size W w'):=fun W hb j hj=>by
  obtain ⟨⟨h1,h2⟩,h3⟩:=HE.out j hj
  exact jgg _ _ _ _ _ _ _ W w.heap.size (h1.below hb) hb.size (by omega) h2
 clear HE
 cases hhd:Sv.headB base snap es.length
 ·have Hres:=Lib.hid (HNo.out hhd)
  have hcs:base<0∨(¬base<0∧2147483647<base)∨(¬base<0∧¬2147483647<base∧decide ((65536:Int)<(snap.size:Int))=true)∨(¬base<0∧¬2147483647<base∧decide ((65536:Int)<(snap.size:Int))=false∧(base==0)=true∧snap.toList.isEmpty=false)∨(¬base<0∧¬2147483647<base∧decide ((65536:Int)<(snap.size:Int))=false∧(base==0)=false∧decide ((4096:Int)<(es.length:Int))=true)∨(¬base<0∧¬2147483647<base∧decide ((65536:Int)<(snap.size:Int))=false∧(base==0)=true∧snap.toList=[]∧decide ((4096:Int)<(es.length:Int))=true):=by
   by_cases h1:base<0
   ·exact .inl h1
   by_cases h2:2147483647<base
   ·exact .inr (.inl ⟨h1,h2⟩)
   by_cases h3:65536<snap.size
   ·exact .inr (.inr (.inl ⟨h1,h2,decide_eq_true (by omega)⟩))
   have h3':decide ((65536:Int)<(snap.size:Int))=false:=decide_eq_false (by omega)
   have d1:decide (0≤base)=true:=decide_eq_true (by omega)
   have d2:decide (base≤2147483647)=true:=decide_eq_true (by omega)
   have d3:decide (snap.size≤65536)=true:=decide_eq_true (by omega)
   unfold Sv.headB at hhd
   rw [d1,d2,d3] at hhd
   simp only [Bool.true_and] at hhd
   by_cases h4:base=0
   ·by_cases h5:snap.size=0
    ·have h6:4096<es.length:=by
      rcases Nat.lt_or_ge 4096 es.length with h | h
      ·exact h
      ·rw [decide_eq_true h] at hhd;simp [h4,h5] at hhd
     refine .inr (.inr (.inr (.inr (.inr ⟨h1,h2,h3',by simp [h4],?_,decide_eq_true (by omega)⟩))))
     rw [jkv h5];exact Sv.nil_list
    ·exact .inr (.inr (.inr (.inl ⟨h1,h2,h3',by simp [h4],jhs h5⟩)))
   ·have h6:4096<es.length:=by
     rcases Nat.lt_or_ge 4096 es.length with h | h
     ·exact h
     ·rw [decide_eq_true h] at hhd;simp [h4] at hhd
    exact .inr (.inr (.inr (.inr (.inl ⟨h1,h2,h3',by simp [h4],decide_eq_true (by omega)⟩))))
  clear hhd HNo HSt HYe HGo HC HM
  rcases hcs with h1 | ⟨h1,h2⟩ | ⟨h1,h2,h3⟩ | ⟨h1,h2,h3,h4,h5⟩ | ⟨h1,h2,h3,h4,h5⟩ | ⟨h1,h2,h3,h4,h5,h6⟩
  all_goals
   go_enter Tryz.func87,Tryz.ntmps87
   go_wp2_with fail
   go_ret
   exact ⟨jau Hres.out.symm,Hb1.out⟩
 ·have HHd:=Lib.hid hhd
  have hb:(¬base<0∧¬2147483647<base∧decide ((65536:Int)<(snap.size:Int))=false∧decide ((4096:Int)<(es.length:Int))=false)∧es.length≤4096∧(((base==0)=false)∨((base==0)=true∧snap.toList=[])):=by
   unfold Sv.headB at hhd
   simp only [Bool.and_eq_true,decide_eq_true_eq,Bool.not_eq_true',Bool.and_eq_false_iff,decide_eq_false_iff_not] at hhd
   obtain ⟨⟨⟨⟨a1,a2⟩,a3⟩,a4⟩,a5⟩:=hhd
   refine ⟨⟨by omega,by omega,decide_eq_false (by omega),decide_eq_false (by omega)⟩,a5,?_⟩
   by_cases h4:base=0
   ·right
    refine ⟨by simp [h4],?_⟩
    rcases a4 with a4 | a4
    ·exact absurd h4 a4
    ·have h5:snap.size=0:=by omega
     rw [jkv h5];exact Sv.nil_list
   ·left;simp [h4]
  obtain ⟨⟨h1,h2,h3,h6⟩,h7,hcs⟩:=hb
  clear hhd HNo
  rcases hcs with h4 | ⟨h4,h5⟩
  all_goals
   go_enter Tryz.func87,Tryz.ntmps87
   go_wp2_with fail
   go_loopw [4,38] (fun _ i wr=>∃ k:Nat,k≤es.length∧i=.int .i64 (k:Int)∧Hid ((es.take k).all Sv.entB=true)∧Hid (Below w.heap.size w wr)) (fun _ i _=>es.length-(intOf i).toNat)
   case atStart=>exact ⟨0,Nat.zero_le _,rfl,Lib.hid (by simp),Hb1⟩
   case round =>
    obtain ⟨k,hk,rfl,ha,hbw⟩:=hrel
    by_cases hlt:k<es.length
    ·obtain ⟨b,off,rfl,hbl,e0,e1,e2,e3,e4⟩:=HC.out k hlt
     rw [←hbw.out.cell (p:=⟨b,_,none⟩) hbl] at e0 e1 e2 e3 e4
     have HS:=Lib.hid fun h=>HSt.out k hlt h
     have HG:=Lib.hid fun h=>HGo.out k hlt ha.out h
     have HM1:=Lib.hid (fun W hb=>HM.out W hb k hlt)
     clear HSt HGo HM ha HC HYe
     generalize Sv.entB es[k]=eb at *
     go_wp2_with fail
     have hb1:=hbw.out.alloc hbw.out.size (.cells #[.int .i64 es[k].1.1,.int .i64 es[k].1.2.1,.int .i64 es[k].1.2.2.1,.int .i64 es[k].1.2.2.2,.slice es[k].2.1 es[k].2.2.2.length es[k].2.2.1] 191)
     refine (HM1.out _ hb1).mono ?_
     rintro e w3 ⟨rfl,hb3⟩
     have Hb3:=Lib.hid (hb1.trans (hb3.mono hb1.size))
     clear hb1 hb3 HM1
     cases eb
     ·have Hres:=Lib.hid (HS.out rfl)
      clear HS HG
      go_wp2_with fail
      go_ret
      exact ⟨jau Hres.out.symm,Hb3.out⟩
     ·have Ha:=Lib.hid (HG.out rfl)
      clear HS HG
      go_wp2_with fail
      go_roundw
      case rel=>exact ⟨k+1,by omega,by go_num,Ha,Hb3⟩
      case measure=>simp [intOf];omega
    ·have htk:es.take k=es:=List.take_of_length_le (by omega)
     rw [htk] at ha
     have Hres:=Lib.hid (HYe.out HHd.out ha.out)
     clear HSt HGo HM HC HYe htk ha
     go_wp2_with fail
     go_ret
     exact ⟨jau Hres.out.symm,hbw.out⟩
end
section
open Go.RowKit
inductive Tp.K
 | req | rep | pre | ack
def Tp.K.num:Tp.K→Int
 | .req=>0 | .rep=>1 | .pre=>4 | .ack=>5
def Tp.K.flds:Tp.K→List Int
 | .req=>[6,7,12] | .rep=>[6,7,8,2] | .pre=>[0,2,3,5,6,7,12] | .ack=>[0,2]
section
variable {w:World}
theorem jfx {W:World} {g:Nat} (t:TypeId) (cs:Array Value) (h:W.heap.size=g):Blk (W.alloc (.cells cs t)) g t cs:=h▸Blk.new W t cs
def jjz (w:World) (fs:List Int) (e:Ending) (w':World):Prop:=∃ b,e=.returned (.tuple #[.slice (some ⟨b,0,none⟩) fs.length fs.length,.bool true])∧Reads w' w'.heap.size 1 (some ⟨b,0,none⟩) fs.length (fs.map (Value.int .i64))∧Below w.heap.size w w'
set_option maxRecDepth 100000 in
theorem jkk (g k:Nat) (hk:k<11):Calls Tryz.prog 83 #[.pointer (some ⟨g,0,none⟩),.int .i64 (k:Int)] w fun e w'=>e=.returned (.pointer (some ⟨g,k+3,none⟩))∧w=w':=by
 rcases (by omega:k=0∨k=1∨k=2∨k=3∨k=4∨k=5∨k=6∨k=7∨k=8∨k=9∨k=10) with rfl | rfl | rfl | rfl | rfl | rfl | rfl | rfl | rfl | rfl | rfl
 all_goals
  go_enter Tryz.func83,Tryz.ntmps83
  go_wp2_with fail
  go_ret
  exact ⟨rfl,rfl⟩
set_option maxRecDepth 100000 in
theorem jkj (g k:Nat) (hk:11≤k) (hk':k<15):Calls Tryz.prog 83 #[.pointer (some ⟨g,0,none⟩),.int .i64 (k:Int)] w fun e w'=>e=.returned (.pointer none)∧w=w':=by
 rcases (by omega:k=11∨k=12∨k=13∨k=14) with rfl | rfl | rfl | rfl
 all_goals
  go_enter Tryz.func83,Tryz.ntmps83
  go_wp2_with fail
  go_ret
  exact ⟨rfl,rfl⟩
def Tp.K.low:Tp.K→Nat→Int
 | .rep,2=>-1
 | _,_=>0
def Tp.high:Nat→Int
 | 8=>9
 | 9=>4
 | _=>2147483647
set_option maxRecDepth 100000 in
theorem limits_8 (x:Int):Calls Tryz.prog 84 #[.int .i64 x,.int .i64 8] w fun e w'=>e=.returned (.tuple #[.int .i64 0,.int .i64 9])∧w=w':=by
 go_enter Tryz.func84,Tryz.ntmps84
 go_wp2_with fail
 go_ret2
 exact ⟨rfl,rfl⟩
set_option maxRecDepth 100000 in
theorem limits_9 (x:Int):Calls Tryz.prog 84 #[.int .i64 x,.int .i64 9] w fun e w'=>e=.returned (.tuple #[.int .i64 0,.int .i64 4])∧w=w':=by
 go_enter Tryz.func84,Tryz.ntmps84
 go_wp2_with fail
 go_ret2
 exact ⟨rfl,rfl⟩
set_option maxRecDepth 100000 in
theorem limits_rep:Calls Tryz.prog 84 #[.int .i64 1,.int .i64 2] w fun e w'=>e=.returned (.tuple #[.int .i64 (-1),.int .i64 2147483647])∧w=w':=by
 go_enter Tryz.func84,Tryz.ntmps84
 go_wp2_with fail
 go_ret2
 exact ⟨rfl,rfl⟩
set_option maxRecDepth 100000 in
theorem limits_at (x k:Int) (h8:(k==8)=false) (h9:(k==9)=false) (h1:(x==1)=false) (h2:(x==2)=false) (h3:(x==3)=false) (hk:(k==2)=true∨((k==2)=false∧(k==10)=true)∨((k==2)=false∧(k==10)=false)):Calls Tryz.prog 84 #[.int .i64 x,.int .i64 k] w fun e w'=>e=.returned (.tuple #[.int .i64 0,.int .i64 2147483647])∧w=w':=by
 rcases hk with hk | ⟨hk,hk'⟩ | ⟨hk,hk'⟩
 all_goals
  go_enter Tryz.func84,Tryz.ntmps84
  go_wp2_with fail
  go_ret2
  exact ⟨rfl,rfl⟩
set_option maxRecDepth 100000 in
theorem limits_rep' (k:Int) (h8:(k==8)=false) (h9:(k==9)=false) (hk:((k==2)=false∧(k==10)=true)∨((k==2)=false∧(k==10)=false)):Calls Tryz.prog 84 #[.int .i64 1,.int .i64 k] w fun e w'=>e=.returned (.tuple #[.int .i64 0,.int .i64 2147483647])∧w=w':=by
 rcases hk with ⟨hk,hk'⟩ | ⟨hk,hk'⟩
 all_goals
  go_enter Tryz.func84,Tryz.ntmps84
  go_wp2_with fail
  go_ret2
  exact ⟨rfl,rfl⟩
theorem Tp.high_at (k:Nat) (h:k≠8) (h':k≠9):Tp.high k=2147483647:=by unfold Tp.high;split<;>simp_all
theorem jak {k m:Nat} (h:k≠m):((k:Int)==(m:Int))=false:=beq_eq_false_iff_ne.2 (by omega)
theorem jcm {k m:Nat} (h:k=m):((k:Int)==(m:Int))=true:=beq_iff_eq.2 (by omega)
end
end
section
open Go.RowKit
def Tp.Msg.fld (m:Tp.Msg):Nat→Int
 | 0=>m.view | 1=>m.normal | 2=>m.at_ | 3=>m.commit | 4=>m.round | 5=>m.client | 6=>m.session | 7=>m.number | 8=>m.code | 9=>m.agg | _=>m.until_
def Tp.K.clientFrom:Tp.K→Bool
 | .req=>true | _=>false
def Tp.K.clientTo:Tp.K→Bool
 | .rep=>true | _=>false
def Tp.whoOk (c:Bool) (x:Int):Prop:=if c then 100≤x∧x<108 else 0≤x∧x<7
structure Tp.Ok (q:Tp.K) (m:Tp.Msg):Prop where
 kind:m.kind=q.num
 frm:Tp.whoOk q.clientFrom m.frm
 to:Tp.whoOk q.clientTo m.to
 has:∀ k:Nat,k<11→(k:Int)∉q.flds→m.fld k=0
 low:∀ k:Nat,k<11→q.low k≤m.fld k
 high:∀ k:Nat,k<11→m.fld k≤Tp.high k
theorem reads1_cell {w:World} {B b n:Nat} {xs:List Value} {k:Nat} {u:Value} (h:Reads w B 1 (some ⟨b,0,none⟩) n xs) (hk:k<n) (hu:xs[k]? =some u):w.cell? ⟨b,k,none⟩=some u:=by
 obtain ⟨b',off,e,hb,hc⟩:=h.2 (by omega)
 injection e with e
 injection e with e1 e2 e3
 subst e1 e2
 have:=hc k u hu
 rwa [Nat.zero_add] at this
def Tp.hasL (fs:List Int):Array Value:=((List.range 15).map fun j:Nat=>Value.bool (decide ((j:Int)∈fs))).toArray
theorem Tp.hasL_nil:Tp.hasL []=#[.bool false,.bool false,.bool false,.bool false,.bool false,.bool false,.bool false,.bool false,.bool false,.bool false,.bool false,.bool false,.bool false,.bool false,.bool false]:=by rfl
theorem Tp.hasL_at (fs:List Int) (j:Nat) (hj:j<15):(Tp.hasL fs)[j]? =some (.bool (decide ((j:Int)∈fs))):=by simp [Tp.hasL,hj]
theorem Tp.hasL_put (fs:List Int) (j:Nat) (hj:j<15):(Tp.hasL fs).setIfInBounds j (.bool true)=Tp.hasL (fs++[(j:Int)]):=by
 apply Array.ext_getElem?
 intro i
 rw [Array.getElem?_setIfInBounds]
 by_cases h:j=i
 ·subst h
  rw [if_pos rfl,Tp.hasL_at _ _ hj,if_pos (by simpa [Tp.hasL] using hj)]
  simp
 ·rw [if_neg h]
  by_cases hi:i<15
  ·rw [Tp.hasL_at _ _ hi,Tp.hasL_at _ _ hi]
   have:((i:Int)∈fs++[(j:Int)])↔(i:Int)∈fs:=by simp;omega
   simp [this]
  ·have l:∀ fs,(Tp.hasL fs).size=15:=fun _=>by simp [Tp.hasL]
   rw [Array.getElem?_eq_none (by rw [l];omega),Array.getElem?_eq_none (by rw [l];omega)]
section
variable {w:World}
end
end
end Go.Proofs.YtcchekmejnhlmaaGreat
