/- Joined texts. -/
import Derived.Test.YtcchekmejnhlmaaGreatK4
import Derived.Test.YtcchekmejnhlmaaGreatK5
import Derived.Test.YtcchekmejnhlmaaGreatK6
import Derived.Deep.LoopGhost
import Derived.Deep.RegionHeld3
import Derived.Deep.AppendLies
namespace Go.Proofs.YtcchekmejnhlmaaGreat
set_option linter.unusedVariables false
set_option maxHeartbeats 4000000
section
open Go.RowKit
end
section
open Go.RowKit
end
section
open Go.RowKit
end
section
open Go.RowKit
end
section
open Go.RowKit
def Sg.mark:ByteArray:=⟨#[83,69,71,49]⟩
def Sg.names (ps:List Pt.Point):List ByteArray:=ps.map fun p=>p.1
def Sg.times (ps:List Pt.Point):List Int:=ps.map fun p=>p.2.1
def Sg.vals (ps:List Pt.Point):List Int:=ps.map fun p=>p.2.2
def Sg.bodyB (r:Int) (ps:List Pt.Point):ByteArray:=Sg.mark++Wr.putB r++Wr.putB (ps.length:Int)++Cl.textsB (Sg.names ps)++Cl.intsB (Sg.times ps)++Cl.intsB (Sg.vals ps)
def Sg.fileB (b:ByteArray):ByteArray:=b++Sg.tailB (Sm.hashL b.data.toList)
def Sg.putR (r:Int) (ps:List Pt.Point):ByteArray×Int:=if r<1∨512<r then (⟨#[]⟩,1302) else if Sg.riseB ps then (Sg.fileB (Sg.bodyB r ps),0) else (⟨#[]⟩,1300)
structure Rows3 (base:Nat) (vn vt vv:Value) (N:List ByteArray) (T V:List Int) (w:World):Prop where
 n:w.ownsRow base 9 1 vn N.length (N.map Value.string)
 t:w.ownsRow base 3 1 vt T.length (T.map (Value.int .i64))
 v:w.ownsRow base 3 1 vv V.length (V.map (Value.int .i64))
 ne:∀ g,vt.ownBlock=some g→vv.ownBlock≠some g
section
variable {base:Nat} {vn vt vv v':Value} {N:List ByteArray} {T V:List Int} {w w':World}
end
end
section
open Go.RowKit
section
variable {base:Nat} {vn vt vv:Value} {N:List ByteArray} {T V:List Int} {w w':World}
theorem Rows3.only (h:Rows3 base vn vt vv N T V w) {S:Nat→Prop} (ho:Only S w w') (hn:∀ g,vn.ownBlock=some g→¬S g) (ht:∀ g,vt.ownBlock=some g→¬S g) (hv:∀ g,vv.ownBlock=some g→¬S g):Rows3 base vn vt vv N T V w':=⟨jbb h.n ho hn,jbb h.t ho ht,jbb h.v ho hv,h.ne⟩
variable {ops:Array Oper} {o:Oper} {a:Act} {K:Act→World→Prop} {Q:Exit→Act→World→Prop} {E:Prop}
end
end
section
open Go.RowKit
section
variable {s:ByteArray} {a to:Int} {n k:Nat} (hn:n≤65536) (ha:0≤a∧a≤(s.size:Int)) (hg:Wr.getN s.data.toList a=((k:Int),to,0)) (hk:k≤n)
include hn ha hg hk
end
end
section
open Go.RowKit
end
section
open Go.RowKit
end
section
open Go.RowKit
theorem sg_cell_keep {w:World} {p:Addr} {u:Value} (o:Obj) (h:w.cell? p=some u):(w.alloc o).cell? p=some u:=(World.cell?_alloc_lt w o p (World.block_lt_of_cell? w _ h)).trans h
end
section
open Go.RowKit
theorem jeb {w:World} {base:Nat} {e:TypeId} {size n:Nat} {v:Value} {xs:List Value} (h:w.ownsRow base e size v n xs) {p:Addr} (hp:v.ownBlock≠some p.block) (u:Value):(w.setCell p u).ownsRow base e size v n xs :=
 jbb (S:=fun j=>j=p.block) h ((Only.refl (fun j=>j=p.block) w).setCell (p:=p) (fun _=>rfl) u) (fun g hg e=>hp (by rw [hg,e]))
abbrev Tp.Ent:=Int×Int×Int×Int
def Tp.entCells (e:Tp.Ent):List Value:=[.int .i64 e.1,.int .i64 e.2.1,.int .i64 e.2.2.1,.int .i64 e.2.2.2,.slice none 0 0]
def Tp.entV (e:Tp.Ent):Value:=.agg #[.int .i64 e.1,.int .i64 e.2.1,.int .i64 e.2.2.1,.int .i64 e.2.2.2,.slice none 0 0]
theorem Tp.ent_one (xs:List Tp.Ent):∀ u∈xs.flatMap Tp.entCells,u.oneCell'=true:=by
 intro u hu
 obtain ⟨x,_,hx⟩:=List.mem_flatMap.1 hu
 unfold Tp.entCells at hx
 simp only [List.mem_cons,List.not_mem_nil,or_false] at hx
 rcases hx with rfl | rfl | rfl | rfl | rfl<;>rfl
theorem Tp.ent_one1 (e:Tp.Ent):∀ u∈Tp.entCells e,u.oneCell'=true:=by
 intro u hu
 exact Tp.ent_one [e] u (by simpa using hu)
theorem jid:(Tryz.prog.info? 46).map (fun i=>(i.zero,i.size,i.bytes))=some (some (.agg #[.string ⟨#[]⟩,.int .i64 0,.int .i64 0]),3,32):=by kernel_rfl
theorem info_entry:(Tryz.prog.info? 191).map (fun i=>(i.zero,i.size,i.bytes))=some (some (.agg #[.int .i64 0,.int .i64 0,.int .i64 0,.int .i64 0,.slice none 0 0]),5,56):=by kernel_rfl
theorem jdz (W:World) (ty:TypeId):(Builtin.append_ #[34,34] ty #[.slice none 0 0,.slice none 0 0]).run Tryz.prog W=.ok (.slice none 0 0) W:=by
 obtain ⟨i0,hi,hz0,hz1,hz2⟩:=info_parts jid
 exact jcw W 0 _ ty 46 i0 3 Tryz.underlying34 hi _ 0 [] (jcu _ _ _ _) 0
section
variable {w:World}
set_option maxRecDepth 100000 in
set_option maxHeartbeats 1000000 in
theorem jjc (e:Tp.Ent):Calls Tryz.prog 122 #[Tp.entV e] w fun x w'=>x=.returned (Tp.entV e)∧Below w.heap.size w w':=by
 obtain ⟨v,c,s,n⟩:=e
 unfold Tp.entV
 have hap:=jdz
 go_enter Tryz.func122,Tryz.ntmps122
 go_wp2_with fail
 refine bodyPost_ret (v:=.agg #[.int .i64 v,.int .i64 c,.int .i64 s,.int .i64 n,.slice none 0 0]) (by simp [results,Tryz.results122,go_sem]) rfl ?_
 exact ⟨rfl,((Below.refl _ _).alloc (Nat.le_refl _) _).alloc (by simp) _⟩
end
section
variable {P:Program} {ops:Array Oper} {o:Oper} {a:Act} {K:Act→World→Prop} {Q:Exit→Act→World→Prop} {E:Prop}
theorem jed (w:World) (hgd:o.guard=none) (s x:Operand) (t:TypeId) (ho:o.op=.call { callee:=.builtin .append,args:=#[s,x],argTypes:=#[t,t] })
 (base:Nat) (e:TypeId) (i:TypeInfo) (z:Value) (size bytes:Nat) (ht:P.underlying t=some (.slice e)) (hi:P.info? e=some i) (hz:i.zero=some z)
 (hsize:i.size=size) (hby:i.bytes=bytes) (hzs:z.cells.size=size) (hsz:0<size)
 (v:Value) (n:Nat) (xs:List Value) (hs:a.eval s=v) (hown:w.ownsRow base e size v n xs)
 (g:Nat) (news:List Value) (hx:a.eval x=.slice (some ⟨g,0,none⟩) 1 1) (hl:news.length=size) (hnews:Blk w g e news.toArray) (h1:∀ u∈news,u.oneCell'=true)
 (h63:n+1≤maxLen) (hbytes:(n+1)*bytes≤140737488355328) (hbase:base≤w.heap.size) (H:Nat) (hH:w.heap.size=H)
 (h:∀ gg cap w',w'.ownsRow base e size (.slice (some ⟨gg,0,none⟩) (n+1) cap) (n+1) (xs++news)→w.grownBy w' v.ownBlock→(v.ownBlock=some gg∨gg=H)→K (a.put o.dst (.slice (some ⟨gg,0,none⟩) (n+1) cap)) w') :
 if Region.wanted o (yielded ops a.tmps)=true then Oper.wp P o a w K Q else E :=
 step_append_lies _ hgd s x _ ho base e i z size bytes ht hi hz hsize hby hzs hsz v n xs hs hown ⟨g,0,none⟩ 1 1 news hx (by omega) (fun j u hu=>by rw [jds,Nat.zero_add];exact (hnews.cell j).trans (by simpa using hu)) h1 (by omega) h63 hbytes hbase H hH (fun gg cap w' a b c _=>h gg cap w' a b c)
end
theorem Tp.ent_cells {w wr:World} {b off k:Nat} {es:List Tp.Ent} (hlt:k<es.length) (hc:∀ j u,(es.flatMap Tp.entCells)[j]? =some u→w.cell? ⟨b,off+j,none⟩=some u) (hk:∀ p:Addr,p.block=b→wr.cell? p=w.cell? p) :
 wr.cell? ⟨b,off+k*5,none⟩=some (.int .i64 es[k].1)∧wr.cell? ⟨b,off+k*5+1,none⟩=some (.int .i64 es[k].2.1)∧wr.cell? ⟨b,off+k*5+2,none⟩=some (.int .i64 es[k].2.2.1)∧wr.cell? ⟨b,off+k*5+3,none⟩=some (.int .i64 es[k].2.2.2)∧wr.cell? ⟨b,off+k*5+4,none⟩=some (.slice none 0 0):=by
 have g:∀ i u,(Tp.entCells es[k])[i]? =some u→i<5→wr.cell? ⟨b,off+k*5+i,none⟩=some u:=fun i u hu hi=>by
  rw [hk _ rfl]
  have:=hc (k*5+i) u (by rw [jbz Tp.entCells 5 (fun _=>rfl) es k i hlt hi];exact hu)
  rwa [←Nat.add_assoc] at this
 exact ⟨g 0 _ rfl (by omega),g 1 _ rfl (by omega),g 2 _ rfl (by omega),g 3 _ rfl (by omega),g 4 _ rfl (by omega)⟩
section
variable {w:World}
def Tp.LogPost (w:World) (base:Int) (snap:ByteArray) (es:List Tp.Ent) (e:Ending) (w':World):Prop:=∃ v,e=.returned (.agg #[.int .i64 base,.string snap,v])∧w'.ownsRow w.heap.size 191 5 v es.length (es.flatMap Tp.entCells)∧Below w.heap.size w w'∧(es.length=0→v=.slice none 0 0)
set_option maxRecDepth 100000 in
set_option maxHeartbeats 1000000 in
theorem cloneLog_any (base:Int) (snap:ByteArray) (A:Option Addr) (c:Nat) (es:List Tp.Ent) (hr:Reads w w.heap.size 5 A es.length (es.flatMap Tp.entCells)) (hn:es.length≤1000000) :
 Calls Tryz.prog 66 #[.agg #[.int .i64 base,.string snap,.slice A es.length c]] w (Tp.LogPost w base snap es):=by
 obtain ⟨i0,hi,hz0,hz1,hz2⟩:=info_parts info_entry
 have HRd:=Lib.hid hr
 clear hr
 go_enter Tryz.func66,Tryz.ntmps66
 go_wp2_with fail
 go_loopw [5,14] (fun _ i wr=>∃ (k:Nat) (v:Value),k≤es.length∧i=.int .i64 (k:Int)∧Hid (k=0→v=.slice none 0 0)∧Hid (Blk wr (w.heap.size+1+1) 37 #[.int .i64 base,.string snap,v])∧Hid (wr.ownsRow (w.heap.size+1+1+1) 191 5 v k ((es.take k).flatMap Tp.entCells))∧Hid (Below w.heap.size w wr)∧w.heap.size+1+1<wr.heap.size∧∃ z,Hid (Blk wr (w.heap.size+1) 37 #[.int .i64 0,.string ⟨#[]⟩,z])) (fun _ i _=>es.length-(intOf i).toNat)
 case atStart=>exact ⟨0,.slice none 0 0,Nat.zero_le _,rfl,Lib.hid (fun _=>rfl),jfx _ _ (by simp),Lib.hid (by simpa using jcu _ _ _ _),(((Below.refl _ _).alloc (Nat.le_refl _) _).alloc (by simp) _).alloc (by simp;omega) _,by simp,.slice none 0 0,(jfx _ _ (by simp)).alloc _⟩
 case round =>
  obtain ⟨k,v,hk,rfl,Hn0,HB,HO,Hb,hlt2,zz,HZ⟩:=hrel
  by_cases hlt:k<es.length
  ·obtain ⟨b,off,rfl,hbl,hc⟩:=HRd.out.2 (by omega)
   obtain ⟨e0,e1,e2,e3,e4⟩:=Tp.ent_cells (wr:=wr) hlt hc (fun p hp=>Hb.out.cell (p:=p) (by rw [hp];exact hbl))
   have hsn:(es.take (k+1)).flatMap Tp.entCells=(es.take k).flatMap Tp.entCells++Tp.entCells es[k]:=by rw [List.take_succ_eq_append_getElem hlt,List.flatMap_append];simp
   have Hsn:=Lib.hid hsn
   clear hc hsn
   have hv:v.ownBlock≠some (w.heap.size+1+1):=fun q=>by have:=(jcf HO.out q).1;omega
   generalize es[k]=x at *
   have HCE:=fun W=>Lib.hid (jjc (w:=W) x)
   obtain ⟨a0,a1,a2,a3⟩:=x
   simp only at e0 e1 e2 e3
   unfold Tp.entV at HCE
   simp only at HCE
   have c2:wr.cell? ⟨w.heap.size+1+1,2,none⟩=some v:=HB.out.cell 2
   have f2:wr.frozen? ⟨w.heap.size+1+1,2,none⟩=false:=HB.out.frozen 2
   go_wp2_with fail
   have hgo:w.heap.size+1+1≠wr.heap.size:=by omega
   have HB3:=Lib.hid (HB.out.alloc (.cells #[.int .i64 a0,.int .i64 a1,.int .i64 a2,.int .i64 a3,.slice none 0 0] 191))
   have HO3:=Lib.hid (HO.out.alloc (.cells #[.int .i64 a0,.int .i64 a1,.int .i64 a2,.int .i64 a3,.slice none 0 0] 191))
   have HZ3:=Lib.hid (HZ.out.alloc (.cells #[.int .i64 a0,.int .i64 a1,.int .i64 a2,.int .i64 a3,.slice none 0 0] 191))
   have Hb3:=Lib.hid (Hb.out.alloc Hb.out.size (.cells #[.int .i64 a0,.int .i64 a1,.int .i64 a2,.int .i64 a3,.slice none 0 0] 191))
   have HE3:Hid (Blk (wr.alloc (.cells #[.int .i64 a0,.int .i64 a1,.int .i64 a2,.int .i64 a3,.slice none 0 0] 191)) wr.heap.size 191 #[.int .i64 a0,.int .i64 a1,.int .i64 a2,.int .i64 a3,.slice none 0 0]):=Blk.new _ _ _
   have hve:∀ q,v.ownBlock=some q→q<wr.heap.size:=fun q hq=>(jcf HO.out hq).2
   have hs3:wr.heap.size<(wr.alloc (.cells #[.int .i64 a0,.int .i64 a1,.int .i64 a2,.int .i64 a3,.slice none 0 0] 191)).heap.size:=by simp
   clear e0 e1 e2 e3 e4 c2 f2 HB HO HZ
   generalize wr.alloc (.cells #[.int .i64 a0,.int .i64 a1,.int .i64 a2,.int .i64 a3,.slice none 0 0] 191)=w3 at *
   generalize wr.heap.size=ge at *
   have HS:Hid (∀ W,Only (fun k=>v.ownBlock=some k) w3 W→W.cell? ⟨w.heap.size+1+1,2,none⟩=some v∧W.cell? ⟨ge,0,none⟩=some (.int .i64 a0)∧W.cell? ⟨ge,1,none⟩=some (.int .i64 a1)∧W.cell? ⟨ge,2,none⟩=some (.int .i64 a2)∧W.cell? ⟨ge,3,none⟩=some (.int .i64 a3)∧W.cell? ⟨ge,4,none⟩=some (.slice none 0 0)):=fun W ho=>by
    have h1:=HB3.out.only ho hv
    have h2:=HE3.out.only ho (fun q=>by have:=hve _ q;omega)
    exact ⟨h1.cell 2,h2.cell 0,h2.cell 1,h2.cell 2,h2.cell 3,h2.cell 4⟩
   refine jan (S:=(fun W=>W.cell? ⟨w.heap.size+1+1,2,none⟩=some v∧W.cell? ⟨ge,0,none⟩=some (.int .i64 a0)∧W.cell? ⟨ge,1,none⟩=some (.int .i64 a1)∧W.cell? ⟨ge,2,none⟩=some (.int .i64 a2)∧W.cell? ⟨ge,3,none⟩=some (.int .i64 a3)∧W.cell? ⟨ge,4,none⟩=some (.slice none 0 0))) [7] (by kernel_rfl) ?_ (fun hHeld=>?_)
   ·exact HS.out _ ((Only.refl _ _).drew)
   refine tK 0 18 (v:=?_) rfl ?_ ?_;rotate_left 1;(focus intro w hSw;(try dsimp only at hSw);go_simp;try with_reducible rfl);try simp only [Act.put,zsA,zsB,zsC]
   refine tK 1 19 (v:=?_) rfl ?_ ?_;rotate_left 1;(focus intro w hSw;(try dsimp only at hSw);go_simp;try with_reducible rfl);try simp only [Act.put,zsA,zsB,zsC]
   refine tK 2 20 (v:=?_) rfl ?_ ?_;rotate_left 1;(focus intro w hSw;(try dsimp only at hSw);go_simp;try with_reducible rfl);try simp only [Act.put,zsA,zsB,zsC]
   refine jah (i:=3) (o:=⟨some 21,_,_,_,_,_⟩) (by kernel_rfl) rfl (fun K' hK=>?_)
   go_simp
   ((with_reducible refine (HCE _).out.mono ?_);rintro e w5 ⟨rfl,hb5⟩;have HO5:Hid (Only (fun k=>v.ownBlock=some k) w3 w5):=((Only.refl _ w3).drew).trans (Only.new (fun k=>v.ownBlock=some k) hb5) (fun _ _ h=>h);have HR5:=Lib.hid (jbb (show w3.drew.ownsRow _ _ _ _ _ _ from HO3.out) (Only.new (fun _=>False) hb5) (fun _ _ h=>h));clear hb5)
   go_wp2_with fail
   refine hK.out _ _ (fun _=>?_) (fun hHeld'=>?_)
   ·exact HS.out _ HO5.out
   have hHeld:=hHeld' rfl
   clear hK K'
   try simp only [Act.put,zsA,zsB,zsC]
   refine jah (i:=4) (o:=⟨some 22,_,_,_,_,_⟩) (by kernel_rfl) rfl (fun K' hK=>?_)
   go_simp
   refine hK.out _ _ (fun _=>?_) (fun hHeld'=>?_)
   ·exact HS.out _ (HO5.out.alloc _)
   have hHeld:=hHeld' rfl
   clear hK K'
   try simp only [Act.put,zsA,zsB,zsC]
   refine jah (i:=5) (o:=⟨some 23,_,_,_,_,_⟩) (by kernel_rfl) rfl (fun K' hK=>?_)
   (refine jed (o:=⟨some 23,_,_,_,_,_⟩) _ rfl (.tmp 19) (.tmp 22) 35 (by rfl) (w.heap.size+1+1+1) 191 i0 _ 5 56 Tryz.underlying35 hi hz0 hz1 hz2 rfl (by decide) v k _ (by rfl) (HR5.out.alloc _) w5.heap.size (Tp.entCells (a0,a1,a2,a3)) (by rfl) rfl (Blk.new w5 _ _) (Tp.ent_one1 _) (by unfold maxLen;omega) (by omega) (by have:=HO5.out.size;simp;omega) _ rfl ?_;intro gg cap w6 hown6 hgr6 hat6;have HO6:Hid (Only (fun k=>v.ownBlock=some k) w3 w6):=(HO5.out.alloc _).trans (Only.of_grown (S:=fun k=>v.ownBlock=some k) hgr6 (fun k hk _=>hk)) (fun _ _ h=>h);have f2:=(HB3.out.only HO6.out hv).frozen 2;have c2:=(HB3.out.only HO6.out hv).cell 2)
   refine hK.out _ _ (fun _=>?_) (fun hHeld'=>?_)
   ·exact HS.out _ HO6.out
   have hHeld:=hHeld' rfl
   clear hK K'
   try simp only [Act.put,zsA,zsB,zsC]
   refine tK 6 24 (v:=?_) rfl ?_ ?_;rotate_left 1;(focus intro w hSw;(try dsimp only at hSw);go_simp;try with_reducible rfl);try simp only [Act.put,zsA,zsB,zsC]
   refine jah (i:=7) (o:=⟨none,_,_,_,_,_⟩) (by kernel_rfl) rfl (fun K' hK=>?_)
   go_simp
   refine hK.out _ _ (fun h=>absurd h (by decide)) (fun _=>?_)
   clear hK K'
   try simp only [Act.put]
   refine jao (by kernel_rfl) ?_ _
   have HBn:Hid (Blk (w6.setCell ⟨w.heap.size+1+1,2,none⟩ (.slice (some ⟨gg,0,none⟩) (k+1) cap)) (w.heap.size+1+1) 37 #[.int .i64 base,.string snap,.slice (some ⟨gg,0,none⟩) (k+1) cap]):=(HB3.out.only HO6.out hv).set_ 2 _
   have hgg:w.heap.size+1+1+1≤gg:=by
    rcases hat6 with q | q
    ·exact (jcf HO3.out q).1
    ·have:=HO5.out.size;rw [q];simp;omega
   have HOn:Hid ((w6.setCell ⟨w.heap.size+1+1,2,none⟩ (.slice (some ⟨gg,0,none⟩) (k+1) cap)).ownsRow (w.heap.size+1+1+1) 191 5 (.slice (some ⟨gg,0,none⟩) (k+1) cap) (k+1) ((es.take (k+1)).flatMap Tp.entCells)):=by
    have:=jeb hown6 (p:=⟨w.heap.size+1+1,2,none⟩) (by intro q;have:gg=w.heap.size+1+1:=(by simpa [Value.ownBlock] using q);omega) (.slice (some ⟨gg,0,none⟩) (k+1) cap)
    show World.ownsRow _ _ _ _ _ _ _
    rw [Hsn.out];exact this
   have Hbn:Hid (Below w.heap.size w (w6.setCell ⟨w.heap.size+1+1,2,none⟩ (.slice (some ⟨gg,0,none⟩) (k+1) cap))):=(Hb3.out.trans (HO6.out.below (B:=w.heap.size) (fun j hj q=>by have:=(jcf HO3.out q).1;omega) Hb3.out.size)).setCell (p:=⟨w.heap.size+1+1,2,none⟩) (by simp;omega) _
   have HZn:Hid (Blk (w6.setCell ⟨w.heap.size+1+1,2,none⟩ (.slice (some ⟨gg,0,none⟩) (k+1) cap)) (w.heap.size+1) 37 #[.int .i64 0,.string ⟨#[]⟩,zz]):=(HZ3.out.only HO6.out (fun q=>by have:=(jcf HO3.out q).1;omega)).far (by simp) _
   have hsn:w.heap.size+1+1<(w6.setCell ⟨w.heap.size+1+1,2,none⟩ (.slice (some ⟨gg,0,none⟩) (k+1) cap)).heap.size:=HBn.out.lt
   clear HB3 HO3 HZ3 Hb3 HE3 HS HO5 HR5 HO6 f2 c2 hown6 hgr6 hHeld hHeld'
   generalize w6.setCell ⟨w.heap.size+1+1,2,none⟩ (.slice (some ⟨gg,0,none⟩) (k+1) cap)=w7 at *
   go_wp2_with fail
   go_roundw
   case rel=>exact ⟨k+1,_,by omega,by go_num,Lib.hid (fun h=>absurd h (by omega)),HBn,HOn,Hbn,hsn,zz,HZn⟩
   case measure=>simp [intOf];omega
  ·have hlt':¬(k:Int)<(es.length:Int):=by omega
   have hke:k=es.length:=by omega
   obtain ⟨A1,c1',rfl,_,_⟩:=jar HO.out
   have c0:wr.cell? ⟨w.heap.size+1+1,0,none⟩=some (.int .i64 base):=HB.out.cell 0
   have c1:wr.cell? ⟨w.heap.size+1+1,1,none⟩=some (.string snap):=HB.out.cell 1
   have c2:wr.cell? ⟨w.heap.size+1+1,2,none⟩=some (.slice A1 k c1'):=HB.out.cell 2
   have z0:wr.cell? ⟨w.heap.size+1,0,none⟩=some (.int .i64 0):=HZ.out.cell 0
   have z1:wr.cell? ⟨w.heap.size+1,1,none⟩=some (.string ⟨#[]⟩):=HZ.out.cell 1
   have z2:wr.cell? ⟨w.heap.size+1,2,none⟩=some zz:=HZ.out.cell 2
   have f0:=HZ.out.frozen 0
   have f1:=HZ.out.frozen 1
   have f2:=HZ.out.frozen 2
   have hrow:wr.ownsRow w.heap.size 191 5 (.slice A1 k c1') k (es.flatMap Tp.entCells):=by have:=jkg HO.out (show w.heap.size≤w.heap.size+1+1+1 by omega);rwa [List.take_of_length_le (by omega:es.length≤k)] at this
   have Hke:=Lib.hid hke
   have Hrow:=Lib.hid hrow
   clear hrow HRd hke
   go_wp2_with fail
   have HW:=((HZ.out.set_ 0 (.int .i64 base)).set_ 1 (.string snap)).set_ 2 (.slice A1 k c1')
   have d0:=(HW.cell 0).trans (show _=some (Value.int .i64 base) from rfl)
   have d1:=(HW.cell 1).trans (show _=some (Value.string snap) from rfl)
   have d2:=(HW.cell 2).trans (show _=some (Value.slice A1 k c1') from rfl)
   refine bodyPost_ret (v:=.agg #[.int .i64 base,.string snap,.slice A1 k c1']) (by simp [results,Tryz.results66,go_sem,d0,d1,d2]) rfl ?_
   refine ⟨_,rfl,?_,((Hb.out.setCell (p:=⟨w.heap.size+1,0,none⟩) (by simp) _).setCell (p:=⟨w.heap.size+1,1,none⟩) (by simp) _).setCell (p:=⟨w.heap.size+1,2,none⟩) (by simp) _,fun h=>Hn0.out (by rw [Hke.out];exact h)⟩
   rw [←Hke.out]
   exact jeb (jeb (jeb Hrow.out (p:=⟨w.heap.size+1,0,none⟩) (by intro q;have:=(jcf HO.out q).1;simp at this;omega) _) (p:=⟨w.heap.size+1,1,none⟩) (by intro q;have:=(jcf HO.out q).1;simp at this;omega) _) (p:=⟨w.heap.size+1,2,none⟩) (by intro q;have:=(jcf HO.out q).1;simp at this;omega) _
theorem jaj:(Tryz.prog.info? 39).map (·.size)=some 20:=by kernel_rfl
theorem info_log:(Tryz.prog.info? 37).map (·.size)=some 3:=by kernel_rfl
end
end
section
open Go.RowKit
section
variable {w:World}
end
end
end Go.Proofs.YtcchekmejnhlmaaGreat
