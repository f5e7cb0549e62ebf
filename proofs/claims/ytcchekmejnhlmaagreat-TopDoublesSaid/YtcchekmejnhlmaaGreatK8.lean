/- Joined texts. -/
import Derived.Test.YtcchekmejnhlmaaGreatK1
import Derived.Test.YtcchekmejnhlmaaGreatK4
import Derived.Test.YtcchekmejnhlmaaGreatK5
import Derived.Test.YtcchekmejnhlmaaGreatK6
import Derived.Test.YtcchekmejnhlmaaGreatK7
import Derived.Test.YtcchekmejnhlmaaGreatProg
import Derived.Deep.QuietTactic
import Derived.BigQuiet
import Derived.Deep.RegionHeld3
import Derived.Deep.DrawnRows
namespace Go.Proofs.YtcchekmejnhlmaaGreat
set_option linter.unusedVariables false
set_option maxHeartbeats 4000000
section
open Go.RowKit
section
variable {w:World}
end
end
namespace Se
open Go.Proofs.YtcchekmejnhlmaaGreat
abbrev Row:=Int×Int×Int×Int
def z0:Row:=(0,0,0,0)
def upB (rows:List Row) (i:Nat):Bool:=decide (i=0)||decide ((rows.getD (i-1) z0).1<(rows.getD i z0).1)
def mayB (rows:List Row):Bool:=decide (rows.length≤4)&&(List.range rows.length).all (upB rows)
def idx (rows:List Row) (s:Int):Nat:=rows.findIdx fun r=>decide (r.1=s)
def new (t:Int):Row:=(t,0,t,t)
def at_ (rows:List Row) (s:Int):Row:=rows.getD (idx rows s) z0
def fitsB (r:Row):Bool:=Wr.isNum r.1&&Wr.isNum r.2.1&&Wr.isNum r.2.2.1&&Wr.isNum r.2.2.2
def rowL (r:Row):List UInt8:=Wr.putL r.1++Wr.putL r.2.1++Wr.putL r.2.2.1++Wr.putL r.2.2.2
def rowsL (rows:List Row):List UInt8:=Wr.putL (rows.length:Int)++rows.flatMap rowL
def putR (rows:List Row):ByteArray×Int:=if mayB rows=true∧rows.all fitsB=true then (⟨(rowsL rows).toArray⟩,0) else (⟨#[]⟩,1000)
abbrev rdN (s:ByteArray) (st:Pt.St):Int×Pt.St:=Pt.rdNum s (-9007199254740992) 9007199254740992 st
def rd1 (s:ByteArray) (st:Pt.St):Pt.St:=(rdN s st).2
end Se
namespace Se
open Go.Proofs.YtcchekmejnhlmaaGreat
end Se
section
open Go.RowKit
end
section
open Go.RowKit
def Drawn (w w':World):Prop:=∃ n,w'=w.drewN n
end
section
open Go.RowKit
def Se.fld (r:Se.Row) (j:Nat):Int:=[r.1,r.2.1,r.2.2.1,r.2.2.2].getD j 0
end
section
open Go.RowKit
def Pt.putR (ps:List Pt.Point):ByteArray×Int:=if Pt.batchB ps then (Pt.ptsB ps,0) else (⟨#[]⟩,300)
attribute [local go_sem ↓] Go.wp_at_zero Go.wp_at_succ
end
section
open Go.RowKit
def Tp.entOk (e:Tp.Ent):Prop:=(0≤e.1∧e.1≤2147483647)∧(0≤e.2.1∧e.2.1≤2147483647)∧(0≤e.2.2.1∧e.2.2.1≤2147483647)∧(0≤e.2.2.2∧e.2.2.2≤2147483647)
def Tp.toEnt (e:Tp.Ent):Go.Proofs.YtcchekmejnhlmaaGreat.Ent:=(e,none,0,[])
end
section
open Go.RowKit
structure Tp.Rows (w:World) (base:Nat) (es:List Tp.Ent) (a0 a1 a2:Int) (ve va:Value):Prop where
 ent:w.ownsRow base 191 5 ve es.length (es.flatMap Tp.entCells)
 ack:w.ownsRow base 3 1 va 3 [.int .i64 a0,.int .i64 a1,.int .i64 a2]
theorem Tp.Rows.only {w w':World} {base:Nat} {es:List Tp.Ent} {a0 a1 a2:Int} {ve va:Value} {S:Nat→Prop} (h:Tp.Rows w base es a0 a1 a2 ve va) (ho:Only S w w') (he:∀ g,ve.ownBlock=some g→¬S g) (ha:∀ g,va.ownBlock=some g→¬S g):Tp.Rows w' base es a0 a1 a2 ve va :=
 ⟨jbb h.ent ho he,jbb h.ack ho ha⟩
section
variable {w:World}
end
end
section
open Go.RowKit
structure Tp.Step (w:World) (base g:Nat) (me cm:Int) (es:List Tp.Ent) (a0 a1 a2:Int) (ms:List Tp.Msg) (ve va vo:Value):Prop where
 blk:Blk w g 169 #[.int .i64 me,.int .i64 3,.int .i64 0,.int .i64 0,.int .i64 0,.int .i64 cm,.bool false,.int .i64 0,.string ⟨#[]⟩,ve,va,.slice none 0 0,.slice none 0 0,vo,.bool false]
 low:base≤g
 rows:Tp.Rows w base es a0 a1 a2 ve va
 out:w.ownsRow base 39 20 vo ms.length (ms.flatMap Tp.msgCells)
section
variable {w w':World} {base g:Nat} {me cm a0 a1 a2:Int} {es:List Tp.Ent} {ms:List Tp.Msg} {ve va vo:Value}
theorem Tp.Step.only {S:Nat→Prop} (h:Tp.Step w base g me cm es a0 a1 a2 ms ve va vo) (ho:Only S w w') (hg:¬S g) (he:∀ k,ve.ownBlock=some k→¬S k) (ha:∀ k,va.ownBlock=some k→¬S k) (hv:∀ k,vo.ownBlock=some k→¬S k):Tp.Step w' base g me cm es a0 a1 a2 ms ve va vo :=
 ⟨h.blk.only ho hg,h.low,h.rows.only ho he ha,jbb h.out ho hv⟩
end
section
variable {w:World} {base g:Nat} {me cm a0 a1 a2:Int} {es:List Tp.Ent} {ms:List Tp.Msg} {ve va vo:Value}
end
end
section
open Go.RowKit
theorem jfg:(Tryz.prog.info? 39).map (fun i=>(i.zero,i.size,i.bytes))=some (some (.agg #[.int .i64 0,.int .i64 0,.int .i64 0,.int .i64 0,.int .i64 0,.int .i64 0,.int .i64 0,.int .i64 0,.int .i64 0,.int .i64 0,.int .i64 0,.int .i64 0,.int .i64 0,.int .i64 0,.string ⟨#[]⟩,.slice none 0 0,.int .i64 0,.string ⟨#[]⟩,.slice none 0 0,.string ⟨#[]⟩]),20,216):=by kernel_rfl
section
variable {w:World} {base g:Nat} {me cm a0 a1 a2:Int} {es:List Tp.Ent} {ms:List Tp.Msg} {ve va vo:Value}
end
end
section
open Go.RowKit
namespace Db
def Bx (w:World) (g:Nat) (cs:Array Value):Prop:=∃ t fz,w.heap[g]? =some (.cells cs t fz)∧∀ i,i<cs.size→¬(fz.1≤i∧i<fz.2)
section
variable {w w':World} {g:Nat} {cs:Array Value} {S:Nat→Prop}
theorem Bx.lt (h:Bx w g cs):g<w.heap.size:=by
 obtain ⟨t,fz,h,_⟩:=h
 exact (Array.getElem?_eq_some_iff.1 h).1
theorem Bx.cell (h:Bx w g cs) (i:Nat):w.cell? ⟨g,i,none⟩=cs[i]?:=by
 obtain ⟨t,fz,h,_⟩:=h
 exact cell_of_row w g i cs t fz h
theorem Bx.frozen (h:Bx w g cs) (i:Nat) (hi:i<cs.size):w.frozen? ⟨g,i,none⟩=false:=by
 obtain ⟨t,fz,h,k⟩:=h
 have:=k i hi
 simp only [World.frozen?,h]
 rw [Bool.and_eq_false_iff,decide_eq_false_iff_not,decide_eq_false_iff_not]
 omega
theorem Bx.only (h:Bx w g cs) (ho:Only S w w') (hg:¬S g):Bx w' g cs:=by
 have hl:=h.lt
 obtain ⟨t,fz,h,k⟩:=h
 exact ⟨t,fz,(ho.block g hl hg).trans h,k⟩
theorem Bx.set_ (h:Bx w g cs) (i:Nat) (u:Value):Bx (w.setCell ⟨g,i,none⟩ u) g (cs.setIfInBounds i u):=by
 obtain ⟨t,fz,h,k⟩:=h
 refine ⟨t,fz,?_,fun j hj=>k j (by simpa using hj)⟩
 simp [World.setCell,Array.getElem?_modify,h]
theorem Bx.far (h:Bx w g cs) {p:Addr} (hp:g≠p.block) (u:Value):Bx (w.setCell p u) g cs:=by
 obtain ⟨t,fz,h,k⟩:=h
 exact ⟨t,fz,(Below.heap_setCell w p u g hp).trans h,k⟩
theorem Bx.below {B:Nat} (h:Bx w g cs) (hb:Below B w w') (hg:g<B):Bx w' g cs:=by
 obtain ⟨t,fz,h,k⟩:=h
 exact ⟨t,fz,(hb.block g hg).trans h,k⟩
end
structure Ms where
 k:Int
 fr:Int
 to:Int
 vw:Int
 nm:Int
 at_:Int
 cm:Int
 rd:Int
 cl:Int
 se:Int
 nu:Int
 co:Int
 ag:Int
 un:Int
 sr:ByteArray
 ba:Option Addr
 bn:Nat
 bc:Nat
def msV (m:Ms):Value:=.agg #[.int .i64 m.k,.int .i64 m.fr,.int .i64 m.to,.int .i64 m.vw,.int .i64 m.nm,.int .i64 m.at_,.int .i64 m.cm,.int .i64 m.rd,.int .i64 m.cl,.int .i64 m.se,.int .i64 m.nu,.int .i64 m.co,.int .i64 m.ag,.int .i64 m.un,.string m.sr,.slice m.ba m.bn m.bc,.int .i64 0,.string ⟨#[]⟩,.slice none 0 0,.string ⟨#[]⟩]
def msC (m:Ms):List Value:=[.int .i64 m.k,.int .i64 m.fr,.int .i64 m.to,.int .i64 m.vw,.int .i64 m.nm,.int .i64 m.at_,.int .i64 m.cm,.int .i64 m.rd,.int .i64 m.cl,.int .i64 m.se,.int .i64 m.nu,.int .i64 m.co,.int .i64 m.ag,.int .i64 m.un,.string m.sr,.slice m.ba m.bn m.bc,.int .i64 0,.string ⟨#[]⟩,.slice none 0 0,.string ⟨#[]⟩]
theorem jjj (m:Ms):∀ u∈msC m,u.oneCell'=true:=by
 intro u hu
 unfold msC at hu
 simp only [List.mem_cons,List.not_mem_nil,or_false] at hu
 rcases hu with rfl | rfl | rfl | rfl | rfl | rfl | rfl | rfl | rfl | rfl | rfl | rfl | rfl | rfl | rfl | rfl | rfl | rfl | rfl | rfl<;>rfl
theorem mss_one (ms:List Ms):∀ u∈ms.flatMap msC,u.oneCell'=true:=by
 intro u hu
 obtain ⟨m,_,h⟩:=List.mem_flatMap.1 hu
 exact jjj m u h
theorem mss_snoc (ms:List Ms) (m:Ms):(ms++[m]).flatMap msC=ms.flatMap msC++msC m:=by rw [List.flatMap_append];simp
def Ms.bat (m:Ms) (A:Option Addr) (n c:Nat):Ms:=⟨m.k,m.fr,m.to,m.vw,m.nm,m.at_,m.cm,m.rd,m.cl,m.se,m.nu,m.co,m.ag,m.un,m.sr,A,n,c⟩
def BatOk (w:World) (D:Nat→Prop):Option (Int×Int)→Option Addr→Nat→Nat→Prop
 | none,A,n,c=>A=none∧n=0∧c=0
 | some p,A,n,c=>n=1∧1≤c∧∃ b cur e fz,A=some ⟨b,0,none⟩∧w.heap[b]? =some (.cells cur e fz)∧(∀ i,i<cur.size→¬(fz.1≤i∧i<fz.2))∧cur.size=c*3 ∧
   cur[0]? =some (.string ⟨#[115]⟩)∧cur[1]? =some (.int .i64 p.1)∧cur[2]? =some (.int .i64 p.2)∧D b
section
variable {w w':World} {D D' S:Nat→Prop} {p:Option (Int×Int)} {A:Option Addr} {n c:Nat}
theorem BatOk.only (h:BatOk w D p A n c) (ho:Only S w w') (hs:∀ b,b<w.heap.size→D b→¬S b):BatOk w' D p A n c:=by
 cases p with
 | none=>exact h
 | some p =>
   obtain ⟨h1,h2,b,cur,e,fz,h3,h4,h5⟩:=h
   have hl:=(Array.getElem?_eq_some_iff.1 h4).1
   exact ⟨h1,h2,b,cur,e,fz,h3,(ho.block b hl (hs b hl h5.2.2.2.2.2)).trans h4,h5⟩
theorem BatOk.mono (h:BatOk w D p A n c) (hs:∀ b,b<w.heap.size→D b→D' b):BatOk w D' p A n c:=by
 cases p with
 | none=>exact h
 | some p =>
   obtain ⟨h1,h2,b,cur,e,fz,h3,h4,h5,h6,h7,h8,h9,h10⟩:=h
   exact ⟨h1,h2,b,cur,e,fz,h3,h4,h5,h6,h7,h8,h9,hs b (Array.getElem?_eq_some_iff.1 h4).1 h10⟩
theorem BatOk.drew (h:BatOk w D p A n c):BatOk w.drew D p A n c:=h.only ((Only.refl (fun _=>False) w).drew) (fun _ _ _ q=>q)
theorem BatOk.below (h:BatOk w D p A n c) (hb:Below w.heap.size w w'):BatOk w' D p A n c:=h.only (Only.new (fun _=>False) hb) (fun _ _ _ q=>q)
end
structure Stc (K:Nat→Prop) (c c':Nat→Nat) (w w':World):Prop where
 n8:¬K 8
 only:Only (fun b=>K (c b)∨c b=8) w w'
 agr:∀ b,b<w.heap.size→¬K (c b)→c' b=c b
 bat:∀ b,c b=8→∀ p A n k,BatOk w (fun j=>j=b) p A n k→BatOk w' (fun j=>j=b) p A n k
section
variable {K K':Nat→Prop} {c c' c1 c2:Nat→Nat} {w w' w1 w2:World}
theorem Stc.of_only (n8:¬K 8) (h:Only (fun b=>K (c b)) w w') (ha:∀ b,b<w.heap.size→¬K (c b)→c' b=c b):Stc K c c' w w' :=
 ⟨n8,h.mono fun _ _ q=>.inl q,ha,fun b hb p A n k hk=>hk.only h fun j _ e q=>by rw [e,hb] at q;exact n8 q⟩
theorem Stc.refl (n8:¬K 8) (c:Nat→Nat) (w:World):Stc K c c w w:=Stc.of_only n8 (Only.refl _ _) fun _ _ _=>rfl
theorem Stc.size (h:Stc K c c' w w'):w.heap.size≤w'.heap.size:=h.only.size
theorem BatOk.pick {D:Nat→Prop} {p:Option (Int×Int)} {A:Option Addr} {n k:Nat} (h:BatOk w D p A n k):(p=none∧∀ w D,BatOk w D p A n k)∨∃ b,D b∧b<w.heap.size∧BatOk w (fun j=>j=b) p A n k:=by
 cases p with
 | none=>exact .inl ⟨rfl,fun _ _=>h⟩
 | some p =>
   obtain ⟨h1,h2,b,cur,e,fz,h3,h4,h5,h6,h7,h8,h9,h10⟩:=h
   exact .inr ⟨b,h10,(Array.getElem?_eq_some_iff.1 h4).1,h1,h2,b,cur,e,fz,h3,h4,h5,h6,h7,h8,h9,rfl⟩
theorem Stc.batOk (h:Stc K c c' w w') {p:Option (Int×Int)} {A:Option Addr} {n k:Nat} (hb:BatOk w (fun b=>c b=8) p A n k):BatOk w' (fun b=>c' b=8) p A n k:=by
 rcases hb.pick with ⟨_,q⟩ | ⟨b,h1,h2,h3⟩
 ·exact q _ _
 ·exact (h.bat b h1 _ _ _ _ h3).mono fun j _ e=>by rw [e,h.agr b h2 (by rw [h1];exact h.n8),h1]
theorem Stc.trans (h:Stc K c c1 w w1) (k:Stc K c1 c2 w1 w2):Stc K c c2 w w2 :=
 ⟨h.n8,h.only.trans k.only fun j hj q=>Classical.byContradiction fun hn=>by
  have e:=h.agr j hj fun z=>hn (.inl z)
  rw [e] at q;exact hn q,
  fun b hb hn=>by
   have e:=h.agr b hb hn
   rw [k.agr b (Nat.lt_of_lt_of_le hb h.only.size) (by rw [e];exact hn),e],
  fun b hb p A n m hm=>by
   rcases hm.pick with ⟨_,q⟩ | ⟨b',e,hl,_⟩
   ·exact q _ _
   ·subst e
    exact k.bat _ ((h.agr _ hl (by rw [hb];exact h.n8)).trans hb) _ _ _ _ (h.bat _ hb _ _ _ _ hm)⟩
theorem Stc.mono (h:Stc K c c' w w') (n8:¬K' 8) (hk:∀ i,K i→K' i):Stc K' c c' w w' :=
 ⟨n8,h.only.mono fun j _ q=>q.imp (hk _) id,fun b hb hn=>h.agr b hb fun q=>hn (hk _ q),h.bat⟩
theorem Stc.bx (h:Stc K c c' w w') {g i:Nat} {cs:Array Value} (hb:Bx w g cs) (hg:c g=i) (hi:¬K i) (h8:i≠8):Bx w' g cs∧c' g=i :=
 ⟨hb.only h.only (by rw [hg];rintro (q | q);exact hi q;exact h8 q),(h.agr g hb.lt (by rw [hg];exact hi)).trans hg⟩
theorem Stc.own (h:Stc K c c' w w') {base i size n:Nat} {e:TypeId} {v:Value} {xs:List Value} (ho:w.ownsRow base e size v n xs) (hc:∀ k,v.ownBlock=some k→c k=i) (hi:¬K i) (h8:i≠8):w'.ownsRow base e size v n xs∧∀ k,v.ownBlock=some k→c' k=i :=
 ⟨jbb ho h.only (fun g hg=>by rw [hc g hg];rintro (q | q);exact hi q;exact h8 q),fun k hk=>(h.agr k (jcf ho hk).2 (by rw [hc k hk];exact hi)).trans (hc k hk)⟩
end
end Db
end
end Go.Proofs.YtcchekmejnhlmaaGreat
