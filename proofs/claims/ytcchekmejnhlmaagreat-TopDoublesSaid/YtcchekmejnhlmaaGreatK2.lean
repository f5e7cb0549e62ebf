/- Joined texts. -/
import Derived.Test.YtcchekmejnhlmaaGreatK1
import Derived.Laws.Tables
import Derived.Laws.BytesString
import Derived.Calls
import Derived.Deep.AppendSrc
import Derived.Laws.IdiomStrings
namespace Go.Proofs.YtcchekmejnhlmaaGreat
set_option linter.unusedVariables false
set_option maxHeartbeats 4000000
section
namespace Ev
open Go.RowKit
noncomputable section
section
variable {P:Program} {nt:Cx} {o:Oper} {G:Gh} {ρ:RT} {a:Act} {x:V}
theorem cells_one {v:Value} (h:v.oneCell'=true):v.cells=#[v]:=by
 cases v<;>first | rfl | cases h
theorem jhd {v:V} {xs:List Sc} (h:vCells v=some xs) {c:Value} (hv:V.ok G v c):All2 (Sc.ok G) xs c.cells.toList:=by
 cases v with
 | c s=>cases h;rw [cells_one (Sc.ok_one hv)];exact .cons hv .nil
 | a ys=>cases h;obtain ⟨arr,rfl,ha⟩:=hv;exact ha
 | t es=>cases h
theorem bld_ok {place:Nat→Option (Nat×Nat)} (hr:RegOk nt G ρ a) (hn:a.tmps.size=nt.nt):∀ (parts:List (Nat×Operand)) (ps:List (Nat×Nat×Od)) (zs:List Sc) (arr:Array Value),jgh nt place parts=some ps→bldV ρ ps zs=some x→All2 (Sc.ok G) zs arr.toList →
 ∃ arr',Instr.fill place arr (parts.map fun p=>(p.1,a.eval p.2))=some arr'∧V.ok G x (.agg arr')
 | [],ps,zs,arr,h1,h2,hz=>by
   cases h1
   cases h2
   exact ⟨arr,rfl,arr,rfl,hz⟩
 | (i,y)::parts,ps,zs,arr,h1,h2,hz=>by
   unfold jgh at h1
   split at h1
   ·rename_i off size o' r e1 e2 e3
    cases h1
    unfold bldV at h2
    split at h2
    ·cases h2
    ·rename_i xs hxs
     obtain ⟨hc,h2⟩:=jab h2
     have hc:=jat hc
     split at h2
     ·rename_i zs' hzs
      have hv:=jam e2 hr hn
      have hx:=jhd hxs hv
      obtain ⟨b1,arr',b2,b3⟩:=spl_ok zs off xs zs' hzs arr (a.eval y).cells.toList hz hx
      obtain ⟨arr2,k1,k2⟩:=bld_ok hr hn parts r zs' arr' e3 h2 b3
      refine ⟨arr2,?_,k2⟩
      have hl:=hx.length
      have hs:(a.eval y).cells.size=size:=by rw [←hc,hl];simp
      simp only [List.map_cons,Instr.fill,e1]
      have hb:off+(a.eval y).cells.size≤arr.size:=by simpa using b1
      rw [if_neg (by
       simp only [hs,ne_eq,not_true_eq_false,decide_false,Bool.false_or,gt_iff_lt,decide_eq_true_eq]
       omega)]
      have e4:Array.foldl (fun cs (x:Value×Nat)=>cs.setIfInBounds (off+x.2) x.1) arr (a.eval y).cells.zipIdx=arr':=by
       rw [←b2,←Array.foldl_toList,Array.toList_zipIdx]
      rw [←k1]
      congr 1
     ·cases h2
   ·cases h1
theorem ok_bld {t:TypeId} {parts:Array (Nat×Operand)} {p:PO} (h:cBld P nt t parts=some p) (he:evP p ρ=some x) (hr:RegOk nt G ρ a) (hn:a.tmps.size=nt.nt) (w:World) :
 ∃ v,(Instr.build t (parts.map fun (i,x)=>(i,a.eval x))).run P w=.ok v w∧V.ok G x v:=by
 unfold cBld at h
 split at h
 ·rename_i pl z hpl
  split at h
  ·rename_i zs ps hz hps
   cases h
   obtain ⟨arr',k1,k2⟩:=bld_ok hr hn parts.toList ps zs z hps he (jev G hz)
   refine ⟨.agg arr',run_build w t _ arr' ?_,k2⟩
   unfold cPl at hpl
   unfold Program.built
   have e0:(Array.map (fun x=>match x with | (i,x)=>(i,a.eval x)) parts).toList=parts.toList.map fun p=>(p.1,a.eval p.2):=by simp
   rw [e0]
   split at hpl
   ·rename_i it n e h1 h2
    rw [h1,h2]
    split at hpl
    ·rename_i zz ie h3 h4
     cases hpl
     simp only [h3,h4];exact k1
    ·cases hpl
   ·rename_i it fields h1 h2
    rw [h1,h2]
    split at hpl
    ·rename_i zz places h3 h4
     cases hpl
     simp only [h3,h4];exact k1
    ·cases hpl
   ·cases hpl
  ·cases h
 ·cases h
theorem caps_ok (hr:RegOk nt G ρ a) (hn:a.tmps.size=nt.nt):∀ (xs:List Operand) (os:List Od) (l:List (Nat×Nat)),cOds nt xs=some os→capsV ρ os=some l →
 All2 (fun (p:Nat×Nat) c=>∃ b sz,G p.1=some (b,sz)∧c=Value.pointer (some ⟨b,p.2,none⟩)) l (xs.map a.eval)
 | [],os,l,h1,h2=>by cases h1;cases h2;exact .nil
 | y::xs,os,l,h1,h2=>by
   unfold cOds at h1
   split at h1
   ·rename_i o' r e1 e2
    cases h1
    unfold capsV at h2
    split at h2
    ·rename_i id off hv
     split at h2
     ·rename_i r' hr'
      cases h2
      have:∃ b sz,G id=some (b,sz)∧a.eval y=.pointer (some ⟨b,off,none⟩):=od_c e1 hr hn hv
      exact .cons this (caps_ok hr hn xs r r' e2 hr')
     ·cases h2
    ·cases h2
   ·cases h1
theorem lenV_ok {v:V} {n:Nat} (h:lenV v=some n) {c:Value} (hv:V.ok G v c):∃ p k,c=.slice p n k:=by
 unfold lenV at h
 split at h
 ·cases h;obtain ⟨b,sz,_,rfl,_⟩:=hv;exact ⟨_,_,rfl⟩
 ·cases h;obtain ⟨b,sz,_,_,rfl,_⟩:=hv;exact ⟨_,_,rfl⟩
 ·cases h;exact ⟨none,0,hv⟩
 ·cases h;obtain ⟨p,k,rfl⟩:=hv;exact ⟨_,_,rfl⟩
 ·cases h
theorem ok_pick {y z u:Operand} {b c d:Od} (h1:cOd nt y=some b) (h2:cOd nt z=some c) (h3:cOd nt u=some d) (ho:o.op=.pick y z u)
 (he:ePick b c d ρ=some x) (hr:RegOk nt G ρ a) (hn:a.tmps.size=nt.nt) (w:World):∃ v,(execOp a.eval o).run P w=.ok (.value v) w∧V.ok G x v:=by
 obtain ⟨t,e1,he⟩:=vB_some he
 have q1:a.eval y=.bool t:=od_c h1 hr hn e1
 unfold execOp;rw [ho]
 simp only [q1,asBool,pure_bind]
 cases t with
 | true=>cases he;exact ⟨_,rfl,jam h2 hr hn⟩
 | false=>cases he;exact ⟨_,rfl,jam h3 hr hn⟩
theorem ok_nilc {y:Operand} {b:Od} (h1:cOd nt y=some b) (ho:o.op=.nilCheck y)
 (he:eNilc b ρ=some x) (hr:RegOk nt G ρ a) (hn:a.tmps.size=nt.nt) (w:World):∃ v,(execOp a.eval o).run P w=.ok (.value v) w∧V.ok G x v:=by
 have Hy:=jam h1 hr hn
 unfold eNilc at he
 generalize b.get ρ=bv at he Hy
 unfold nilcV at he
 unfold execOp;rw [ho]
 split at he
 ·cases he
  obtain ⟨bb,sz,hg,hv⟩:=Hy
  simp only [hv]
  exact ⟨_,rfl,bb,sz,hg,rfl⟩
 ·cases he
  obtain ⟨cs,hv,hc⟩:=Hy
  simp only [hv]
  exact ⟨_,rfl,cs,rfl,hc⟩
 ·cases he
theorem ok_bin {op:BinOp} {t yt:TypeId} {y z:Operand} (ho:o.op=.binOp op t y z yt) {p:PO} (h:cBin P op t (cOd nt y) (cOd nt z)=some p)
 (he:evP p ρ=some x) (hr:RegOk nt G ρ a) (hn:a.tmps.size=nt.nt) (w:World):∃ v,(execOp a.eval o).run P w=.ok (.value v) w∧V.ok G x v:=by
 have fin:∀ v,(binOp op t (a.eval y) (a.eval z)).run P w=.ok v w→eqGuard op t y z (a.eval y) (a.eval z)=pure ()→(execOp a.eval o).run P w=.ok (.value v) w:=by
  intro v h1 h2
  unfold execOp;rw [ho]
  simp only [h2,pure_bind,Sem.run_bind,h1,Result.andThen_ok,Sem.run_pure]
 have g1:∀ k m c,eqGuard op t y z (.int k m) c=pure ():=fun k m c=>by cases op<;>rfl
 have g2:∀ s c,eqGuard op t y z (.string s) c=pure ():=fun s c=>by cases op<;>rfl
 have g3:∀ s c,eqGuard op t y z (.bool s) c=pure ():=fun s c=>by cases op<;>rfl
 unfold cBin at h
 split at h
 ·
  split at h
  ·obtain ⟨b,c,e1,e2,rfl⟩:=jbx h
   obtain ⟨v,k1,k2,k,m,k3⟩:=ok_sh (P:=P) (op:=.shl) (t:=t) (.inl ⟨rfl,rfl⟩) e1 e2 he hr hn w
   exact ⟨v,fin v k1 (by rw [k3];exact g1 _ _ _),k2⟩
  ·obtain ⟨b,c,e1,e2,rfl⟩:=jbx h
   obtain ⟨v,k1,k2,k,m,k3⟩:=ok_sh (P:=P) (op:=.shr) (t:=t) (.inr ⟨rfl,rfl⟩) e1 e2 he hr hn w
   exact ⟨v,fin v k1 (by rw [k3];exact g1 _ _ _),k2⟩
  ·rename_i n1 n2
   obtain ⟨b,c,e1,e2,rfl⟩:=jbx h
   obtain ⟨v,k1,k2,k,m,k3⟩:=ok_bi (P:=P) (op:=op) (t:=t) e1 e2 ⟨fun q=>n1 q,fun q=>n2 q⟩ he hr hn w
   exact ⟨v,fin v k1 (by rw [k3];exact g1 _ _ _),k2⟩
 ·obtain ⟨b,c,e1,e2,rfl⟩:=jbx h
  obtain ⟨v,k1,k2,s,k3⟩:=ok_st (P:=P) (t:=t) e1 e2 he hr hn w
  exact ⟨v,fin v k1 (by rw [k3];exact g2 _ _),k2⟩
 ·rename_i ht
  split at h
  ·obtain ⟨b,c,e1,e2,rfl⟩:=jbx h
   obtain ⟨v,k1,k2,s,k3⟩:=ok_bo (.inl ⟨rfl,rfl⟩) ht e1 e2 he hr hn w
   exact ⟨v,fin v k1 (by rw [k3];exact g3 _ _),k2⟩
  ·obtain ⟨b,c,e1,e2,rfl⟩:=jbx h
   obtain ⟨v,k1,k2,s,k3⟩:=ok_bo (.inr ⟨rfl,rfl⟩) ht e1 e2 he hr hn w
   exact ⟨v,fin v k1 (by rw [k3];exact g3 _ _),k2⟩
  ·cases h
 all_goals first
  | (cases h;done)
  | (rename_i ht
     split at h
     ·obtain ⟨b,c,e1,e2,rfl⟩:=jbx h
      obtain ⟨v,k1,k2,k3⟩:=ok_nl (kd:=_) (.inl ⟨rfl,rfl⟩) ht (by first | exact ⟨_,rfl⟩ | exact ⟨_,_,rfl⟩ | exact ⟨_,_,_,rfl⟩) e1 e2 he hr hn w
      exact ⟨v,fin v k1 (k3 _ _),k2⟩
     ·obtain ⟨b,c,e1,e2,rfl⟩:=jbx h
      obtain ⟨v,k1,k2,k3⟩:=ok_nl (kd:=_) (.inr ⟨rfl,rfl⟩) ht (by first | exact ⟨_,rfl⟩ | exact ⟨_,_,rfl⟩ | exact ⟨_,_,_,rfl⟩) e1 e2 he hr hn w
      exact ⟨v,fin v k1 (k3 _ _),k2⟩
     ·cases h)
theorem ok_un {op:UnOp} {t:TypeId} {y:Operand} {b:Od} (h1:cOd nt y=some b) (ho:o.op=.unOp op t y)
 (he:eUn op b ρ=some x) (hr:RegOk nt G ρ a) (hn:a.tmps.size=nt.nt) (w:World):∃ v,(execOp a.eval o).run P w=.ok (.value v) w∧V.ok G x v:=by
 have Hy:=jam h1 hr hn
 unfold eUn at he
 generalize b.get ρ=bv at he Hy
 unfold unV at he
 unfold execOp;rw [ho]
 split at he
 ·cases he
  rename_i k n
  have Hy':a.eval y=.int k n:=Hy
  simp only [Hy',Op.unary,Op.intArith]
  exact ⟨_,rfl,by rw [jcq,subF_eq];rfl⟩
 ·cases he
  rename_i q
  have Hy':a.eval y=.bool q:=Hy
  simp only [Hy',Op.unary]
  exact ⟨_,rfl,rfl⟩
 ·cases he
theorem ok_conv {s t:TypeId} {y:Operand} {p:PO} (h:cConv P s t (cOd nt y)=some p) (ho:o.op=.convert s t y)
 (he:evP p ρ=some x) (hr:RegOk nt G ρ a) (hn:a.tmps.size=nt.nt) (w:World):∃ v,(execOp a.eval o).run P w=.ok (.value v) w∧V.ok G x v:=by
 unfold execOp;rw [ho]
 unfold cConv at h
 split at h
 ·rename_i k0 k h1 h2
  obtain ⟨b,e1,rfl⟩:=jce h
  obtain ⟨k',n,e2,he⟩:=jbw he
  cases he
  have q:a.eval y=.int k' n:=od_c e1 hr hn e2
  refine ⟨.int k (k.wrap n),?_,by rw [jcq];rfl⟩
  simp only [q,convert,Sem.run_bind,jaf h1,jaf h2,Result.andThen_ok]
  rfl
 ·rename_i h1 h2
  obtain ⟨b,e1,rfl⟩:=jce h
  have Hy:=jam e1 hr hn
  have he':eCvs b ρ=some x:=he
  unfold eCvs at he'
  generalize b.get ρ=bv at he' Hy
  split at he'
  ·cases he'
   obtain ⟨u,q,q1,q2⟩:=Hy
   refine ⟨.string u,?_,u,rfl,q1,q2⟩
   simp only [q,convert,Sem.run_bind,jaf h1,jaf h2,Result.andThen_ok]
   rfl
  ·cases he'
 ·cases h
theorem ok_ext {y:Operand} {i:Nat} {b:Od} (h1:cOd nt y=some b) (ho:o.op=.extract y i)
 (he:eExt b i ρ=some x) (hr:RegOk nt G ρ a) (hn:a.tmps.size=nt.nt) (w:World):∃ v,(execOp a.eval o).run P w=.ok (.value v) w∧V.ok G x v:=by
 have Hy:=jam h1 hr hn
 unfold eExt at he
 generalize b.get ρ=bv at he Hy
 unfold execOp;rw [ho]
 split at he
 ·rename_i es
  split at he
  ·rename_i e hi
   cases he
   obtain ⟨arr,hv,ha⟩:=Hy
   have hl:i<es.length:=by
    rcases Nat.lt_or_ge i es.length with q | q
    ·exact q
    ·rw [List.getElem?_eq_none q] at hi;cases hi
   have hl2:i<arr.toList.length:=by rw [←ha.length];exact hl
   have hl3:i<arr.size:=by simpa using hl2
   have hg:=ha.get i hl hl2
   rw [List.getElem?_eq_getElem hl] at hi
   have hi:=Option.some.inj hi
   refine ⟨arr[i],?_,?_⟩
   ·have e3:arr[i]? =some arr[i]:=Array.getElem?_eq_getElem hl3
    simp only [hv,Instr.extract,e3,Sem.run_bind,Sem.run_pure,Result.andThen_ok]
   ·rw [Array.getElem_toList (xs:=arr),hi] at hg
    exact E.v_ok.2 hg
  ·cases he
 ·cases he
theorem len_str {t ty:TypeId} (h:P.underlying t=some .string) (s:ByteArray) (w:World):(Builtin.len_ #[t] ty #[.string s]).run P w=.ok (goInt s.size) w:=by
 simp [Builtin.len_,jaf h]
theorem len_slice {t ty e:TypeId} (h:P.underlying t=some (.slice e)) (p:Option Addr) (n k:Nat) (w:World):(Builtin.len_ #[t] ty #[.slice p n k]).run P w=.ok (goInt n) w:=by
 simp [Builtin.len_,jaf h]
theorem len_arr {t ty e:TypeId} {n:Nat} (h:P.underlying t=some (.array n e)) (v:Value) (w:World):(Builtin.len_ #[t] ty #[v]).run P w=.ok (goInt n) w:=by
 simp [Builtin.len_,jaf h]
theorem cap_slice {t ty e:TypeId} (h:P.underlying t=some (.slice e)) (p:Option Addr) (n k:Nat) (w:World):(Builtin.cap_ #[t] ty #[.slice p n k]).run P w=.ok (goInt k) w:=by
 simp [Builtin.cap_,jaf h]
theorem ok_callB {b:Builtin} {args:Array Operand} {ts:Array TypeId} {p:PO} (h:jjv P nt b args ts=some p) (ho:o.op=.call { callee:=.builtin b,args,argTypes:=ts })
 (he:evP p ρ=some x) (hr:RegOk nt G ρ a) (hn:a.tmps.size=nt.nt) (w:World):∃ v,(execOp a.eval o).run P w=.ok (.value v) w∧V.ok G x v:=by
 unfold execOp;rw [ho]
 simp only [resolve,pure_bind,invoke]
 unfold jjv at h
 split at h
 ·rename_i y t h1 h2
  have ha:args.map a.eval=#[a.eval y]:=by apply Array.toList_inj.1;simp [h1]
  have hb:ts=#[t]:=by apply Array.toList_inj.1;rw [h2]
  rw [ha,hb]
  have key:∀ v,(Builtin.len_ #[t] o.type #[a.eval y]).run P w=.ok v w→∀ cs,(builtin .len #[t] o.type cs #[a.eval y]).run P w=.ok (.value v) w:=by
   intro v hv cs
   simp only [builtin,Sem.run_bind,hv,Result.andThen_ok,Sem.run_pure]
  split at h
  ·rename_i hd
   obtain ⟨bb,e1,rfl⟩:=jce h
   have Hy:=jam e1 hr hn
   have he':eLens bb ρ=some x:=he
   unfold eLens at he'
   generalize bb.get ρ=bv at he' Hy
   split at he'
   ·cases he'
    obtain ⟨s,q,q1,q2⟩:=Hy
    rw [q] at key ⊢
    exact ⟨_,key _ (len_str hd s w) _,by rw [ba_size,q1];rfl⟩
   ·cases he'
  ·rename_i e hd
   obtain ⟨bb,e1,rfl⟩:=jce h
   have Hy:=jam e1 hr hn
   have he':eLen bb ρ=some x:=he
   unfold eLen at he'
   split at he'
   ·rename_i n hn'
    cases he'
    obtain ⟨p,k,q⟩:=lenV_ok hn' Hy
    rw [q] at key ⊢
    exact ⟨_,key _ (len_slice hd p n k w) _,rfl⟩
   ·cases he'
  ·rename_i n e hd
   cases h
   cases he
   exact ⟨_,key _ (len_arr hd _ w) _,rfl⟩
  ·cases h
 ·rename_i y t h1 h2
  have ha:args.map a.eval=#[a.eval y]:=by apply Array.toList_inj.1;simp [h1]
  have hb:ts=#[t]:=by apply Array.toList_inj.1;rw [h2]
  rw [ha,hb]
  have key:∀ v,(Builtin.cap_ #[t] o.type #[a.eval y]).run P w=.ok v w→∀ cs,(builtin .cap #[t] o.type cs #[a.eval y]).run P w=.ok (.value v) w:=by
   intro v hv cs
   simp only [builtin,Sem.run_bind,hv,Result.andThen_ok,Sem.run_pure]
  split at h
  ·rename_i e hd
   obtain ⟨bb,e1,rfl⟩:=jce h
   have Hy:=jam e1 hr hn
   have he':eCap bb ρ=some x:=he
   unfold eCap at he'
   generalize bb.get ρ=bv at he' Hy
   split at he'
   ·cases he'
    obtain ⟨b',sz,_,q,_⟩:=Hy
    rw [q] at key ⊢
    exact ⟨_,key _ (cap_slice hd _ _ _ w) _,rfl⟩
   ·cases he'
    have q:a.eval y=.slice none 0 0:=Hy
    rw [q] at key ⊢
    exact ⟨_,key _ (cap_slice hd _ _ _ w) _,rfl⟩
   ·cases he'
  ·cases h
 ·rename_i y z h1
  have ha:args.map a.eval=#[a.eval y,a.eval z]:=by apply Array.toList_inj.1;simp [h1]
  rw [ha]
  obtain ⟨b1,b2,e1,e2,rfl⟩:=jbx h
  obtain ⟨k,m,q1,he⟩:=jbw he
  obtain ⟨k',n,q2,he⟩:=jbw he
  cases he
  have r1:a.eval y=.int k m:=od_c e1 hr hn q1
  have r2:a.eval z=.int k' n:=od_c e2 hr hn q2
  rw [r1,r2]
  refine ⟨.int k (if n>m then n else m),by simp [builtin,Builtin.max_,Builtin.max2],?_⟩
  show Value.int _ _=Value.int _ _
  rw [jhz]
  by_cases q:m<n
  ·rw [decide_eq_true q,if_pos q];rfl
  ·rw [decide_eq_false q,if_neg q];rfl
 ·rename_i y z h1
  have ha:args.map a.eval=#[a.eval y,a.eval z]:=by apply Array.toList_inj.1;simp [h1]
  rw [ha]
  obtain ⟨b1,b2,e1,e2,rfl⟩:=jbx h
  obtain ⟨k,m,q1,he⟩:=jbw he
  obtain ⟨k',n,q2,he⟩:=jbw he
  cases he
  have r1:a.eval y=.int k m:=od_c e1 hr hn q1
  have r2:a.eval z=.int k' n:=od_c e2 hr hn q2
  rw [r1,r2]
  refine ⟨.int k (if n<m then n else m),by simp [builtin,Builtin.min_,Builtin.min2],?_⟩
  show Value.int _ _=Value.int _ _
  rw [jhz n m]
  by_cases q:n<m
  ·rw [decide_eq_true q,if_pos q];rfl
  ·rw [decide_eq_false q,if_neg q];rfl
 ·rename_i y z u h1
  have ha:args.map a.eval=#[a.eval y,a.eval z,a.eval u]:=by apply Array.toList_inj.1;simp [h1]
  rw [ha]
  obtain ⟨b1,b2,b3,e1,e2,e3,rfl⟩:=m3_some h
  obtain ⟨k,l,q1,he⟩:=jbw he
  obtain ⟨k',m,q2,he⟩:=jbw he
  obtain ⟨k'',n,q3,he⟩:=jbw he
  cases he
  have r1:a.eval y=.int k l:=od_c e1 hr hn q1
  have r2:a.eval z=.int k' m:=od_c e2 hr hn q2
  have r3:a.eval u=.int k'' n:=od_c e3 hr hn q3
  rw [r1,r2,r3]
  have mx:∀ i j:Int,mx2 i j=if j>i then j else i:=fun i j=>by
   unfold mx2
   rw [jhz]
   by_cases q:i<j
   ·rw [decide_eq_true q,if_pos q];rfl
   ·rw [decide_eq_false q,if_neg q];rfl
  refine ⟨.int k (mx2 (mx2 l m) n),by rw [mx,mx];simp [builtin,Builtin.max_,Builtin.max2],rfl⟩
 ·cases h
theorem okP {p:PO} (hc:cP P nt o.op=some p) (he:evP p ρ=some x) (hr:RegOk nt G ρ a) (hn:a.tmps.size=nt.nt) (w:World):∃ v,(execOp a.eval o).run P w=.ok (.value v) w∧V.ok G x v:=by
 have fin:∀ {s:Sem Value},execOp a.eval o=(do pure (Next.value (←s)))→(∃ v,s.run P w=.ok v w∧V.ok G x v)→∃ v,(execOp a.eval o).run P w=.ok (.value v) w∧V.ok G x v:=by
  rintro s h1 ⟨v,h2,h3⟩
  exact ⟨v,run_v h1 h2,h3⟩
 unfold cP at hc
 split at hc
 ·rename_i y ho
  obtain ⟨b,e1,rfl⟩:=jce hc
  cases he
  exact ⟨a.eval y,by unfold execOp;rw [ho];rfl,jam e1 hr hn⟩
 ·rename_i y ho
  obtain ⟨b,e1,rfl⟩:=jce hc
  cases he
  exact ⟨a.eval y,by unfold execOp;rw [ho];rfl,jam e1 hr hn⟩
 ·rename_i y z u ho
  obtain ⟨b,c,d,e1,e2,e3,rfl⟩:=m3_some hc
  exact ok_pick e1 e2 e3 ho he hr hn w
 ·rename_i y ho
  obtain ⟨b,e1,rfl⟩:=jce hc
  exact ok_nilc e1 ho he hr hn w
 ·rename_i op t y z yt ho
  exact ok_bin ho hc he hr hn w
 ·rename_i op t y ho
  obtain ⟨b,e1,rfl⟩:=jce hc
  exact ok_un e1 ho he hr hn w
 ·rename_i s t y ho
  exact ok_conv hc ho he hr hn w
 ·rename_i t y i ho
  split at hc
  ·rename_i off n agg hf
   obtain ⟨b,e1,rfl⟩:=jce hc
   exact fin (by unfold execOp;rw [ho]) (ok_fad hf e1 he hr hn w)
  ·cases hc
 ·rename_i t y i ho
  split at hc
  ·rename_i off n agg hf
   obtain ⟨b,e1,rfl⟩:=jce hc
   exact fin (by unfold execOp;rw [ho]) (ok_fld hf e1 he hr hn w)
  ·cases hc
 ·rename_i t y i ho
  split at hc
  ·rename_i e hd
   split at hc
   ·rename_i es hes
    obtain ⟨inf,hi,rfl⟩:=jgz hes
    obtain ⟨b,c,e1,e2,rfl⟩:=jbx hc
    exact fin (by unfold execOp;rw [ho]) (ok_iad hd hi e1 e2 he hr hn w)
   ·cases hc
  ·rename_i n e hd
   split at hc
   ·rename_i es hes
    obtain ⟨inf,hi,rfl⟩:=jgz hes
    obtain ⟨b,c,e1,e2,rfl⟩:=jbx hc
    exact fin (by unfold execOp;rw [ho]) (ok_iaa hd hi e1 e2 he hr hn w)
   ·cases hc
  ·cases hc
 ·rename_i t y i ho
  split at hc
  ·rename_i hd
   obtain ⟨b,c,e1,e2,rfl⟩:=jbx hc
   exact fin (by unfold execOp;rw [ho]) (ok_idx hd e1 e2 he hr hn w)
  ·cases hc
 ·rename_i t y lo hi mx ho
  split at hc
  ·rename_i e hd
   split at hc
   ·rename_i es b l h m hes e1 e2 e3 e4
    obtain ⟨inf,hi,rfl⟩:=jgz hes
    obtain ⟨hq,hc⟩:=jfj hc
    cases hc
    exact fin (by unfold execOp;rw [ho]) (ok_slc hd hi e1 e2 e3 e4 hq he hr hn w)
   ·cases hc
  ·rename_i hd
   split at hc
   ·rename_i b l h e1 e2 e3
    cases hc
    exact fin (by unfold execOp;rw [ho];rfl) (ok_sls hd e1 e2 e3 he hr hn w)
   ·cases hc
  ·cases hc
 ·rename_i y i ho
  obtain ⟨b,e1,rfl⟩:=jce hc
  exact ok_ext e1 ho he hr hn w
 ·rename_i t parts ho
  exact fin (by unfold execOp;rw [ho]) (ok_bld hc he hr hn w)
 ·rename_i f first caps ho
  obtain ⟨hf,hc⟩:=jab hc
  split at hc
  ·rename_i l hl
   cases hc
   have he':eMkf f l ρ=some x:=he
   unfold eMkf at he'
   split at he'
   ·rename_i l' hl'
    cases he'
    have hf':first=#[]:=by simpa using hf
    subst hf'
    refine ⟨.func (.func f) #[] (caps.map a.eval),by unfold execOp;rw [ho];simp [Instr.makeFunc],_,rfl,?_⟩
    have:=caps_ok hr hn _ _ _ hl hl'
    simpa using this
   ·cases he'
  ·cases hc
 ·rename_i b args ts ho
  exact ok_callB hc ho he hr hn w
 ·cases hc
end
end
end Ev
end
section
namespace Ev
open Go.RowKit
noncomputable section
def rowL (dep:Nat) (d:Sc) (t:T8 Sc):Nat→Nat→List Sc
 | 0,_=>[]
 | n+1,i=>tget dep d t i::rowL dep d t n (i+1)
theorem jbg {dep:Nat} {d:Sc} {t:T8 Sc}:∀ n i,(rowL dep d t n i).length=n
 | 0,_=>rfl
 | n+1,i=>by simp [rowL,jbg n]
theorem jgs {dep:Nat} {d:Sc} {t:T8 Sc}:∀ n i j (h:j<(rowL dep d t n i).length),(rowL dep d t n i)[j]=tget dep d t (i+j)
 | 0,_,j,h=>by simp [rowL] at h
 | n+1,i,0,h=>by simp [rowL]
 | n+1,i,j+1,h=>by
   simp only [rowL,List.getElem_cons_succ]
   rw [jgs n (i+1) j]
   congr 1;omega
def setL (dep:Nat):List Sc→Nat→T8 Sc→T8 Sc
 | [],_,t=>t
 | x::xs,i,t=>T8.fc (tset dep t i x) fun t=>setL dep xs (i+1) t
theorem jeg {dep:Nat} {d:Sc}:∀ (xs:List Sc) (i:Nat) (t:T8 Sc),i+xs.length≤8^dep→∀ j,j<8^dep→tget dep d (setL dep xs i t) j=if h:i≤j∧j<i+xs.length then xs[j-i]'(by omega) else tget dep d t j
 | [],i,t,_,j,_=>by rw [dif_neg (by simp only [List.length_nil];omega)];rfl
 | x::xs,i,t,h,j,hj=>by
   simp only [List.length_cons] at h
   show tget dep d (T8.fc (tset dep t i x) fun t=>setL dep xs (i+1) t) j=_
   rw [T8.fc_eq]
   rw [jeg xs (i+1) _ (by omega) j hj]
   by_cases hc:i+1≤j∧j<i+1+xs.length
   ·rw [dif_pos hc,dif_pos (by simp only [List.length_cons];omega)]
    have:j-i=(j-(i+1))+1:=by omega
    simp only [this,List.getElem_cons_succ]
   ·rw [dif_neg hc,jay (by omega) hj]
    by_cases e:j=i
    ·subst e
     rw [if_pos rfl,dif_pos (by simp only [List.length_cons];omega)]
     simp
    ·rw [if_neg e,dif_neg (by simp only [List.length_cons];omega)]
def dpt (n:Nat):Nat:=cnd (Nat.ble n 8) 1 (cnd (Nat.ble n 64) 2 (cnd (Nat.ble n 512) 3 (cnd (Nat.ble n 4096) 4 5)))
theorem jii {n:Nat} (h:n≤32768):n≤8^dpt n:=by
 unfold dpt
 cases h1:Nat.ble n 8 with
 | true=>exact jad h1
 | false =>
   cases h2:Nat.ble n 64 with
   | true=>exact jad h2
   | false =>
     cases h3:Nat.ble n 512 with
     | true=>exact jad h3
     | false =>
       cases h4:Nat.ble n 4096 with
       | true=>exact jad h4
       | false=>exact h
def jdn (xs:List Sc) (x:Bool):Ob:=.row xs.length x (dpt xs.length) .u (setL (dpt xs.length) xs 0 .z)
section
variable {P:Program} {G:Gh} {w:World}
theorem jby {arr:Array Value} {i:Nat} (h:i<arr.size):arr.getD i undef=arr[i]:=by simp [Array.getD,h]
theorem jij {b off:Nat} {arr:Array Value} {el:TypeId} {fz:Nat×Nat} (hb:w.heap[b]? =some (.cells arr el fz)) (h:off<arr.size):w.cell? ⟨b,off,none⟩=some (arr.getD off undef):=by
 unfold World.cell?
 simp only [hb,Option.isSome_none,Bool.false_eq_true,if_false]
 rw [Array.getElem?_eq_getElem h,jby h]
theorem frozen_at {b off:Nat} {arr:Array Value} {el:TypeId} {fz:Nat×Nat} (hb:w.heap[b]? =some (.cells arr el fz)) (h:¬(fz.1≤off∧off<fz.2)):w.frozen? ⟨b,off,none⟩=false:=by
 unfold World.frozen?
 simp only [hb]
 obtain ⟨lo,hi⟩:=fz
 simpa using h
theorem jgc {b off:Nat} {v:Value} (h:w.cell? ⟨b,off,none⟩=some v):(load ⟨b,off,none⟩).run P w=.ok v w:=by rw [run_load,h]
theorem jfc {b off:Nat} {arr:Array Value} {el:TypeId} {fz:Nat×Nat} (hb:w.heap[b]? =some (.cells arr el fz)):∀ (n i:Nat) (acc:Array Value),off+i+n≤arr.size →
 (loadCellsFrom ⟨b,off,none⟩ i n acc).run P w=.ok (acc++arr.extract (off+i) (off+i+n)) w
 | 0,i,acc,_=>by
   simp only [loadCellsFrom,Sem.run_pure,Nat.add_zero]
   have:arr.extract (off+i) (off+i)=#[]:=by simp;omega
   rw [this,Array.append_empty]
 | n+1,i,acc,h=>by
   simp only [loadCellsFrom,jca,Sem.run_bind]
   rw [jgc (jij hb (by omega))]
   simp only [Result.andThen_ok]
   rw [jfc hb n (i+1) _ (by omega),jby (by omega)]
   congr 1
   apply Array.ext'
   simp only [Array.toList_append,Array.toList_push,Array.toList_extract,List.append_assoc]
   congr 1
   simp only [List.extract_eq_take_drop]
   have e1:off+i+(n+1)-(off+i)=n+1:=by omega
   have e2:off+(i+1)+n-(off+(i+1))=n:=by omega
   rw [e1,e2]
   have hl:off+i<arr.toList.length:=by simp;omega
   rw [List.drop_eq_getElem_cons hl,List.take_succ_cons,Array.getElem_toList]
   rfl
theorem jcc {b off n:Nat} {arr:Array Value} {el:TypeId} {fz:Nat×Nat} (hb:w.heap[b]? =some (.cells arr el fz)) (h:off+n≤arr.size):(loadCells ⟨b,off,none⟩ n).run P w=.ok (arr.extract off (off+n)) w:=by
 unfold loadCells
 rw [jfc hb n 0 #[] (by omega)]
 simp
structure Lies (w:World) (b sz:Nat) (G:Gh) (n:Nat) (x:Bool) (dep:Nat) (d:Sc) (t:T8 Sc) (arr:Array Value) (el:TypeId) (fz:Nat×Nat):Prop where
 hb:w.heap[b]? =some (.cells arr el fz)
 size:arr.size=sz
 le:n≤sz
 all:x=false→n=sz
 deep:n≤8^dep
 fz:∀ i,i<sz→¬(fz.1≤i∧i<fz.2)
 cell:∀ i,i<n→Sc.ok G (tget dep d t i) (arr.getD i undef)
theorem R.lies {H:Hp} (h:R G H w) {id n dep:Nat} {x:Bool} {d:Sc} {t:T8 Sc} (ho:H id=.row n x dep d t):∃ b sz arr el fz,G id=some (b,sz)∧Lies w b sz G n x dep d t arr el fz:=by
 obtain ⟨b,sz,o,h1,h2,h3⟩:=h.1 id (by rw [ho];exact fun q=>by cases q)
 rw [ho] at h3
 obtain ⟨arr,el,fz,rfl,k2,k3,k4,k5,k6,k7⟩:=h3
 exact ⟨b,sz,arr,el,fz,h1,h2,k2,k3,k4,k5,k6,k7⟩
theorem Lies.list {b sz n dep:Nat} {x:Bool} {d:Sc} {t:T8 Sc} {arr:Array Value} {el:TypeId} {fz:Nat×Nat} (h:Lies w b sz G n x dep d t arr el fz) {off k:Nat} (hk:off+k≤n):All2 (Sc.ok G) (rowL dep d t k off) (arr.extract off (off+k)).toList:=by
 have hs:=h.size
 have hl:=h.le
 refine All2.of_get _ _ (by rw [jbg];simp;omega) fun i h1 h2=>?_
 rw [jgs,Array.getElem_toList,Array.getElem_extract]
 rw [jbg] at h1
 have:=h.cell (off+i) (by omega)
 rwa [jby (by omega)] at this
theorem jdd {b off:Nat} {el:TypeId} {fz:Nat×Nat}:∀ (vs:List Value) (i:Nat) (arr:Array Value) (w:World),w.heap[b]? =some (.cells arr el fz)→off+i+vs.length≤arr.size→(∀ j,j<arr.size→¬(fz.1≤j∧j<fz.2))→(∀ v∈vs,v.oneCell'=true) →
 ∃ w' arr',(storeCells ⟨b,off,none⟩ vs i).run P w=.ok () w'∧w'.heap[b]? =some (.cells arr' el fz)∧arr'.size=arr.size∧w'.os=w.os∧w'.tape=w.tape∧w'.output=w.output∧w'.heap.size=w.heap.size∧(∀ k,k≠b→w'.heap[k]? =w.heap[k]?) ∧
  (∀ j,j<arr.size→arr'.getD j undef=if h:off+i≤j∧j<off+i+vs.length then vs[j-(off+i)]'(by omega) else arr.getD j undef)
 | [],i,arr,w,hb,hl,hf,ho=>by
   refine ⟨w,arr,rfl,hb,rfl,rfl,rfl,rfl,rfl,fun _ _=>rfl,fun j hj=>?_⟩
   rw [dif_neg (by simp only [List.length_nil];omega)]
 | v::vs,i,arr,w,hb,hl,hf,ho=>by
   simp only [List.length_cons] at hl
   have hi:off+i<arr.size:=by omega
   have hblt:b<w.heap.size:=by
    rcases Nat.lt_or_ge b w.heap.size with q | q
    ·exact q
    ·rw [Array.getElem?_eq_none q] at hb;cases hb
   have hset:(w.setCell ⟨b,off+i,none⟩ v).heap[b]? =some (.cells (arr.setIfInBounds (off+i) v) el fz):=by
    unfold World.setCell
    simp only [Array.getElem?_modify,if_true,hb,Option.map_some,Option.isSome_none,Bool.false_eq_true,if_false]
   obtain ⟨w',arr',k1,k2,k3,k4,k5,k6,k7,k8,k9⟩:=jdd (off:=off) vs (i+1) (arr.setIfInBounds (off+i) v) (w.setCell ⟨b,off+i,none⟩ v) hset (by rw [Array.size_setIfInBounds];omega) (by rw [Array.size_setIfInBounds];exact hf) (fun u hu=>ho u (List.mem_cons_of_mem _ hu))
   refine ⟨w',arr',?_,k2,by rw [k3,Array.size_setIfInBounds],k4,k5,k6,by rw [k7];simp [World.setCell],fun k hk=>?_,fun j hj=>?_⟩
   ·simp only [storeCells,jca,Sem.run_bind]
    rw [run_store _ _ _ _ _ (ho v (List.mem_cons_self ..)),jij hb hi]
    simp only [frozen_at hb (hf _ hi),Bool.false_eq_true,if_false,Result.andThen_ok]
    exact k1
   ·rw [k8 k hk]
    unfold World.setCell
    simp only [Array.getElem?_modify]
    rw [if_neg (fun q=>hk q.symm)]
   ·rw [k9 j (by rw [Array.size_setIfInBounds];exact hj)]
    by_cases hc:off+(i+1)≤j∧j<off+(i+1)+vs.length
    ·rw [dif_pos hc,dif_pos (by simp only [List.length_cons];omega)]
     have:j-(off+i)=(j-(off+(i+1)))+1:=by omega
     simp only [this,List.getElem_cons_succ]
    ·rw [dif_neg hc]
     by_cases e:j=off+i
     ·subst e
      rw [dif_pos (by simp only [List.length_cons];omega),jby (by rw [Array.size_setIfInBounds];exact hj)]
      simp
     ·rw [dif_neg (by simp only [List.length_cons];omega),jby (by rw [Array.size_setIfInBounds];exact hj),jby hj,Array.getElem_setIfInBounds_ne _ (fun q=>e q.symm)]
theorem stp_store {H:Hp} {n0:Nat} (hR:R G H w) {id n dep off:Nat} {x:Bool} {d:Sc} {t:T8 Sc} (ho:H id=.row n x dep d t) {xs:List Sc} {vs:List Value} (hx:All2 (Sc.ok G) xs vs) (hl:off+xs.length≤n) :
 ∃ b sz,G id=some (b,sz)∧∃ w',(storeCells ⟨b,off,none⟩ vs).run P w=.ok () w'∧Stp G H n0 w G (upd H id (.row n x dep d (setL dep xs off t))) n0 w':=by
 obtain ⟨b,sz,arr,el,fz,hg,L⟩:=hR.lies ho
 have hlen:=hx.length
 have hs:=L.size
 have hle:=L.le
 obtain ⟨w',arr',k1,k2,k3,k4,k5,k6,k7,k8,k9⟩:=jdd (P:=P) (b:=b) (off:=off) vs 0 arr w L.hb (by omega) (by rw [hs];exact L.fz) (fun v hv=>by
  obtain ⟨i,hi,rfl⟩:=List.getElem_of_mem hv
  exact Sc.ok_one (hx.get i (by omega) hi))
 refine ⟨b,sz,hg,w',k1,stp_put hR (by rw [ho];exact fun q=>by cases q) hg _ _ ?_ k4 k5 k6 k7 k2 k8⟩
 refine ⟨arr',el,fz,rfl,by omega,hle,L.all,L.deep,L.fz,fun i hi=>?_⟩
 have hdep:=L.deep
 rw [k9 i (by omega)]
 have:=jeg (dep:=dep) (d:=d) xs off t (by omega) i (by omega)
 rw [this]
 by_cases hc:off≤i∧i<off+xs.length
 ·rw [dif_pos hc,dif_pos (by omega)]
  exact hx.get _ _ _
 ·rw [dif_neg hc,dif_neg (by omega)]
  exact L.cell i hi
theorem mkRow_ok {xs:List Sc} {arr:Array Value} (hx:All2 (Sc.ok G) xs arr.toList) (hl:xs.length≤32768) (el:TypeId):ObOk G arr.size (jdn xs false) (.cells arr el (0,0)):=by
 have hlen:xs.length=arr.size:=by rw [hx.length];simp
 refine ⟨arr,el,(0,0),rfl,rfl,by omega,fun _=>hlen,jii hl,fun i _=>by simp,fun i hi=>?_⟩
 have hd:=jii hl
 have:=jeg (dep:=dpt xs.length) (d:=.u) xs 0 .z (by omega) i (by omega)
 rw [this,dif_pos (by omega),jby (by omega)]
 have:=hx.get i hi (by simp;omega)
 simpa using this
theorem jhu {xs:List Sc} {arr:Array Value} (hx:All2 (Sc.ok G) xs (arr.toList.take xs.length)) (hl:xs.length≤32768) (el:TypeId):ObOk G arr.size (jdn xs true) (.cells arr el (0,0)):=by
 have hlen:xs.length≤arr.size:=by have:=hx.length;rw [List.length_take] at this;simp at this;omega
 refine ⟨arr,el,(0,0),rfl,rfl,hlen,(fun q=>by cases q),jii hl,fun i _=>by simp,fun i hi=>?_⟩
 have hd:=jii hl
 have:=jeg (dep:=dpt xs.length) (d:=.u) xs 0 .z (by omega) i (by omega)
 rw [this,dif_pos (by omega),jby (by omega)]
 have:=hx.get i hi (by rw [List.length_take];simp;omega)
 simpa using this
end
end
end Ev
end
section
namespace Ev
open Go.RowKit
noncomputable section
inductive LO where
 | ld (agg:Bool) (n:Nat) (a:Od)
 | b2s (a:Od)
 | lku (ik ok:Bool) (zero:E) (a k:Od)
 | lenm (a:Od)
def obCell (off:Nat) (o:Ob):Option V:=match o with
 | .row n _ dep d t=>cnd (Nat.blt off n) (some (.c (tget dep d t off))) none
 | _=>none
def jbo (off k:Nat) (o:Ob):Option (List Sc):=match o with
 | .row n _ dep d t=>cnd (Nat.ble (Nat.add off k) n) (some (rowL dep d t k off)) none
 | _=>none
def oA (x:Option (List Sc)):Option V:=match x with | some xs=>some (.a xs) | none=>none
def eLd (agg:Bool) (n:Nat) (a:Od) (ρ:RT) (H:HT):Option V:=match a.get ρ with
 | .c (.p id off)=>cnd (Nat.blt id HB) (cnd agg (oA (jbo off n (hget H id))) (obCell off (hget H id))) none
 | _=>none
def pkS:List Sc→Nat→Nat→Option V
 | [],l,n=>some (.c (.s l n))
 | .i .u8 (.ofNat b)::xs,l,n=>cnd (Nat.blt b 256) (pkS xs (Nat.add l 1) (Nat.add (Nat.mul 256 n) b)) none
 | _::_,_,_=>none
def zRow (off k:Nat) (o:Ob):Bool:=match o with
 | .row n _ _ (.i .u8 (.ofNat 0)) .z=>Nat.ble (Nat.add off k) n
 | _=>false
def b2sV (off len:Nat) (o:Ob):Option V:=cnd (zRow off len o) (some (.c (.s len 0))) (match jbo off len o with | some xs=>pkS xs 0 0 | none=>none)
def eB2s (a:Od) (ρ:RT) (H:HT):Option V:=match a.get ρ with
 | .c .sn=>some (.c (.s 0 0))
 | .c (.sk id off len _ _)=>cnd (Nat.blt id HB) (b2sV off len (hget H id)) none
 | .c (.su id off len _ _)=>cnd (Nat.blt id HB) (b2sV off len (hget H id)) none
 | _=>none
def keyEq:Sc→Sc→Option Bool
 | .i k n,.i k' n'=>cnd (Nat.beq (kIx k) (kIx k')) (some (eqF n n')) none
 | .s l m,.s l' m'=>some (and (Nat.beq l l') (Nat.beq m m'))
 | _,_=>none
def jhx (k:Sc):List (Sc×E)→Option (Option E)
 | []=>some none
 | (k',e)::r=>match keyEq k k' with
   | some true=>some (some e)
   | some false=>jhx k r
   | none=>none
def lkuR (ok:Bool) (zero:E):Option (Option E)→Option V
 | some (some e)=>some (cnd ok (.t [e,.c (.b true)]) e.v)
 | some none=>some (cnd ok (.t [zero,.c (.b false)]) zero.v)
 | none=>none
def lkuV (ok:Bool) (zero:E) (k:Sc) (o:Ob):Option V:=match o with
 | .mp es=>lkuR ok zero (jhx k es)
 | _=>none
def keyI:V→Option Sc
 | .c (.i k n)=>some (.i k n)
 | _=>none
def keyS:V→Option Sc
 | .c (.s l n)=>some (.s l n)
 | _=>none
def keyOk (ik:Bool):V→Option Sc:=cnd ik keyI keyS
def eLku (ik ok:Bool) (zero:E) (a k:Od) (ρ:RT) (H:HT):Option V:=match keyOk ik (k.get ρ),a.get ρ with
 | some _,.c .mn=>lkuR ok zero (some none)
 | some x,.c (.m id)=>cnd (Nat.blt id HB) (lkuV ok zero x (hget H id)) none
 | _,_=>none
def lenmV (o:Ob):Option V:=match o with
 | .mp es=>some (.c (.i .i64 (.ofNat es.length)))
 | _=>none
def eLenm (a:Od) (ρ:RT) (H:HT):Option V:=match a.get ρ with
 | .c .mn=>some (.c (.i .i64 0))
 | .c (.m id)=>cnd (Nat.blt id HB) (lenmV (hget H id)) none
 | _=>none
def evL (l:LO):RT→HT→Option V:=LO.casesOn l eLd eB2s eLku eLenm
def cLd (P:Program) (t:TypeId) (x:Option Od):Option LO :=
 match P.info? t,P.underlying t,x with
 | some i,some d,some a=>some (.ld (aggD d) i.size a)
 | _,_,_=>none
def cB2s (P:Program) (s d:TypeId) (x:Option Od):Option LO :=
 match P.underlying s,P.underlying d,x with
 | some (.slice e),some .string,some a=>(match P.underlying e with | some (.int .u8)=>some (.b2s a) | _=>none)
 | _,_,_=>none
def keyTy:TypeDesc→Option Bool
 | .int _=>some true
 | .string=>some false
 | _=>none
def zeroE (P:Program) (t:TypeId):Option E:=match P.info? t with
 | some i=>(match i.zero with | some z=>conE z | none=>none)
 | none=>none
def cLku (P:Program) (t:TypeId) (ok:Bool) (x k:Option Od):Option LO :=
 match P.underlying t,x,k with
 | some (.map kt et),some a,some b=>(match P.underlying kt,zeroE P et with
   | some d,some z=>(match keyTy d with | some ik=>some (.lku ik ok z a b) | none=>none)
   | _,_=>none)
 | _,_,_=>none
def cL (P:Program) (nt:Cx) (op:Op):Option LO :=
 match op with
 | .load t x=>cLd P t (cOd nt x)
 | .convert s d x=>cB2s P s d (cOd nt x)
 | .lookup t x k ok=>cLku P t ok (cOd nt x) (cOd nt k)
 | .call { callee:=.builtin .len,args,argTypes }=>(match args.toList,argTypes.toList with
   | [x],[t]=>(match P.underlying t,cOd nt x with
     | some (.map _ _),some a=>some (.lenm a)
     | _,_=>none)
   | _,_=>none)
 | _=>none
section
variable {P:Program} {nt:Cx} {o:Oper} {G:Gh} {ρ:RT} {a:Act} {x:V} {H:HT} {w:World}
theorem jgw {id:Nat} (hid:Nat.blt id HB=true) {n dep:Nat} {y:Bool} {d:Sc} {t:T8 Sc} (h:hget H id=.row n y dep d t) (hR:R G (hp H) w):∃ b sz arr el fz,G id=some (b,sz)∧Lies w b sz G n y dep d t arr el fz :=
 hR.lies (id:=id) (by rw [jas (jaa hid)];exact h)
theorem jbp {off k:Nat} {o:Ob} {xs:List Sc} (h:jbo off k o=some xs):∃ n y dep d t,o=.row n y dep d t∧off+k≤n∧xs=rowL dep d t k off:=by
 unfold jbo at h
 split at h
 ·obtain ⟨hle,h⟩:=jab h
  cases h
  exact ⟨_,_,_,_,_,rfl,jad hle,rfl⟩
 ·cases h
theorem ok_ld {t:TypeId} {y:Operand} {l:LO} (hc:cLd P t (cOd nt y)=some l) (he:evL l ρ H=some x) (hR:R G (hp H) w) (hr:RegOk nt G ρ a) (hn:a.tmps.size=nt.nt) :
 ∃ v,(Instr.loadAt t (a.eval y)).run P w=.ok v w∧V.ok G x v:=by
 unfold cLd at hc
 split at hc
 ·rename_i i d b h1 h2 h3
  cases hc
  have he':eLd (aggD d) i.size b ρ H=some x:=he
  have Hy:=jam h3 hr hn
  unfold eLd at he'
  generalize b.get ρ=bv at he' Hy
  split at he'
  ·rename_i id off
   obtain ⟨hid,he'⟩:=jab he'
   obtain ⟨bb,sz,hg,hv⟩:=Hy
   rw [hv]
   unfold Instr.loadAt Instr.sureAddr loadVar
   simp only [pure_bind]
   rw [Sem.run_bind,run_isAgg h2]
   simp only [Result.andThen_ok]
   cases hag:aggD d with
   | true =>
     rw [hag] at he'
     simp only [cnd_true] at he'
     unfold oA at he'
     split at he'
     ·rename_i xs hxs
      cases he'
      unfold jbo at hxs
      split at hxs
      ·rename_i n y dep d t hob
       obtain ⟨hle,hxs⟩:=jab hxs
       cases hxs
       obtain ⟨b',sz',arr,el,fz,hg',L⟩:=jgw hid hob hR
       rw [hg] at hg';cases hg'
       have hle:=jad hle
       have hle':off+i.size≤n:=hle
       refine ⟨.agg (arr.extract off (off+i.size)),?_,_,rfl,L.list hle'⟩
       simp only [if_true,Sem.run_bind,jbf h1,Result.andThen_ok]
       rw [jcc L.hb (by have:=L.size;have:=L.le;omega)]
       rfl
      ·cases hxs
     ·cases he'
   | false =>
     rw [hag] at he'
     simp only [cnd_false] at he'
     unfold obCell at he'
     split at he'
     ·rename_i n y dep d t hob
      obtain ⟨hlt,he'⟩:=jab he'
      cases he'
      obtain ⟨b',sz',arr,el,fz,hg',L⟩:=jgw hid hob hR
      rw [hg] at hg';cases hg'
      have hlt:=jaa hlt
      refine ⟨arr.getD off undef,?_,L.cell off hlt⟩
      simp only [Bool.false_eq_true,if_false]
      exact jgc (jij L.hb (by have:=L.size;have:=L.le;omega))
     ·cases he'
  ·cases he'
 ·cases hc
theorem pkS_ok:∀ (xs:List Sc) (l n:Nat),pkS xs l n=some x→∀ vs:List Value,All2 (Sc.ok G) xs vs→∃ ns:List Int,vs=ns.map (Value.int .u8) ∧
 ∀ s:ByteArray,s.data.toList.length=l→pk s.data.toList=n→V.ok G x (.string (ns.foldl (fun r n=>r.push (UInt8.ofNat n.toNat)) s))
 | [],l,n,h,vs,hv=>by
   cases hv
   have h':some (V.c (.s l n))=some x:=h
   cases h'
   exact ⟨[],rfl,fun s h1 h2=>⟨s,rfl,h1,h2⟩⟩
 | y::xs,l,n,h,vs,hv=>by
   unfold pkS at h
   split at h
   ·rename_i q;cases q
   ·rename_i b xs' hxs
    cases hxs
    obtain ⟨hb,h⟩:=jab h
    have hb:=jaa hb
    cases hv with
    | cons h1 h2 =>
      rename_i v vs'
      obtain ⟨ns,rfl,k⟩:=pkS_ok xs _ _ h vs' h2
      have hv:v=.int .u8 (.ofNat b):=h1
      refine ⟨Int.ofNat b::ns,by rw [hv];rfl,fun s q1 q2=>?_⟩
      simp only [List.foldl_cons]
      have e:(s.push (UInt8.ofNat (Int.ofNat b).toNat)).data.toList=s.data.toList++[UInt8.ofNat b]:=by
       show (s.data.push _).toList=_
       rw [Array.toList_push];rfl
      refine k _ ?_ ?_
      ·rw [e,List.length_append,q1];rfl
      ·rw [e,pk_append,←q2]
       show 256^1*pk s.data.toList+(256*0+(UInt8.ofNat b).toNat)=256*pk s.data.toList+b
       rw [UInt8.toNat_ofNat_of_lt' hb]
       omega
   ·cases h
theorem zero_bytes (n:Nat):pk (List.replicate n 0)=0:=by
 induction n with
 | zero=>rfl
 | succ n ih=>rw [List.replicate_succ,pk_cons,ih];simp
theorem jfs:∀ (n:Nat) (s:ByteArray),((List.replicate n (0:Int)).foldl (fun r n=>r.push (UInt8.ofNat n.toNat)) s).data.toList=s.data.toList++List.replicate n 0
 | 0,s=>by simp
 | n+1,s=>by
   rw [List.replicate_succ,List.foldl_cons,jfs n]
   have e:(s.push (UInt8.ofNat (0:Int).toNat)).data.toList=s.data.toList++[0]:=by
    show (s.data.push _).toList=_
    rw [Array.toList_push];rfl
   rw [e,List.append_assoc];rfl
theorem zRow_some {off k:Nat} {o:Ob} (h:zRow off k o=true):∃ n y dep,o=.row n y dep (.i .u8 (.ofNat 0)) .z∧off+k≤n:=by
 unfold zRow at h
 split at h
 ·exact ⟨_,_,_,rfl,jad h⟩
 ·cases h
theorem b2s_ok {off len:Nat} {ob:Ob} (h:b2sV off len ob=some x) {id b sz:Nat} (hid:Nat.blt id HB=true) (hg:G id=some (b,sz)) (ho:hget H id=ob) (hR:R G (hp H) w) (cap:Nat) :
 ∃ v,(Conv.bytesToString (.slice (some ⟨b,off,none⟩) len cap)).run P w=.ok v w∧V.ok G x v:=by
 unfold b2sV at h
 cases hz:zRow off len ob with
 | true =>
   rw [hz] at h
   cases h
   obtain ⟨n,y,dep,rfl,hle⟩:=zRow_some hz
   ·obtain ⟨b',sz',arr,el,fz,hg',L⟩:=jgw hid ho hR
    rw [hg] at hg';cases hg'
    have hl:=jcc (P:=P) L.hb (off:=off) (n:=len) (by have:=L.size;have:=L.le;omega)
    have e:arr.extract off (off+len)=((List.replicate len (0:Int)).map (Value.int .u8)).toArray:=by
     apply Array.toList_inj.1
     apply List.ext_getElem
     ·simp;have:=L.size;have:=L.le;omega
     ·intro i h1 h2
      have hi:i<len:=by simp at h2;exact h2
      have hc:=L.cell (off+i) (by omega)
      have hq:tget dep (Sc.i .u8 (.ofNat 0)) .z (off+i)=Sc.i .u8 (.ofNat 0):=jel _ _ _
      rw [hq] at hc
      have hc':arr.getD (off+i) undef=.int .u8 0:=hc
      rw [jby (by have:=L.size;have:=L.le;omega)] at hc'
      rw [Array.getElem_toList,Array.getElem_extract,hc']
      simp
    rw [e] at hl
    refine ⟨_,run_bytesToString w _ len cap _ hl,_,rfl,?_,?_⟩
    ·rw [jfs];simp
    ·rw [jfs];simp [zero_bytes]
 | false =>
   rw [hz] at h
   simp only [cnd_false] at h
   split at h
   ·rename_i xs hxs
    obtain ⟨n,y,dep,d,t,rfl,hle,rfl⟩:=jbp hxs
    ·obtain ⟨b',sz',arr,el,fz,hg',L⟩:=jgw hid ho hR
     rw [hg] at hg';cases hg'
     have hl:=jcc (P:=P) L.hb (off:=off) (n:=len) (by have:=L.size;have:=L.le;omega)
     obtain ⟨ns,e,k⟩:=pkS_ok _ 0 0 h _ (L.list hle)
     have e':arr.extract off (off+len)=(ns.map (Value.int .u8)).toArray:=by apply Array.toList_inj.1;rw [e]
     rw [e'] at hl
     exact ⟨_,run_bytesToString w _ len cap _ hl,k _ rfl rfl⟩
   ·cases h
theorem ok_b2s {s d:TypeId} {y:Operand} {l:LO} (hc:cB2s P s d (cOd nt y)=some l) (he:evL l ρ H=some x) (hR:R G (hp H) w) (hr:RegOk nt G ρ a) (hn:a.tmps.size=nt.nt) :
 ∃ v,(convert s d (a.eval y)).run P w=.ok v w∧V.ok G x v:=by
 unfold cB2s at hc
 split at hc
 ·rename_i e b h1 h2 h3
  split at hc
  ·rename_i h4
   cases hc
   have he':eB2s b ρ H=some x:=he
   have Hy:=jam h3 hr hn
   unfold eB2s at he'
   generalize b.get ρ=bv at he' Hy
   split at he'
   ·cases he'
    have hv:a.eval y=.slice none 0 0:=Hy
    rw [hv,run_convert_bytes_string w s d e _ _ _ h1 h4 h2]
    exact ⟨.string .empty,rfl,.empty,rfl,rfl,rfl⟩
   ·obtain ⟨hid,he'⟩:=jab he'
    obtain ⟨bb,sz,hg,hv,_⟩:=Hy
    rw [hv,run_convert_bytes_string w s d e _ _ _ h1 h4 h2]
    exact b2s_ok he' hid hg rfl hR _
   ·obtain ⟨hid,he'⟩:=jab he'
    obtain ⟨bb,sz,c,hg,hv,_⟩:=Hy
    rw [hv,run_convert_bytes_string w s d e _ _ _ h1 h4 h2]
    exact b2s_ok he' hid hg rfl hR _
   ·cases he'
  ·cases hc
 ·cases hc
def IsK (ik:Bool) (v:Value):Prop:=match ik with | true=>∃ k n,v=.int k n | false=>∃ s,v=.string s
theorem run_checkK {kt:TypeId} {d:TypeDesc} {ik:Bool} (hd:P.underlying kt=some d) (hk:keyTy d=some ik) {v:Value} (hv:IsK ik v) (e:Bool) (m:Nat):(Instr.checkKey e (m+1) kt v).run P w=.ok () w:=by
 unfold Instr.checkKey
 rw [Sem.run_bind,jaf hd]
 simp only [Result.andThen_ok]
 cases d<;>first | (cases hk;done) | skip
 ·cases hk;obtain ⟨k,n,rfl⟩:=hv;rfl
 ·cases hk;obtain ⟨s,rfl⟩:=hv;rfl
theorem jkp {d:TypeDesc} {ik:Bool} (hk:keyTy d=some ik) {k k':Sc} {b:Bool} (h:keyEq k k'=some b) {v v':Value} (hv:Sc.ok G k v) (hv':Sc.ok G k' v') (hd:IsK ik v):Instr.sameNow d v v'=some b:=by
 unfold keyEq at h
 split at h
 ·rename_i k n k' n'
  obtain ⟨hq,h2⟩:=jab h
  have hq:=kIx_inj hq
  have h2:=Option.some.inj h2
  have hv:v=.int k n:=hv
  have hv':v'=.int k' n':=hv'
  rw [hv] at hd ⊢
  rw [hv',←hq]
  cases d<;>first | (cases hk;done) | skip
  ·simp only [Instr.sameNow,if_true];rw [←h2,jem]
  ·cases hk;obtain ⟨s,hs⟩:=hd;cases hs
 ·have h:=Option.some.inj h
  obtain ⟨s,rfl,a1,a2⟩:=hv
  obtain ⟨s',rfl,b1,b2⟩:=hv'
  cases d<;>first | (cases hk;done) | skip
  ·cases hk;obtain ⟨q,n,hs⟩:=hd;cases hs
  ·subst a1 a2 b1 b2
   simp only [Instr.sameNow]
   rw [←h,pk_beq]
   congr 1
   obtain ⟨s⟩:=s
   obtain ⟨s'⟩:=s'
   show (s==s')=(s.toList==s'.toList)
   by_cases e:s.toList=s'.toList
   ·rw [Array.toList_inj.1 e,beq_self_eq_true,beq_self_eq_true]
   ·rw [beq_eq_false_iff_ne.2 e]
    exact beq_eq_false_iff_ne.2 (fun q=>e (by rw [q]))
 ·cases h
theorem jjl {d:TypeDesc} {ik:Bool} (hkt:keyTy d=some ik) {k:Sc} {v:Value} (hv:Sc.ok G k v) (hd:IsK ik v):∀ (es:List (Sc×E)) (ents:List MapEntry) (i:Nat) (r:Option E),jhx k es=some r→All2 (fun (p:Sc×E) (e:MapEntry)=>Sc.ok G p.1 e.key∧E.ok G p.2 e.val) es ents →
 (r=none∧Instr.findNow d v ents i=some none)∨∃ j e c,r=some e∧E.ok G e c∧j<ents.length∧Instr.findNow d v ents i=some (some (i+j,c))
 | [],ents,i,r,h,ha=>by
   cases ha
   have h:=Option.some.inj h
   exact .inl ⟨h.symm,rfl⟩
 | (k',e)::es,ents,i,r,h,ha=>by
   cases ha with
   | cons h1 h2 =>
     rename_i en ents'
     unfold jhx at h
     cases hk:keyEq k k' with
     | none=>rw [hk] at h;cases h
     | some b =>
       rw [hk] at h
       have hs:=jkp hkt hk hv h1.1 hd
       cases b with
       | true =>
         cases h
         refine .inr ⟨0,e,en.val,rfl,h1.2,by simp,?_⟩
         simp [Instr.findNow,hs]
       | false =>
         simp only [] at h
         rcases jjl hkt hv hd es ents' (i+1) r h h2 with ⟨rfl,q⟩ | ⟨j,e',c,rfl,q1,q2,q3⟩
         ·exact .inl ⟨rfl,by simp [Instr.findNow,hs,q]⟩
         ·refine .inr ⟨j+1,e',c,rfl,q1,by simp;omega,?_⟩
          simp only [Instr.findNow,hs,q3]
          congr 3;omega
theorem jei {ik:Bool} {v:V} {k:Sc} (h:keyOk ik v=some k):v=.c k∧∀ c,Sc.ok G k c→IsK ik c:=by
 cases ik with
 | true =>
   have h:keyI v=some k:=h
   unfold keyI at h
   split at h
   ·cases h;exact ⟨rfl,fun c hc=>⟨_,_,hc⟩⟩
   ·cases h
 | false =>
   have h:keyS v=some k:=h
   unfold keyS at h
   split at h
   ·cases h;exact ⟨rfl,fun c hc=>by obtain ⟨s,q,_⟩:=hc;exact ⟨s,q⟩⟩
   ·cases h
theorem R.mapAt {H:Hp} (h:R G H w) {id:Nat} {es:List (Sc×E)} (ho:H id=.mp es):∃ b sz ents clock,G id=some (b,sz)∧w.heap[b]? =some (.map ents clock)∧All2 (fun (p:Sc×E) (e:MapEntry)=>Sc.ok G p.1 e.key∧E.ok G p.2 e.val) es ents.toList:=by
 obtain ⟨b,sz,o,h1,h2,h3⟩:=h.1 id (by rw [ho];exact fun q=>by cases q)
 rw [ho] at h3
 obtain ⟨ents,clock,rfl,_,k⟩:=h3
 exact ⟨b,sz,ents,clock,h1,h2,k⟩
theorem R.mapSt {H:Hp} (h:R G H w) {id:Nat} {es:List (Sc×E)} (ho:H id=.mp es) {b sz:Nat} (hg:G id=some (b,sz)) {ents:Array MapEntry} {clock:Nat} (hb:w.heap[b]? =some (.map ents clock)):MapKept.Stamped ents clock:=by
 obtain ⟨b',sz',o,h1,h2,h3⟩:=h.1 id (by rw [ho];exact fun q=>by cases q)
 rw [hg] at h1;cases h1
 rw [hb] at h2;cases h2
 rw [ho] at h3
 obtain ⟨ents',clock',e,k,_⟩:=h3
 cases e;exact k
theorem run_getMap {b clock:Nat} {ents:Array MapEntry} (h:w.heap[b]? =some (.map ents clock)):(getObj b).run P w=.ok (.map ents clock) w:=by
 simp only [getObj,Sem.run,h]
theorem zeroE_ok {et:TypeId} {z:E} (h:zeroE P et=some z):∃ v,(zeroValue et).run P w=.ok v w∧E.ok G z v:=by
 unfold zeroE at h
 split at h
 ·rename_i i hi
  split at h
  ·rename_i v hv
   exact ⟨v,by simp [zeroValue,jdh hi,hv],conE_ok G h⟩
  ·cases h
 ·cases h
theorem lookup_run {t kt et:TypeId} {d:TypeDesc} {ik ok:Bool} (h1:P.underlying t=some (.map kt et)) (h4:P.underlying kt=some d) (hk:keyTy d=some ik) {z A zv:Value} (hz:IsK ik z) {ents:List MapEntry} (hes:(A=.map none∧ents=[])∨∃ b clock arr,A=.map (some b)∧w.heap[b]? =some (.map arr clock)∧arr.toList=ents)
 {fn:Option (Nat×Value)} (hfn:Instr.findNow d z ents 0=some fn) (z1:(zeroValue et).run P w=.ok zv w) :
 (Instr.lookup t A z ok).run P w=.ok (match fn with | some (_,c)=>if ok then .tuple #[c,.bool true] else c | none=>if ok then .tuple #[zv,.bool false] else zv) w:=by
 have key:∀ es:Array MapEntry,es.toList=ents→(do
  Instr.checkKey es.isEmpty 10000 kt z
  let __x ←match ←Instr.findKey kt z es.toList with
   | some (_,v)=>pure (v,true)
   | none=>pure (←zeroValue et,false)
  match __x with | (v,k)=>pure (if ok then .tuple #[v,.bool k] else v):Sem Value).run P w=.ok (match fn with | some (_,c)=>if ok then .tuple #[c,.bool true] else c | none=>if ok then .tuple #[zv,.bool false] else zv) w:=by
  intro es hes'
  rw [Sem.run_bind,run_checkK h4 hk hz,hes']
  simp only [Result.andThen_ok,Instr.findKey,Sem.run_bind,jaf h4,hfn,Sem.run_pure]
  cases fn with
  | none=>simp [z1]
  | some p=>simp
 rcases hes with ⟨rfl,rfl⟩ | ⟨b,clock,arr,rfl,hb,rfl⟩
 ·have:=key #[] rfl
  rw [←this]
  unfold Instr.lookup
  rw [Sem.run_bind,jaf h1]
  rfl
 ·have:=key arr rfl
  refine Eq.trans ?_ this
  unfold Instr.lookup
  rw [Sem.run_bind,jaf h1]
  simp only [Result.andThen_ok]
  rw [Sem.run_bind,run_getMap hb]
  simp only [Result.andThen_ok,pure_bind]
  rfl
theorem ok_lku {t:TypeId} {ok:Bool} {y z:Operand} {l:LO} (hc:cLku P t ok (cOd nt y) (cOd nt z)=some l) (he:evL l ρ H=some x) (hR:R G (hp H) w) (hr:RegOk nt G ρ a) (hn:a.tmps.size=nt.nt) :
 ∃ v,(Instr.lookup t (a.eval y) (a.eval z) ok).run P w=.ok v w∧V.ok G x v:=by
 unfold cLku at hc
 split at hc
 ·rename_i kt et b c h1 h2 h3
  split at hc
  ·rename_i d zz h4 h5
   split at hc
   ·rename_i ik hk
    cases hc
    have he':eLku ik ok zz b c ρ H=some x:=he
    have Hy:=jam h2 hr hn
    have Hz:=jam h3 hr hn
    unfold eLku at he'
    generalize b.get ρ=bv at he' Hy
    generalize c.get ρ=cv at he' Hz
    obtain ⟨zv,z1,z2⟩:=zeroE_ok (w:=w) (G:=G) h5
    have out0:lkuR ok zz (some none)=some x→V.ok G x (if ok then .tuple #[zv,.bool false] else zv):=by
     intro hx
     cases hx
     cases ok with
     | true=>exact ⟨_,rfl,.cons z2 (.cons rfl .nil)⟩
     | false=>exact E.v_ok.2 z2
    split at he'
    ·
     rename_i k hkk
     obtain ⟨rfl,hks⟩:=jei (G:=G) hkk
     have hv:a.eval y=.map none:=Hy
     rw [hv]
     exact ⟨_,lookup_run (fn:=none) h1 h4 hk (hks _ Hz) (.inl ⟨rfl,rfl⟩) rfl z1,out0 he'⟩
    ·rename_i k id hkk
     obtain ⟨rfl,hks⟩:=jei (G:=G) hkk
     obtain ⟨hid,he'⟩:=jab he'
     obtain ⟨bb,sz,hg,hv⟩:=Hy
     rw [hv]
     unfold lkuV at he'
     split at he'
     ·rename_i es hob
      obtain ⟨b',sz',ents,clock,hg',hb,ha⟩:=hR.mapAt (id:=id) (by rw [jas (jaa hid)];exact hob)
      rw [hg] at hg';cases hg'
      cases hmf:jhx k es with
      | none=>rw [hmf] at he';cases he'
      | some r =>
        rw [hmf] at he'
        rcases jjl hk Hz (hks _ Hz) es ents.toList 0 r hmf ha with ⟨rfl,q⟩ | ⟨j,e,c',rfl,q1,q2,q3⟩
        ·exact ⟨_,lookup_run h1 h4 hk (hks _ Hz) (.inr ⟨_,_,_,rfl,hb,rfl⟩) q z1,out0 he'⟩
        ·refine ⟨_,lookup_run h1 h4 hk (hks _ Hz) (.inr ⟨_,_,_,rfl,hb,rfl⟩) q3 z1,?_⟩
         cases he'
         cases ok with
         | true=>exact ⟨_,rfl,.cons q1 (.cons rfl .nil)⟩
         | false=>exact E.v_ok.2 q1
     ·cases he'
    ·cases he'
   ·cases hc
  ·cases hc
 ·cases hc
theorem ok_lenm {t k e ty:TypeId} (ht:P.underlying t=some (.map k e)) {y:Operand} {b:Od} (h1:cOd nt y=some b) (he:eLenm b ρ H=some x) (hR:R G (hp H) w) (hr:RegOk nt G ρ a) (hn:a.tmps.size=nt.nt) :
 ∃ v,(Builtin.len_ #[t] ty #[a.eval y]).run P w=.ok v w∧V.ok G x v:=by
 have Hy:=jam h1 hr hn
 unfold eLenm at he
 generalize b.get ρ=bv at he Hy
 split at he
 ·cases he
  have hv:a.eval y=.map none:=Hy
  rw [hv]
  exact ⟨goInt 0,by simp [Builtin.len_,jaf ht],rfl⟩
 ·rename_i id
  obtain ⟨hid,he⟩:=jab he
  obtain ⟨bb,sz,hg,hv⟩:=Hy
  rw [hv]
  unfold lenmV at he
  split at he
  ·rename_i es hob
   cases he
   obtain ⟨b',sz',ents,clock,hg',hb,ha⟩:=hR.mapAt (id:=id) (by rw [jas (jaa hid)];exact hob)
   rw [hg] at hg';cases hg'
   refine ⟨goInt ents.size,by simp [Builtin.len_,jaf ht,run_getMap hb],?_⟩
   show goInt _=Value.int .i64 _
   have:es.length=ents.size:=by rw [ha.length];simp
   rw [this];rfl
  ·cases he
 ·cases he
theorem okL {l:LO} (hc:cL P nt o.op=some l) (he:evL l ρ H=some x) (hR:R G (hp H) w) (hr:RegOk nt G ρ a) (hn:a.tmps.size=nt.nt):∃ v,(execOp a.eval o).run P w=.ok (.value v) w∧V.ok G x v:=by
 have fin:∀ {s:Sem Value},execOp a.eval o=(do pure (Next.value (←s)))→(∃ v,s.run P w=.ok v w∧V.ok G x v)→∃ v,(execOp a.eval o).run P w=.ok (.value v) w∧V.ok G x v:=by
  rintro s h1 ⟨v,h2,h3⟩
  exact ⟨v,run_v h1 h2,h3⟩
 unfold cL at hc
 split at hc
 ·rename_i t y ho
  exact fin (by unfold execOp;rw [ho]) (ok_ld hc he hR hr hn)
 ·rename_i s d y ho
  exact fin (by unfold execOp;rw [ho]) (ok_b2s hc he hR hr hn)
 ·rename_i t y z ok ho
  exact fin (by unfold execOp;rw [ho]) (ok_lku hc he hR hr hn)
 ·rename_i args ts ho
  split at hc
  ·rename_i y t h1 h2
   split at hc
   ·rename_i k e b h3 h4
    cases hc
    have ha:args.map a.eval=#[a.eval y]:=by apply Array.toList_inj.1;simp [h1]
    have hb:ts=#[t]:=by apply Array.toList_inj.1;rw [h2]
    refine fin (s:=Builtin.len_ #[t] o.type #[a.eval y]) ?_ (ok_lenm h3 h4 he hR hr hn)
    unfold execOp;rw [ho]
    simp only [resolve,pure_bind,invoke,ha,hb]
    rfl
   ·cases hc
  ·cases hc
 ·cases hc
end
end
end Ev
end
section
namespace Ev
open Go.RowKit
noncomputable section
inductive AO where
 | alloc (xs:List Sc)
 | box (a:Od)
 | bsl (zero:List Sc) (len es:Nat) (parts:List (Nat×Nat×Od))
 | mks (zero:List Sc) (es bytes:Nat) (n c:Od)
 | mkm
 | allocB (el:TypeId)
def rowOf (xs:List Sc) (v:V):Option (Ob×V):=cnd (Nat.ble xs.length 32768) (some (jdn xs false,v)) none
def eAlloc (xs:List Sc) (ρ:RT) (id:Nat):Option (Ob×V):=rowOf xs (.c (.p id 0))
def eBox (a:Od) (ρ:RT) (id:Nat):Option (Ob×V):=match vCells (a.get ρ) with | some xs=>rowOf xs (.c (.p id 0)) | none=>none
def repL (zl:List Sc):Nat→List Sc
 | 0=>[]
 | n+1=>zl++repL zl n
def eBsl (zero:List Sc) (len es:Nat) (parts:List (Nat×Nat×Od)) (ρ:RT) (id:Nat):Option (Ob×V):=match bldV ρ parts zero with
 | some (.a xs)=>cnd (Nat.ble (Nat.mul len es) xs.length) (rowOf xs (.c (.sk id 0 len len es))) none
 | _=>none
def mksO (zero:List Sc) (es n:Nat):Option Ob:=match zero,es with
 | [z],1=>some (.row n false (dpt n) z .z)
 | zl,_=>some (jdn (repL zl n) false)
def eMks (zero:List Sc) (es bytes:Nat) (n c:Od) (ρ:RT) (id:Nat):Option (Ob×V):=match n.get ρ,c.get ρ with
 | .c (.i .i64 (.ofNat m)),.c (.i .i64 (.ofNat k))=>cnd (and (Nat.ble m k) (and (Nat.ble (Nat.mul k es) 32768) (and (Nat.ble k 32768) (Nat.ble bytes 1000000)))) (match mksO zero es k with | some o=>some (o,.c (.sk id 0 m k es)) | none=>none) none
 | _,_=>none
def eMkm (ρ:RT) (id:Nat):Option (Ob×V):=some (.mp [],.c (.m id))
def eAllocB (el:TypeId) (ρ:RT) (id:Nat):Option (Ob×V):=some (.bd el .pn .sn,.c (.p id 0))
def evA (p:AO):RT→Nat→Option (Ob×V):=AO.casesOn p eAlloc eBox eBsl eMks eMkm eAllocB
def cBsl (P:Program) (nt:Cx) (t:TypeId) (len:Nat) (parts:Array (Nat×Operand)):Option AO :=
 match P.underlying t with
 | some (.slice e)=>(match P.info? e with
   | some ie=>(match ie.zero with
     | some z=>(match conL z.cells.toList,jgh nt (fun i=>some (i*ie.size,ie.size)) parts.toList with
       | some zl,some ps=>cnd (and (Nat.ble (len*ie.size) 16777216) (and (Nat.beq z.cells.size ie.size) (not (Nat.beq ie.size 0)))) (some (.bsl (repL zl len) len ie.size ps)) none
       | _,_=>none)
     | none=>none)
   | none=>none)
 | _=>none
def cMks (P:Program) (nt:Cx) (t:TypeId) (x y:Operand):Option AO :=
 match P.underlying t,cOd nt x,cOd nt y with
 | some (.slice e),some a,some b=>(match P.info? e with
   | some ie=>(match ie.zero with
     | some z=>(match conL z.cells.toList with
       | some zl=>cnd (and (Nat.beq z.cells.size ie.size) (not (Nat.beq ie.size 0))) (some (.mks zl ie.size ie.bytes a b)) none
       | none=>none)
     | none=>none)
   | none=>none)
 | _,_,_=>none
def cA (P:Program) (nt:Cx) (op:Op):Option AO :=
 match op with
 | .alloc e=>(match zeroL P e with | some [.pn,.sn]=>some (.allocB e) | some xs=>some (.alloc xs) | none=>none)
 | .box e x=>(match cOd nt x with | some a=>some (.box a) | none=>none)
 | .buildSlice t len parts=>cBsl P nt t len parts
 | .makeSlice t x y=>cMks P nt t x y
 | .makeMap t none=>some .mkm
 | _=>none
section
variable {P:Program} {nt:Cx} {o:Oper} {G:Gh} {ρ:RT} {a:Act} {w:World} {id:Nat} {ob:Ob} {v:V}
theorem jhl {P:Program} {ρ:Operand→Value} {o:Oper} {s:Sem Value} {w w':World} {v:Value} (h:execOp ρ o=(do pure (Next.value (←s)))) (hs:s.run P w=.ok v w'):(execOp ρ o).run P w=.ok (.value v) w':=by
 rw [h];simp [hs]
def Makes (P:Program) (o:Oper) (a:Act) (w:World) (G:Gh) (id:Nat) (ob:Ob) (v:V):Prop :=
 ob≠.no∧∃ cv obj sz,(execOp a.eval o).run P w=.ok (.value cv) { w with heap:=w.heap.push obj }∧∀ G',Gh.le G G'→G' id=some (w.heap.size,sz)→ObOk G' sz ob obj∧V.ok G' v cv
theorem rowOf_some {xs:List Sc} {u:V} (h:rowOf xs u=some (ob,v)):xs.length≤32768∧ob=jdn xs false∧v=u:=by
 unfold rowOf at h
 obtain ⟨h1,h2⟩:=jab h
 cases h2
 exact ⟨jad h1,rfl,rfl⟩
theorem jkm {xs:List Sc} {x:Bool}:jdn xs x≠.no:=fun q=>by cases q
theorem jhy {xs:List Sc} {u:V} (h:rowOf xs u=some (ob,v)) {arr:Array Value} {el:TypeId} {cv:Value} (hx:All2 (Sc.ok G) xs arr.toList) (hrun:(execOp a.eval o).run P w=.ok (.value cv) { w with heap:=w.heap.push (.cells arr el (0,0)) })
 (hv:∀ G',G' id=some (w.heap.size,arr.size)→V.ok G' u cv):Makes P o a w G id ob v:=by
 obtain ⟨h1,rfl,rfl⟩:=rowOf_some h
 exact ⟨jkm,cv,_,arr.size,hrun,fun G' hle hg=>⟨(mkRow_ok (hx.mono fun _ _=>Sc.ok_le hle) h1 el),hv G' hg⟩⟩
theorem zeroL_ok {t:TypeId} {xs:List Sc} (h:zeroL P t=some xs):∃ z,(zeroValue t).run P w=.ok z w∧All2 (Sc.ok G) xs z.cells.toList:=by
 unfold zeroL at h
 split at h
 ·rename_i i hi
  split at h
  ·rename_i z hz
   exact ⟨z,by simp [zeroValue,jdh hi,hz],jev G h⟩
  ·cases h
 ·cases h
theorem jgt (zl:List Sc):∀ n,(repL zl n).length=n*zl.length
 | 0=>by simp [repL]
 | n+1=>by rw [repL,List.length_append,jgt zl n,Nat.succ_mul];omega
theorem jkf {zl:List Sc} {zs:Array Value} (h:All2 (Sc.ok G) zl zs.toList) (h0:0<zs.size) (n:Nat):All2 (Sc.ok G) (repL zl n) ((Array.range (n*zs.size)).map (zs[· % zs.size]!)).toList:=by
 have hl:zl.length=zs.size:=by rw [h.length];simp
 have key:∀ n i (hi:i<(repL zl n).length),(repL zl n)[i]=zl[i % zl.length]'(Nat.mod_lt _ (by omega)):=by
  intro n
  induction n with
  | zero=>intro i hi;simp [repL] at hi
  | succ n ih =>
    intro i hi
    have hi':i<(zl++repL zl n).length:=hi
    show (zl++repL zl n)[i]=_
    by_cases hc:i<zl.length
    ·rw [List.getElem_append_left hc]
     congr 1;exact (Nat.mod_eq_of_lt hc).symm
    ·rw [List.getElem_append_right (by omega),ih]
     congr 1
     have:i=(i-zl.length)+zl.length:=by omega
     conv=>rhs;rw [this]
     rw [Nat.add_mod_right]
 refine All2.of_get _ _ (by rw [jgt,hl];simp) fun i h1 h2=>?_
 rw [key n i h1]
 have hm:i % zl.length<zl.length:=Nat.mod_lt _ (by omega)
 have hm2:i % zs.size<zs.size:=Nat.mod_lt _ h0
 have:=h.get (i % zl.length) hm (by simp;omega)
 simp only [Array.getElem_toList,Array.getElem_map,Array.getElem_range]
 rw [getElem!_pos zs _ hm2]
 simp only [hl] at this ⊢
 rwa [Array.getElem_toList] at this
theorem mksO_some {zl:List Sc} {es k:Nat} (h:mksO zl es k=some ob):(es=1∧∃ z,zl=[z]∧ob=.row k false (dpt k) z .z)∨ob=jdn (repL zl k) false:=by
 unfold mksO at h
 split at h
 ·cases h;exact .inl ⟨rfl,_,rfl,rfl⟩
 ·cases h;exact .inr rfl
theorem r0 (f g:Nat→Value):(Array.range 0).map f=(Array.range 0).map g:=by simp
theorem okA (hc:∃ p,cA P nt o.op=some p∧evA p ρ id=some (ob,v)) (hr:RegOk nt G ρ a) (hn:a.tmps.size=nt.nt):Makes P o a w G id ob v:=by
 obtain ⟨p,hc,he⟩:=hc
 unfold cA at hc
 split at hc
 ·
  rename_i e ho
  have hrun:∀ {z:Value},(zeroValue e).run P w=.ok z w→(execOp a.eval o).run P w=.ok (.value (.pointer (some ⟨w.heap.size,0,none⟩))) { w with heap:=w.heap.push (.cells z.cells e (0,0)) }:=by
   intro z z1
   refine jhl (s:=Instr.alloc e true (.tuple #[])) (by unfold execOp;rw [ho]) ?_
   unfold Instr.alloc
   rw [Sem.run_bind,z1]
   rfl
  split at hc
  ·rename_i hxs
   cases hc
   obtain ⟨z,z1,z2⟩:=zeroL_ok (G:=G) (w:=w) hxs
   have he':some (Ob.bd e .pn .sn,V.c (.p id 0))=some (ob,v):=he
   cases he'
   obtain ⟨arr,harr⟩:∃ arr:Array Value,z.cells=arr:=⟨_,rfl⟩
   rw [harr] at z2
   have hz:arr=#[.pointer none,.slice none 0 0]:=by
    obtain ⟨l⟩:=arr
    cases z2 with
    | cons q1 q2 =>
      cases q2 with
      | cons q3 q4 =>
        cases q4
        have q1:_=Value.pointer none:=q1
        have q3:_=Value.slice none 0 0:=q3
        rw [q1,q3]
   have h1:=hrun z1
   rw [harr,hz] at h1
   exact ⟨fun q=>(by cases q),_,_,2,h1,fun G' _ hg=>⟨⟨rfl,_,_,rfl,rfl,rfl⟩,⟨_,_,hg,rfl⟩⟩⟩
  ·rename_i xs _ hxs
   cases hc
   obtain ⟨z,z1,z2⟩:=zeroL_ok (G:=G) (w:=w) hxs
   refine jhy (el:=e) (cv:=.pointer (some ⟨w.heap.size,0,none⟩)) he z2 (hrun z1) fun G' hg=>⟨_,_,hg,rfl⟩
  ·cases hc
 ·
  rename_i e x ho
  split at hc
  ·rename_i b hb
   cases hc
   have he':eBox b ρ id=some (ob,v):=he
   unfold eBox at he'
   split at he'
   ·rename_i xs hxs
    refine jhy (el:=e) (cv:=.pointer (some ⟨w.heap.size,0,none⟩)) he' (jhd hxs (jam hb hr hn)) ?_ fun G' hg=>⟨_,_,hg,rfl⟩
    refine jhl (s:=Instr.box e (a.eval x)) (by unfold execOp;rw [ho]) ?_
    rfl
   ·cases he'
  ·cases hc
 ·
  rename_i t len parts ho
  unfold cBsl at hc
  split at hc
  ·rename_i e hd
   split at hc
   ·rename_i ie hi
    split at hc
    ·rename_i z hz
     split at hc
     ·rename_i zl ps hzl hps
      obtain ⟨hq,hc⟩:=jab hc
      rw [Bool.and_eq_true,Bool.and_eq_true] at hq
      cases hc
      have he':eBsl (repL zl len) len ie.size ps ρ id=some (ob,v):=he
      unfold eBsl at he'
      split at he'
      ·rename_i xs hxs
       obtain ⟨hle,he'⟩:=jab he'
       have hzs:=jat hq.2.1
       have h0:0<z.cells.size:=by
        rcases Nat.eq_zero_or_pos ie.size with q | q
        ·have:=hq.2.2;rw [q] at this;cases this
        ·omega
       have hz2:All2 (Sc.ok G) zl z.cells.toList:=jev G hzl
       have hrep:=jkf hz2 h0 len
       obtain ⟨arr',k1,k2⟩:=bld_ok hr hn parts.toList ps _ _ hps hxs hrep
       obtain ⟨arr2,k3,k4⟩:=k2
       cases k3
       have hsz:xs.length=arr'.size:=by rw [k4.length];simp
       refine jhy (el:=e) (cv:=.slice (some ⟨w.heap.size,0,none⟩) len len) he' k4 ?_ fun G' hg=>⟨_,_,hg,rfl,Nat.le_refl _,?_⟩
       ·refine jhl (s:=Instr.buildSlice t len (parts.map fun (i,x)=>(i,a.eval x))) (by unfold execOp;rw [ho]) ?_
        unfold Instr.buildSlice
        have h24:¬(len*ie.size>2^24):=by have:=jad hq.1;omega
        have hzr:(zeroValue e).run P w=.ok z w:=by simp [zeroValue,jdh hi,hz]
        simp only [Sem.run_bind,jaf hd,Result.andThen_ok,jbf hi,if_neg h24]
        have e0:(Array.map (fun x=>match x with | (i,x)=>(i,a.eval x)) parts).toList=parts.toList.map fun p=>(p.1,a.eval p.2):=by simp
        by_cases q:len*ie.size=0
        ·rw [if_pos q]
         have q':len*z.cells.size=0:=by rw [hzs];exact q
         rw [q'] at k1
         simp only [pure_bind,q]
         rw [r0 _ (fun x=>z.cells[x % z.cells.size]!),e0,k1]
         rfl
        ·rw [if_neg q]
         simp only [Sem.run_bind,hzr,Result.andThen_ok,Sem.run_pure]
         rw [hzs] at k1
         simp only [hzs]
         rw [e0,k1]
         rfl
       ·have:=jad hle
        show 0+len*ie.size≤arr'.size
        have h':len*ie.size≤xs.length:=this
        omega
      ·cases he'
     ·cases hc
    ·cases hc
   ·cases hc
  ·cases hc
 ·
  rename_i t x y ho
  unfold cMks at hc
  split at hc
  ·rename_i e b c hd h1 h2
   split at hc
   ·rename_i ie hi
    split at hc
    ·rename_i z hz
     split at hc
     ·rename_i zl hzl
      obtain ⟨hq,hc⟩:=jab hc
      rw [Bool.and_eq_true] at hq
      cases hc
      have he':eMks zl ie.size ie.bytes b c ρ id=some (ob,v):=he
      have Hb:=jam h1 hr hn
      have Hc:=jam h2 hr hn
      unfold eMks at he'
      split at he'
      ·rename_i m k e1 e2
       rw [e1] at Hb;rw [e2] at Hc
       have Hb:a.eval x=.int .i64 (.ofNat m):=Hb
       have Hc:a.eval y=.int .i64 (.ofNat k):=Hc
       obtain ⟨hm,he'⟩:=jab he'
       rw [Bool.and_eq_true,Bool.and_eq_true,Bool.and_eq_true] at hm
       have m1:=jad hm.1
       have m2:k*ie.size≤32768:=jad hm.2.1
       have m3:=jad hm.2.2.1
       have m4:=jad hm.2.2.2
       have hzs:=jat hq.1
       have h0:0<z.cells.size:=by
        rcases Nat.eq_zero_or_pos ie.size with q | q
        ·have:=hq.2;rw [q] at this;cases this
        ·omega
       have hz2:All2 (Sc.ok G) zl z.cells.toList:=jev G hzl
       have hrun:(execOp a.eval o).run P w=.ok (.value (.slice (some ⟨w.heap.size,0,none⟩) m k)) { w with heap:=w.heap.push (.cells ((Array.range (k*z.cells.size)).map (z.cells[· % z.cells.size]!)) e (0,0)) }:=by
        refine jhl (s:=Instr.makeSlice t (a.eval x) (a.eval y)) (by unfold execOp;rw [ho]) ?_
        rw [Hb,Hc]
        unfold Instr.makeSlice
        have w1:IntKind.i64.wrap (Int.ofNat m)=Int.ofNat m:=jcv .i64 m (by show m<9223372036854775808;omega)
        have w2:IntKind.i64.wrap (Int.ofNat k)=Int.ofNat k:=jcv .i64 k (by show k<9223372036854775808;omega)
        have hzr:(zeroValue e).run P w=.ok z w:=by simp [zeroValue,jdh hi,hz]
        simp only [Sem.run_bind,jaf hd,Result.andThen_ok,asInt,asIntOf,Sem.run_pure,jdh hi,w1,w2]
        have hb:ie.bytes*k≤1000000*32768:=Nat.mul_le_mul m4 m3
        have n1:¬(Int.ofNat k<0):=by show ¬((k:Int)<0);omega
        have n2:¬((ie.bytes:Int)*Int.ofNat k>2^48):=by
         show ¬((ie.bytes:Int)*(k:Int)>281474976710656)
         rw [←Int.natCast_mul];omega
        have n3:¬(Int.ofNat m<0):=by show ¬((m:Int)<0);omega
        have n4:¬(Int.ofNat m>Int.ofNat k):=by show ¬((m:Int)>k);omega
        rw [if_neg (by simp only [n1,n2,n3,n4,decide_false,Bool.or_self,Bool.false_eq_true,not_false_eq_true])]
        simp only [Sem.run_bind,run_askRoom,Result.andThen_ok,jbf hi]
        have t1:(Int.ofNat k).toNat=k:=rfl
        have t2:(Int.ofNat m).toNat=m:=rfl
        rw [t1,t2]
        by_cases q:k*ie.size=0
        ·rw [if_pos q]
         simp only [pure_bind,q,hzs]
         rw [r0 _ (fun x=>z.cells[x % ie.size]!)]
         rfl
        ·rw [if_neg q]
         simp only [Sem.run_bind,hzr,Result.andThen_ok,Sem.run_pure,hzs]
         rfl
       have hsz:((Array.range (k*z.cells.size)).map (fun x=>z.cells[x % z.cells.size]!)).size=k*ie.size:=by simp [hzs]
       have hrep:=jkf hz2 h0 k
       have hval:∀ G':Gh,G' id=some (w.heap.size,k*ie.size)→V.ok G' (.c (.sk id 0 m k ie.size)) (.slice (some ⟨w.heap.size,0,none⟩) m k):=fun G' hg=>⟨_,_,hg,rfl,m1,by omega⟩
       cases hmo:mksO zl ie.size k with
       | none=>rw [hmo] at he';cases he'
       | some ob' =>
         rw [hmo] at he'
         cases he'
         rcases mksO_some hmo with ⟨hes1,zc,rfl,rfl⟩ | rfl
         ·clear hmo
          refine ⟨(fun q=>by cases q),_,_,k*ie.size,hrun,fun G' hle hg=>⟨⟨_,_,_,rfl,hsz,by rw [hes1];omega,fun _=>by rw [hes1];omega,jii m3,fun i _=>by simp,fun i hi'=>?_⟩,hval G' hg⟩⟩
          have hq:tget (dpt k) zc .z i=zc:=jel _ _ _
          rw [hq]
          have hl:i<(repL [zc] k).length:=by rw [jgt];simpa using hi'
          have:=hrep.get i hl (by simp [hzs,hes1];exact hi')
          have hall:∀ n i (h:i<(repL [zc] n).length),(repL [zc] n)[i]=zc:=by
           intro n
           induction n with
           | zero=>intro i h;simp [repL] at h
           | succ n ih =>
             intro i h
             cases i with
             | zero=>rfl
             | succ i=>exact ih i (by simpa [repL] using h)
          rw [hall] at this
          rw [Array.getElem_toList] at this
          rw [jby (by simp [hzs,hes1];exact hi')]
          exact Sc.ok_le hle this
         ·clear hmo
          have hlen:(repL zl k).length≤32768:=by
           rw [jgt]
           have:zl.length=z.cells.size:=by rw [hz2.length];simp
           rw [this,hzs];exact m2
          refine ⟨jkm,_,_,k*ie.size,hrun,fun G' hle hg=>⟨?_,hval G' hg⟩⟩
          have:=mkRow_ok (hrep.mono fun _ _=>Sc.ok_le hle) hlen e
          rw [hsz] at this
          exact this
      ·cases he'
     ·cases hc
    ·cases hc
   ·cases hc
  ·cases hc
 ·
  rename_i t ho
  cases hc
  cases he
  refine ⟨(fun q=>by cases q),.map (some w.heap.size),.map #[] 0,0,?_,fun G' hle hg=>⟨⟨#[],0,rfl,MapKept.stamped_empty 0,.nil⟩,_,_,hg,rfl⟩⟩
  refine jhl (s:=Instr.makeMap t none) (by unfold execOp;rw [ho];rfl) ?_
  rfl
 ·cases hc
end
end
end Ev
end
section
namespace Ev
open Go.RowKit
noncomputable section
inductive Rs where
 | no
 | ok (v:V) (h:HT) (n:Nat)
inductive EO where
 | sto (size:Nat) (a v:Od)
 | app (es:Nat) (s x:Od)
 | cpy (es:Nat) (d s:Od)
 | clr (zl:List Sc) (es:Nat) (a:Od)
 | clm (a:Od)
 | mup (ik:Bool) (a k v:Od)
 | del (ik:Bool) (a k:Od)
 | aps (s x:Od)
 | s2b (a:Od)
def putOb (off:Nat) (xs:List Sc) (o:Ob):Option Ob:=match o with
 | .row n x dep d t=>cnd (Nat.ble (Nat.add off xs.length) n) (some (.row n x dep d (setL dep xs off t))) none
 | _=>none
def putH (id off:Nat) (xs:List Sc) (v:V) (H:HT) (n:Nat):Rs:=cnd (Nat.blt id HB) (match putOb off xs (hget H id) with | some o=>.ok v (hset H id o) n | none=>.no) .no
def jfo:V:=.t []
def stoV (size id off:Nat) (xs:List Sc) (H:HT) (n:Nat):Rs:=cnd (Nat.beq xs.length size) (putH id off xs jfo H n) .no
def eSto (size:Nat) (a v:Od) (ρ:RT) (H:HT) (n:Nat):Rs:=match a.get ρ with
 | .c (.p id off)=>(match vCells (v.get ρ) with | some xs=>stoV size id off xs H n | none=>.no)
 | _=>.no
def jiw:V→Option Nat
 | .c .sn=>some 0
 | .c .se=>some 0
 | .c (.sk _ _ len _ _)=>some len
 | .c (.su _ _ len _ _)=>some len
 | _=>none
def jhh (es k:Nat) (v:V) (H:HT):Option (List Sc):=match v with
 | .c (.sk id off len _ es')=>cnd (and (Nat.blt id HB) (Nat.ble k len)) (jbo off (Nat.mul k es) (hget H id)) none
 | .c (.su id off len _ es')=>cnd (and (Nat.blt id HB) (Nat.ble k len)) (jbo off (Nat.mul k es) (hget H id)) none
 | _=>none
def growH (es need:Nat) (xs:List Sc) (H:HT) (n:Nat):Rs:=cnd (and (Nat.blt n HB) (and (Nat.ble xs.length 32768) (Nat.beq xs.length (Nat.mul need es)))) (.ok (.c (.su n 0 need need es)) (hset H n (jdn xs true)) (Nat.add n 1)) .no
def ndOb (len2:Nat) (xs:List Sc) (o:Ob):Option Ob:=match o with
 | .row m true dep d t=>cnd (Nat.beq m len2) (cnd (Nat.ble (Nat.add m xs.length) (Nat.pow 8 dep)) (some (.row (Nat.add m xs.length) true dep d (setL dep xs m t))) (cnd (Nat.ble (Nat.add m xs.length) 32768) (some (jdn (rowL dep d t m 0++xs) true)) none)) none
 | _=>none
def ndH (es id len k:Nat) (xs:List Sc) (H:HT) (n:Nat):Rs:=cnd (and (Nat.blt n HB) (and (Nat.blt id HB) (and (Nat.beq xs.length (Nat.mul k es)) (Nat.blt id n)))) (match ndOb (Nat.mul len es) xs (hget H id) with
 | some o=>.ok (.c (.su n 0 (Nat.add len k) (Nat.add len k) es)) (hset (hset H id .no) n o) (Nat.add n 1)
 | none=>.no) .no
def appV (es:Nat) (s:V) (k:Nat) (xs:List Sc) (H:HT) (n:Nat):Rs:=match s with
 | .c .sn=>growH es k xs H n
 | .c (.sk id off len cap es')=>cnd (Nat.beq es es') (cnd (Nat.ble (Nat.add len k) cap) (putH id (Nat.add off (Nat.mul len es)) xs (.c (.sk id off (Nat.add len k) cap es)) H n)
  (cnd (Nat.beq len 0) (growH es k xs H n) (match jhh es len s H with | some old=>growH es (Nat.add len k) (old++xs) H n | none=>.no))) .no
 | .c (.su id off len lb es')=>cnd (Nat.beq es es') (cnd (Nat.ble (Nat.add len k) lb) (putH id (Nat.add off (Nat.mul len es)) xs (.c (.su id off (Nat.add len k) lb es)) H n)
  (cnd (Nat.beq off 0) (ndH es id len k xs H n) .no)) .no
 | _=>.no
def eApp (es:Nat) (s x:Od) (ρ:RT) (H:HT) (n:Nat):Rs:=match jiw (x.get ρ),jiw (s.get ρ) with
 | some 0,some _=>.ok (s.get ρ) H n
 | some (k+1),some l=>cnd (Nat.blt (Nat.add l (Nat.add k 1)) 1000000) (match jhh es (k+1) (x.get ρ) H with
  | some xs=>appV es (s.get ρ) (k+1) xs H n
  | none=>.no) .no
 | _,_=>.no
def strL (l:Nat):Nat→List Sc→List Sc:=Nat.rec (motive:=fun _=>Nat→List Sc→List Sc) (fun _ acc=>acc) (fun _ ih n acc=>ih (Nat.div n 256) (.i .u8 (.ofNat (Nat.mod n 256))::acc)) l
def eAps (s x:Od) (ρ:RT) (H:HT) (n:Nat):Rs:=match x.get ρ,jiw (s.get ρ) with
 | .c (.s 0 _),some _=>.ok (s.get ρ) H n
 | .c (.s (k+1) m),some l=>cnd (Nat.blt (Nat.add l (Nat.add k 1)) 1000000) (appV 1 (s.get ρ) (k+1) (strL (k+1) m []) H n) .no
 | _,_=>.no
def eS2b (a:Od) (ρ:RT) (H:HT) (n:Nat):Rs:=match a.get ρ with
 | .c (.s (k+1) m)=>growH 1 (k+1) (strL (k+1) m []) H n
 | _=>.no
def cpyV (es k:Nat) (d s:V) (H:HT) (n:Nat):Rs:=match k with
 | 0=>.ok (.c (.i .i64 0)) H n
 | k+1=>(match jhh es (k+1) s H,d with
   | some xs,.c (.sk id off _ _ _)=>putH id off xs (.c (.i .i64 (.ofNat (k+1)))) H n
   | some xs,.c (.su id off _ _ _)=>putH id off xs (.c (.i .i64 (.ofNat (k+1)))) H n
   | _,_=>.no)
def eCpy (es:Nat) (d s:Od) (ρ:RT) (H:HT) (n:Nat):Rs:=match jiw (d.get ρ),jiw (s.get ρ) with
 | some a,some b=>cpyV es (cnd (Nat.ble b a) b a) (d.get ρ) (s.get ρ) H n
 | _,_=>.no
def eClr (zl:List Sc) (es:Nat) (a:Od) (ρ:RT) (H:HT) (n:Nat):Rs:=match a.get ρ with
 | .c .sn=>.ok jfo H n
 | .c .se=>.ok jfo H n
 | .c (.sk id off len _ _)=>cnd (Nat.beq len 0) (.ok jfo H n) (putH id off (repL zl len) jfo H n)
 | .c (.su id off len _ _)=>cnd (Nat.beq len 0) (.ok jfo H n) (putH id off (repL zl len) jfo H n)
 | _=>.no
def eClm (a:Od) (ρ:RT) (H:HT) (n:Nat):Rs:=match a.get ρ with
 | .c .mn=>.ok jfo H n
 | .c (.m id)=>cnd (Nat.blt id HB) (match hget H id with | .mp _=>.ok jfo (hset H id (.mp [])) n | _=>.no) .no
 | _=>.no
def vE:V→Option E
 | .c x=>some (.c x)
 | .a xs=>some (.a xs)
 | .t _=>none
def mapSet (k:Sc) (e:E):List (Sc×E)→Option (List (Sc×E))
 | []=>some [(k,e)]
 | (k',e')::r=>match keyEq k k' with
   | some true=>some ((k,e)::r)
   | some false=>(match mapSet k e r with | some r'=>some ((k',e')::r') | none=>none)
   | none=>none
def mupO (k:Sc) (e:E) (o:Ob):Option Ob:=match o with
 | .mp es=>(match mapSet k e es with | some es'=>some (.mp es') | none=>none)
 | _=>none
def eMup (ik:Bool) (a k v:Od) (ρ:RT) (H:HT) (n:Nat):Rs:=match a.get ρ,keyOk ik (k.get ρ),vE (v.get ρ) with
 | .c (.m id),some x,some e=>cnd (Nat.blt id HB) (match mupO x e (hget H id) with | some o=>.ok jfo (hset H id o) n | none=>.no) .no
 | _,_,_=>.no
def mapDel (k:Sc):List (Sc×E)→Option (List (Sc×E))
 | []=>some []
 | (k',e')::r=>match keyEq k k' with
   | some true=>some r
   | some false=>(match mapDel k r with | some r'=>some ((k',e')::r') | none=>none)
   | none=>none
def delO (k:Sc) (o:Ob):Option Ob:=match o with
 | .mp es=>(match mapDel k es with | some es'=>some (.mp es') | none=>none)
 | _=>none
def eDel (ik:Bool) (a k:Od) (ρ:RT) (H:HT) (n:Nat):Rs:=match a.get ρ,keyOk ik (k.get ρ) with
 | .c (.m id),some x=>cnd (Nat.blt id HB) (match delO x (hget H id) with | some o=>.ok jfo (hset H id o) n | none=>.no) .no
 | _,_=>.no
def evE (e:EO):RT→HT→Nat→Rs:=EO.casesOn e eSto eApp eCpy eClr eClm eMup eDel eAps eS2b
def elOk (P:Program) (e:TypeId):Option (Nat×List Sc):=match P.info? e with
 | some ie=>(match ie.zero with
   | some z=>(match conL z.cells.toList with
     | some zl=>cnd (and (Nat.beq z.cells.size ie.size) (and (not (Nat.beq ie.size 0)) (Nat.ble ie.bytes 1000000))) (some (ie.size,zl)) none
     | none=>none)
   | none=>none)
 | none=>none
def cS2b (P:Program) (s d:TypeId) (x:Option Od):Option EO :=
 match P.underlying s,P.underlying d,x with
 | some .string,some (.slice e),some a=>(match P.underlying e with | some (.int .u8)=>some (.s2b a) | _=>none)
 | _,_,_=>none
def cE (P:Program) (nt:Cx) (op:Op):Option EO :=
 match op with
 | .convert s d x=>cS2b P s d (cOd nt x)
 | .store t a x=>(match eSz P t,cOd nt a,cOd nt x with | some n,some p,some v=>some (.sto n p v) | _,_,_=>none)
 | .mapUpdate t m k x=>(match P.underlying t,cOd nt m,cOd nt k,cOd nt x with
   | some (.map kt _),some a,some b,some c=>(match P.underlying kt with
     | some d=>(match keyTy d with | some ik=>some (.mup ik a b c) | none=>none)
     | none=>none)
   | _,_,_,_=>none)
 | .call { callee:=.builtin b,args,argTypes }=>(match b,args.toList,argTypes.toList with
   | .append,[s,x],[t,tx]=>(match P.underlying t,P.underlying tx,cOd nt s,cOd nt x with
     | some (.slice e),some (.slice _),some a,some c=>(match elOk P e with | some (es,_)=>some (.app es a c) | none=>none)
     | some (.slice e),some .string,some a,some c=>(match elOk P e with | some (es,_)=>cnd (Nat.beq es 1) (some (.aps a c)) none | none=>none)
     | _,_,_,_=>none)
   | .copy,[d,s],t::_=>(match P.underlying t,cOd nt d,cOd nt s with
     | some (.slice e),some a,some c=>(match elOk P e with | some (es,_)=>some (.cpy es a c) | none=>none)
     | _,_,_=>none)
   | .clear,[x],[t]=>(match P.underlying t,cOd nt x with
     | some (.slice e),some a=>(match elOk P e with | some (es,zl)=>some (.clr zl es a) | none=>none)
     | some (.map _ _),some a=>some (.clm a)
     | _,_=>none)
   | .delete,[m,k],t::_=>(match P.underlying t,cOd nt m,cOd nt k with
     | some (.map kt _),some a,some c=>(match P.underlying kt with
       | some d=>(match keyTy d with | some ik=>some (.del ik a c) | none=>none)
       | none=>none)
     | _,_,_=>none)
   | _,_,_=>none)
 | _=>none
section
variable {P:Program} {nt:Cx} {o:Oper} {G:Gh} {ρ:RT} {a:Act} {w:World} {n n':Nat} {H H':HT} {v:V}
def Acts (P:Program) (o:Oper) (a:Act) (w:World) (G:Gh) (H:Hp) (n:Nat) (v:V) (H':Hp) (n':Nat):Prop :=
 ∃ cv w' G' x,(execOp a.eval o).run P w=.ok x w'∧(x=.value cv∨(x=.skip∧cv=undef))∧Stp G H n w G' H' n' w'∧V.ok G' v cv
theorem unit_ok:V.ok G jfo undef:=⟨#[],rfl,.nil⟩
theorem jhp {id off:Nat} {xs:List Sc} {u:V} (h:putH id off xs u H n=.ok v H' n'):id<HB∧v=u∧n'=n∧∃ m x dep d t,hp H id=.row m x dep d t∧off+xs.length≤m∧hp H'=upd (hp H) id (.row m x dep d (setL dep xs off t)):=by
 unfold putH at h
 cases hb:Nat.blt id HB with
 | false=>rw [hb] at h;cases h
 | true =>
   rw [hb] at h
   have hid:=jaa hb
   simp only [cnd_true] at h
   split at h
   ·rename_i ob hob
    cases h
    unfold putOb at hob
    split at hob
    ·rename_i m x dep d t hh
     obtain ⟨hle,hob⟩:=jab hob
     cases hob
     exact ⟨hid,rfl,rfl,m,x,dep,d,t,by rw [jas hid];exact hh,jad hle,jbv H hid _⟩
    ·cases hob
   ·cases h
theorem jeq {id off:Nat} {xs:List Sc} {u:V} (h:putH id off xs u H n=.ok v H' n') (hR:R G (hp H) w) {vs:List Value} (hx:All2 (Sc.ok G) xs vs) {b sz:Nat} (hg:G id=some (b,sz)) :
 v=u∧n'=n∧off+xs.length≤sz∧∃ w',(storeCells ⟨b,off,none⟩ vs).run P w=.ok () w'∧Stp G (hp H) n w G (hp H') n w':=by
 obtain ⟨hid,rfl,rfl,m,x,dep,d,t,h1,h2,h3⟩:=jhp h
 obtain ⟨b',sz',hg',w',k1,k2⟩:=stp_store (P:=P) (n0:=n') hR h1 hx h2
 rw [hg] at hg';cases hg'
 obtain ⟨b2,sz2,arr,el,fz,hg2,L⟩:=hR.lies h1
 rw [hg] at hg2;cases hg2
 have:=L.le
 exact ⟨rfl,rfl,by omega,w',k1,by rw [h3];exact k2⟩
theorem ok_sto {t:TypeId} {y z:Operand} {i:TypeInfo} (ho:o.op=.store t y z) (hi:P.info? t=some i) {b c:Od} (h1:cOd nt y=some b) (h2:cOd nt z=some c) (he:eSto i.size b c ρ H n=.ok v H' n') (hR:R G (hp H) w) (hr:RegOk nt G ρ a) (hn:a.tmps.size=nt.nt) :
 Acts P o a w G (hp H) n v (hp H') n':=by
 have Hy:=jam h1 hr hn
 have Hz:=jam h2 hr hn
 unfold eSto at he
 generalize b.get ρ=bv at he Hy
 split at he
 ·rename_i id off
  split at he
  ·rename_i xs hxs
   unfold stoV at he
   cases hl:Nat.beq xs.length i.size with
   | false=>rw [hl] at he;cases he
   | true =>
     rw [hl] at he
     simp only [cnd_true] at he
     obtain ⟨bb,sz,hg,hv⟩:=Hy
     have hx:=jhd hxs Hz
     obtain ⟨rfl,rfl,_,w',k1,k2⟩:=jeq (P:=P) he hR hx hg
     refine ⟨undef,w',G,.skip,?_,.inr ⟨rfl,rfl⟩,k2,unit_ok⟩
     unfold execOp;rw [ho]
     have hsz:(a.eval z).cells.size=i.size:=by
      have:=hx.length;rw [jat hl] at this;simpa using this.symm
     simp only [Instr.storeAt,hv,Instr.sureAddr,pure_bind,storeVar,Sem.run_bind,jbf hi,Result.andThen_ok,hsz,ne_eq,not_true_eq_false,if_false,k1,Sem.run_pure]
  ·cases he
 ·cases he
theorem jee {s:V} {k:Nat} (h:jiw s=some k) {c:Value} (hv:V.ok G s c):∃ p cap,c=.slice p k cap:=by
 unfold jiw at h
 split at h
 ·cases h;exact ⟨none,0,hv⟩
 ·cases h;obtain ⟨p,q,rfl⟩:=hv;exact ⟨_,_,rfl⟩
 ·cases h;obtain ⟨b,sz,_,rfl,_⟩:=hv;exact ⟨_,_,rfl⟩
 ·cases h;obtain ⟨b,sz,c',_,rfl,_⟩:=hv;exact ⟨_,_,rfl⟩
 ·cases h
theorem jef {es k:Nat} {s:V} {xs:List Sc} (h:jhh es k s H=some xs) (hR:R G (hp H) w) {c:Value} (hv:V.ok G s c):∃ vs:Array Value,All2 (Sc.ok G) xs vs.toList∧xs.length=k*es∧(∀ w1:World,w1.heap=w.heap→(Builtin.firstCells es k c).run P w1=.ok vs w1)∧(∀ v∈vs.toList,v.oneCell'=true):=by
 have key:∀ (id off b sz:Nat),id<HB→G id=some (b,sz)→jbo off (Nat.mul k es) (hget H id)=some xs→∃ vs:Array Value,All2 (Sc.ok G) xs vs.toList∧xs.length=k*es∧(∀ w1:World,w1.heap=w.heap→(loadCells ⟨b,off,none⟩ (k*es)).run P w1=.ok vs w1)∧(∀ v∈vs.toList,v.oneCell'=true):=by
  intro id off b sz hid hg ho
  obtain ⟨m,x,dep,d,t,hh,hle,rfl⟩:=jbp ho
  obtain ⟨b',sz',arr,el,fz,hg',L⟩:=hR.lies (id:=id) (by rw [jas hid];exact hh)
  rw [hg] at hg';cases hg'
  have hle:off+k*es≤m:=hle
  have hl:=L.list hle
  refine ⟨_,hl,jbg _ _,fun w1 h1=>jcc (by rw [h1];exact L.hb) (by have:=L.size;have:=L.le;omega),fun v hv=>?_⟩
  obtain ⟨i,hi,rfl⟩:=List.getElem_of_mem hv
  exact Sc.ok_one (hl.get i (by rw [hl.length];exact hi) hi)
 unfold jhh at h
 split at h
 ·obtain ⟨hq,h⟩:=jab h
  rw [Bool.and_eq_true] at hq
  obtain ⟨b,sz,hg,rfl,_⟩:=hv
  exact key _ _ _ _ (jaa hq.1) hg h
 ·obtain ⟨hq,h⟩:=jab h
  rw [Bool.and_eq_true] at hq
  obtain ⟨b,sz,c',hg,rfl,_⟩:=hv
  exact key _ _ _ _ (jaa hq.1) hg h
 ·cases h
theorem growBy_le (need:Nat):∀ r c,Builtin.growBy need r c≤max c (need+(need+768) / 4)
 | 0,c=>by simp only [Builtin.growBy];omega
 | r+1,c=>by
   unfold Builtin.growBy
   split
   ·omega
   ·have:=growBy_le need r (c+(c+768) / 4)
    omega
theorem nextcap_le {need c:Nat} (h:c<need):Builtin.nextslicecap need c≤2*need+1000:=by
 unfold Builtin.nextslicecap
 split
 ·omega
 ·split
  ·omega
  ·have:=growBy_le need 4 c;omega
theorem jfh {e:TypeId} {es:Nat} {zl:List Sc} (h:elOk P e=some (es,zl)):∃ ie z,P.info? e=some ie∧ie.zero=some z∧conL z.cells.toList=some zl∧z.cells.size=es∧ie.size=es∧0<es∧ie.bytes≤1000000:=by
 unfold elOk at h
 split at h
 ·rename_i ie hi
  split at h
  ·rename_i z hz
   split at h
   ·rename_i zl' hzl
    obtain ⟨hq,h⟩:=jab h
    rw [Bool.and_eq_true,Bool.and_eq_true] at hq
    cases h
    refine ⟨ie,z,hi,hz,hzl,jat hq.1,rfl,?_,jad hq.2.2⟩
    rcases Nat.eq_zero_or_pos ie.size with q | q
    ·have:=hq.2.1;rw [q] at this;cases this
    ·exact q
   ·cases h
  ·cases h
 ·cases h
theorem jec {t tx e ty:TypeId} {ie:TypeInfo} (ht:P.underlying t=some (.slice e)) (hk:(∃ q,P.underlying tx=some (.slice q))∨P.underlying tx=some .string) (hi:P.info? e=some ie) {b off len c k:Nat} {x:Value} (hx:∀ w1:World,(Builtin.lenOf x).run P w1=.ok k w1) {vs:Array Value} (hfc:(Builtin.firstCells ie.size k x).run P w=.ok vs w) {w':World}
 (hst:(storeCells ⟨b,off+len*ie.size,none⟩ vs.toList).run P w=.ok () w') (hle:len+k≤c):(Builtin.append_ #[t,tx] ty #[.slice (some ⟨b,off,none⟩) len c,x]).run P w=.ok (.slice (some ⟨b,off,none⟩) (len+k) c) w':=by
 rcases hk with ⟨q,htx⟩ | htx<;>simp [Builtin.append_,jaf ht,jaf htx,jbf hi,hx,hle,hfc,jca,hst]
theorem jir {t tx e ty:TypeId} {ie:TypeInfo} (ht:P.underlying t=some (.slice e)) (hk:(∃ q,P.underlying tx=some (.slice q))∨P.underlying tx=some .string) (hi:P.info? e=some ie) {A:Option Addr} {len c:Nat} {x:Value} (hx:∀ w1:World,(Builtin.lenOf x).run P w1=.ok 0 w1) (hf:(Builtin.firstCells ie.size 0 x).run P w=.ok #[] w) (hle:len≤c):(Builtin.append_ #[t,tx] ty #[.slice A len c,x]).run P w=.ok (.slice A len c) w:=by
 rcases hk with ⟨q,htx⟩ | htx
 ·cases A with
  | none=>simp [Builtin.append_,jaf ht,jaf htx,jbf hi,hx,hle,hf]
  | some A=>simp [Builtin.append_,jaf ht,jaf htx,jbf hi,hx,hle,hf,storeCells]
 ·cases A with
  | none=>simp [Builtin.append_,jaf ht,jaf htx,jbf hi,hx,hle,hf]
  | some A=>simp [Builtin.append_,jaf ht,jaf htx,jbf hi,hx,hle,hf,storeCells]
theorem jkt {t tx e ty:TypeId} {ie:TypeInfo} {z:Value} (ht:P.underlying t=some (.slice e)) (hk:(∃ q,P.underlying tx=some (.slice q))∨P.underlying tx=some .string) (hi:P.info? e=some ie) (hz:ie.zero=some z) (hzs:z.cells.size=ie.size) (hby:ie.bytes≤1000000) {A:Option Addr} {len c k:Nat} {x:Value} (hx:∀ w1:World,(Builtin.lenOf x).run P w1=.ok k w1) {vs olds:Array Value}
 (hfc:∀ w1:World,w1.heap=w.heap→(Builtin.firstCells ie.size k x).run P w1=.ok vs w1) (hvs:vs.size=k*ie.size) (hone:∀ v∈vs.toList,v.oneCell'=true) (hold:∀ w1:World,w1.heap=w.heap→(Builtin.firstCells ie.size len (.slice A len c)).run P w1=.ok olds w1) (hgt:c<len+k) (hsm:len+k<1000000) :
 ∃ nc arr,len+k≤nc∧arr.size=olds.size+vs.size+(nc-(len+k))*ie.size∧arr.toList.take (olds.size+vs.size)=olds.toList++vs.toList∧(Builtin.append_ #[t,tx] ty #[.slice A len c,x]).run P w=.ok (.slice (some ⟨w.heap.size,0,none⟩) (len+k) nc) { w with drawn:=w.drawn+1,heap:=w.heap.push (.cells arr e (0,0)) }:=by
 have hs:Src P ie.size tx x k vs.toList w:=⟨hk,hx,by rw [hfc w rfl],by rw [hfc w.drew rfl],by simpa using hvs,hone⟩
 have h2:Builtin.nextslicecap (len+k) c*ie.bytes≤2001000*1000000:=Nat.mul_le_mul (by have:=nextcap_le hgt;omega) hby
 have h:=run_append_grow_src (P:=P) w t tx ty e ie z ht hi hz A len c olds.toList (by rw [hold w.drew rfl]) x k vs.toList hs hgt (by omega) (by omega)
 refine ⟨_,_,grownCap_ge w (len+k) c e,?_,?_,h⟩
 ·simp [Builtin.zeroCells,hzs]
 ·rw [Array.toList_append];exact List.take_left' (by simp)
theorem jci {es need:Nat} {xs:List Sc} (h:growH es need xs H n=.ok v H' n'):n<HB∧xs.length≤32768∧xs.length=need*es∧v=.c (.su n 0 need need es)∧n'=n+1∧hp H'=upd (hp H) n (jdn xs true):=by
 unfold growH at h
 cases hb:and (Nat.blt n HB) (and (Nat.ble xs.length 32768) (Nat.beq xs.length (Nat.mul need es))) with
 | false=>rw [hb] at h;cases h
 | true =>
   rw [hb] at h
   rw [Bool.and_eq_true,Bool.and_eq_true] at hb
   cases h
   exact ⟨jaa hb.1,jad hb.2.1,jat hb.2.2,rfl,rfl,jbv H (jaa hb.1) _⟩
theorem jkb {es need:Nat} {xs:List Sc} (h:growH es need xs H n=.ok v H' n') (hR:R G (hp H) w) (hf:G n=none) {nc:Nat} {arr:Array Value} {e:TypeId} (hnc:need≤nc) (hsz:arr.size=xs.length+(nc-need)*es) (hx:All2 (Sc.ok G) xs (arr.toList.take xs.length)) (k:Nat) :
 n'=n+1∧Stp G (hp H) n w (gset G n (w.heap.size,arr.size)) (hp H') n' { w with drawn:=k,heap:=w.heap.push (.cells arr e (0,0)) }∧V.ok (gset G n (w.heap.size,arr.size)) v (.slice (some ⟨w.heap.size,0,none⟩) need nc):=by
 obtain ⟨h1,h2,h3,rfl,rfl,h6⟩:=jci h
 have hle:Gh.le G (gset G n (w.heap.size,arr.size)):=fun id y hy=>by
  unfold gset;split
  ·rename_i q;rw [q,hf] at hy;cases hy
  ·exact hy
 refine ⟨rfl,?_,w.heap.size,arr.size,nc,by simp [gset],rfl,Nat.le_refl _,hnc,?_⟩
 ·rw [h6]
  exact (jhg hR hf (.cells arr e (0,0)) arr.size (jdn xs true) (jhu (hx.mono fun _ _=>Sc.ok_le hle) h2 e)).drawn k
 ·rw [hsz,h3,←Nat.add_mul]
  show 0+nc*es=_
  rw [Nat.zero_add];congr 1;omega
theorem ndOb_some {len2:Nat} {xs:List Sc} {ob ob':Ob} (h:ndOb len2 xs ob=some ob'):∃ dep d t,ob=.row len2 true dep d t∧((len2+xs.length≤8^dep∧ob'=.row (len2+xs.length) true dep d (setL dep xs len2 t))∨(len2+xs.length≤32768∧ob'=jdn (rowL dep d t len2 0++xs) true)):=by
 unfold ndOb at h
 split at h
 ·rename_i m dep d t
  obtain ⟨h1,h3⟩:=jab h
  clear h
  have h1:=jat h1
  rw [←h1]
  refine ⟨dep,d,t,rfl,?_⟩
  cases hq:Nat.ble (Nat.add m xs.length) (Nat.pow 8 dep) with
  | true=>rw [hq] at h3;cases h3;exact .inl ⟨jad hq,rfl⟩
  | false =>
    rw [hq] at h3
    obtain ⟨h2,h4⟩:=jab (show cnd (Nat.ble (Nat.add m xs.length) 32768) (some (jdn (rowL dep d t m 0++xs) true)) none=some ob' from h3)
    cases h4
    exact .inr ⟨jad h2,rfl⟩
 ·cases h
theorem ndOb_ok {len2:Nat} {xs:List Sc} {dep:Nat} {d:Sc} {t:T8 Sc} {ob':Ob} {G':Gh} {sz:Nat} (h:(len2+xs.length≤8^dep∧ob'=.row (len2+xs.length) true dep d (setL dep xs len2 t))∨(len2+xs.length≤32768∧ob'=jdn (rowL dep d t len2 0++xs) true))
 {arr:Array Value} {el:TypeId} {fz:Nat×Nat} (hs:arr.size=sz) (hle:len2+xs.length≤sz) (hf:∀ i,i<sz→¬(fz.1≤i∧i<fz.2)) (h1:∀ i,i<len2→Sc.ok G' (tget dep d t i) (arr.getD i undef)) (h2:∀ i (hi:i<xs.length),Sc.ok G' xs[i] (arr.getD (len2+i) undef)):ob'≠.no∧ObOk G' sz ob' (.cells arr el fz):=by
 rcases h with ⟨hd,rfl⟩ | ⟨hd,rfl⟩
 ·refine ⟨(fun q=>by cases q),arr,el,fz,rfl,hs,hle,(fun q=>by cases q),hd,hf,fun i hi=>?_⟩
  have:=jeg (dep:=dep) (d:=d) xs len2 t hd i (by omega)
  rw [this]
  by_cases hc:len2≤i∧i<len2+xs.length
  ·rw [dif_pos hc]
   have:=h2 (i-len2) (by omega)
   rwa [show len2+(i-len2)=i by omega] at this
  ·rw [dif_neg hc]
   exact h1 i (by omega)
 ·have hl:(rowL dep d t len2 0++xs).length=len2+xs.length:=by rw [List.length_append,jbg]
  refine ⟨jkm,arr,el,fz,rfl,hs,by rw [hl];exact hle,(fun q=>by cases q),jii (by omega),hf,fun i hi=>?_⟩
  have hdp:=jii (n:=(rowL dep d t len2 0++xs).length) (by omega)
  have:=jeg (dep:=dpt (rowL dep d t len2 0++xs).length) (d:=.u) (rowL dep d t len2 0++xs) 0 .z (by omega) i (by omega)
  rw [this,dif_pos (by omega)]
  by_cases hc:i<len2
  ·have e:(rowL dep d t len2 0++xs)[i-0]'(by omega)=tget dep d t i:=by
    simp only [Nat.sub_zero]
    rw [List.getElem_append_left (by rw [jbg];exact hc),jgs,Nat.zero_add]
   rw [e];exact h1 i hc
  ·have e:(rowL dep d t len2 0++xs)[i-0]'(by omega)=xs[i-len2]'(by omega):=by
    simp only [Nat.sub_zero]
    rw [List.getElem_append_right (by rw [jbg];omega)]
    simp only [jbg]
   rw [e]
   have:=h2 (i-len2) (by omega)
   rwa [show len2+(i-len2)=i by omega] at this
theorem ndH_some {es id len k:Nat} {xs:List Sc} (h:ndH es id len k xs H n=.ok v H' n'):n<HB∧id<HB∧xs.length=k*es∧id≤n∧∃ ob',ndOb (len*es) xs (hp H id)=some ob'∧v=.c (.su n 0 (len+k) (len+k) es)∧n'=n+1∧hp H'=upd (upd (hp H) id .no) n ob':=by
 unfold ndH at h
 cases hb:and (Nat.blt n HB) (and (Nat.blt id HB) (and (Nat.beq xs.length (Nat.mul k es)) (Nat.blt id n))) with
 | false=>rw [hb] at h;cases h
 | true =>
   rw [hb] at h
   rw [Bool.and_eq_true,Bool.and_eq_true,Bool.and_eq_true] at hb
   simp only [cnd_true] at h
   split at h
   ·rename_i ob' hob
    cases h
    have hid:=jaa hb.2.1
    refine ⟨jaa hb.1,hid,jat hb.2.2.1,Nat.le_of_lt (jaa hb.2.2.2),ob',by rw [jas hid];exact hob,rfl,rfl,?_⟩
    rw [jbv _ (jaa hb.1),jbv _ hid]
   ·cases h
theorem r_sub_no {id:Nat} (hR:R G (hp H) w):R G (upd (hp H) id .no) w:=hR.sub fun j hj=>by
 unfold upd at hj ⊢;split at hj
 ·exact absurd rfl hj
 ·rename_i q;rw [if_neg q]
theorem slLen_le {q:V} {l:Nat} {A:Option Addr} {cap:Nat} (hq:jiw q=some l) (hv:V.ok G q (.slice A l cap)):l≤cap:=by
 unfold jiw at hq
 split at hq
 ·cases hq;have:Value.slice A 0 cap=.slice none 0 0:=hv;cases this;exact Nat.le_refl _
 ·cases hq;exact Nat.zero_le _
 ·cases hq;obtain ⟨_,_,_,hv,hle,_⟩:=hv;cases hv;exact hle
 ·cases hq;obtain ⟨_,_,_,_,hv,hle,hle2,_⟩:=hv;cases hv;omega
 ·cases hq
theorem appV_ok {t tx e:TypeId} (ht:P.underlying t=some (.slice e)) (hk:(∃ q,P.underlying tx=some (.slice q))∨P.underlying tx=some .string) {ie:TypeInfo} {zv:Value} (hi:P.info? e=some ie) (hz:ie.zero=some zv) (hzs:zv.cells.size=ie.size) (hby:ie.bytes≤1000000) (h0:0<ie.size) {A xv:Value} {bv:V} (Hy:V.ok G bv A) {k l:Nat} (e2:jiw bv=some l) (hsm':l+(k+1)<1000000)
 (hx:∀ w1:World,(Builtin.lenOf xv).run P w1=.ok (k+1) w1) {xs:List Sc} {vs:Array Value} (hv1:All2 (Sc.ok G) xs vs.toList) (hvs:vs.size=(k+1)*ie.size) (hv3:∀ w1:World,w1.heap=w.heap→(Builtin.firstCells ie.size (k+1) xv).run P w1=.ok vs w1) (hv4:∀ v∈vs.toList,v.oneCell'=true)
 (he:appV ie.size bv (k+1) xs H n=.ok v H' n') (hR:R G (hp H) w) (hf:∀ i,n≤i→i<n'→G i=none)
 (fin:∀ cv w' G',(Builtin.append_ #[t,tx] o.type #[A,xv]).run P w=.ok cv w'→Stp G (hp H) n w G' (hp H') n' w'→V.ok G' v cv→Acts P o a w G (hp H) n v (hp H') n'):n≤n'∧Acts P o a w G (hp H) n v (hp H') n':=by
 unfold appV at he
 split at he
 ·
  have hy:A=.slice none 0 0:=Hy
  cases e2
  obtain ⟨nc,arr,g1,g2,g3,g4⟩:=jkt (w:=w) (ty:=o.type) ht hk hi hz hzs hby hx hv3 hvs hv4 (A:=none) (len:=0) (c:=0) (olds:=#[]) (fun _ _=>rfl) (by omega) (by omega)
  have hxl:xs.length=vs.size:=by rw [hv1.length];simp
  obtain ⟨q1,q2,q3⟩:=jkb (w:=w) he hR (hf n (Nat.le_refl _) (by have:=(jci he).2.2.2.2.1;omega)) (nc:=nc) (arr:=arr) (e:=e) (by omega) (by simp at g2;omega) (by
   have hq:(#[]:Array Value).size+vs.size=xs.length:=by rw [hxl];simp
   rw [hq] at g3;rw [g3];simpa using hv1) (w.drawn+1)
  refine ⟨by omega,fin _ _ _ ?_ q2 q3⟩
  rw [hy,g4];simp
 ·
  rename_i id off len cap es'
  have hlen:len=l:=by cases e2;rfl
  subst hlen
  obtain ⟨bb,sz,hg,hy,hlc,hsz⟩:=Hy
  cases hes:Nat.beq ie.size es' with
  | false=>rw [hes] at he;cases he
  | true =>
    rw [hes] at he
    have hes':=jat hes
    subst hes'
    simp only [cnd_true] at he
    cases hroom:Nat.ble (Nat.add len (k+1)) cap with
    | true =>
      rw [hroom] at he
      have hroom':len+(k+1)≤cap:=jad hroom
      obtain ⟨rfl,rfl,_,w',k1,k2⟩:=jeq (P:=P) he hR hv1 hg
      refine ⟨Nat.le_refl _,fin _ _ _ ?_ k2 ⟨bb,sz,hg,rfl,hroom',hsz⟩⟩
      rw [hy]
      exact jec ht hk hi hx (hv3 w rfl) k1 hroom'
    | false =>
      rw [hroom] at he
      have hfull:cap<len+(k+1):=by
       rcases Nat.lt_or_ge cap (len+(k+1)) with q | q
       ·exact q
       ·have:=Nat.ble_eq_true_of_le q
        have h2:Nat.ble (Nat.add len (k+1)) cap=true:=this
        rw [h2] at hroom;cases hroom
      simp only [cnd_false] at he
      have hxl:xs.length=vs.size:=by rw [hv1.length];simp
      cases hl0:Nat.beq len 0 with
      | true =>
        rw [hl0] at he
        have hl0':=jat hl0
        subst hl0'
        simp only [cnd_true] at he
        obtain ⟨nc,arr,g1,g2,g3,g4⟩:=jkt (w:=w) (ty:=o.type) ht hk hi hz hzs hby hx hv3 hvs hv4 (A:=some ⟨bb,off,none⟩) (len:=0) (c:=cap) (olds:=#[]) (fun w1 _=>by simp [Builtin.firstCells,loadCells,loadCellsFrom]) hfull (by omega)
        obtain ⟨q1,q2,q3⟩:=jkb (w:=w) he hR (hf n (Nat.le_refl _) (by have:=(jci he).2.2.2.2.1;omega)) (nc:=nc) (arr:=arr) (e:=e) (by omega) (by simp at g2;omega) (by
         have hq:(#[]:Array Value).size+vs.size=xs.length:=by rw [hxl];simp
         rw [hq] at g3;rw [g3];simpa using hv1) (w.drawn+1)
        refine ⟨by omega,fin _ _ _ ?_ q2 q3⟩
        rw [hy,g4];simp
      | false =>
        rw [hl0] at he
        simp only [cnd_false] at he
        split at he
        ·rename_i old hold
         have Hy':V.ok G (.c (.sk id off len cap ie.size)) (A):=⟨bb,sz,hg,hy,hlc,hsz⟩
         obtain ⟨os,ho1,ho2,ho3,ho4⟩:=jef (P:=P) hold hR Hy'
         rw [hy] at ho3
         obtain ⟨nc,arr,g1,g2,g3,g4⟩:=jkt (w:=w) (ty:=o.type) ht hk hi hz hzs hby hx hv3 hvs hv4 (A:=some ⟨bb,off,none⟩) (len:=len) (c:=cap) (olds:=os) ho3 hfull hsm'
         have hol:old.length=os.size:=by rw [ho1.length];simp
         obtain ⟨q1,q2,q3⟩:=jkb (w:=w) he hR (hf n (Nat.le_refl _) (by have:=(jci he).2.2.2.2.1;omega)) (nc:=nc) (arr:=arr) (e:=e) g1 (by rw [List.length_append];have g2':arr.size=os.size+vs.size+(nc-(len+(k+1)))*ie.size:=g2;show arr.size=old.length+xs.length+(nc-(len+(k+1)))*ie.size;rw [g2'];omega) (by
          have hq:os.size+vs.size=(old++xs).length:=by rw [List.length_append];omega
          rw [hq] at g3;rw [g3];exact ho1.append hv1) (w.drawn+1)
         refine ⟨by omega,fin _ _ _ ?_ q2 q3⟩
         rw [hy];exact g4
        ·cases he
 ·
  rename_i id off len lb es'
  have hlen:len=l:=by cases e2;rfl
  subst hlen
  obtain ⟨bb,sz,cc,hg,hy,hlb,hlc,hsz⟩:=Hy
  cases hes:Nat.beq ie.size es' with
  | false=>rw [hes] at he;cases he
  | true =>
    rw [hes] at he
    have hes':=jat hes
    subst hes'
    simp only [cnd_true] at he
    cases hroom:Nat.ble (Nat.add len (k+1)) lb with
    | true =>
      rw [hroom] at he
      have hroom':len+(k+1)≤lb:=jad hroom
      obtain ⟨rfl,rfl,_,w',k1,k2⟩:=jeq (P:=P) he hR hv1 hg
      refine ⟨Nat.le_refl _,fin _ _ _ ?_ k2 ⟨bb,sz,cc,hg,rfl,hroom',hlc,hsz⟩⟩
      rw [hy]
      exact jec ht hk hi hx (hv3 w rfl) k1 (by omega)
    | false =>
      rw [hroom] at he
      simp only [cnd_false] at he
      cases hoff:Nat.beq off 0 with
      | false=>rw [hoff] at he;cases he
      | true =>
        rw [hoff] at he
        have hoff':=jat hoff
        subst hoff'
        simp only [cnd_true] at he
        obtain ⟨d1,d2,d3,d4,ob',d5,rfl,rfl,d6⟩:=ndH_some he
        obtain ⟨dep,d,t8,d7,d8⟩:=ndOb_some d5
        obtain ⟨b2,sz2,arr,el,fz,hg2,L⟩:=hR.lies d7
        rw [hg] at hg2;cases hg2
        have hGn:G n=none:=hf n (Nat.le_refl _) (Nat.lt_succ_self n)
        have hne:id≠n:=fun q=>by rw [q,hGn] at hg;cases hg
        have hLs:=L.size
        have hLle:=L.le
        have hxl:xs.length=vs.size:=by rw [hv1.length];simp
        refine ⟨Nat.le_succ _,?_⟩
        rcases Nat.lt_or_ge cc (len+(k+1)) with hfull | hroom2
        ·
         have hold:∀ w1:World,w1.heap=w.heap→(Builtin.firstCells ie.size len (.slice (some ⟨bb,0,none⟩) len cc)).run P w1=.ok (arr.extract 0 (0+len*ie.size)) w1:=fun w1 hw1=>by
          show (loadCells ⟨bb,0,none⟩ (len*ie.size)).run P w1=_
          exact jcc (by rw [hw1];exact L.hb) (by omega)
         obtain ⟨nc,arr2,g1,g2,g3,g4⟩:=jkt (w:=w) (ty:=o.type) ht hk hi hz hzs hby hx hv3 hvs hv4 (A:=some ⟨bb,0,none⟩) (len:=len) (c:=cc) hold hfull hsm'
         have hle:Gh.le G (gset G n (w.heap.size,arr2.size)):=fun i y hy=>by
          unfold gset;split
          ·rename_i q;rw [q,hGn] at hy;cases hy
          ·exact hy
         have hos:(arr.extract 0 (0+len*ie.size)).size=len*ie.size:=by simp;omega
         rw [hos] at g2 g3
         have hall:All2 (Sc.ok (gset G n (w.heap.size,arr2.size))) (rowL dep d t8 (len*ie.size) 0++xs) (arr2.toList.take (len*ie.size+vs.size)):=by
          rw [g3]
          exact ((L.list (off:=0) (k:=len*ie.size) (by omega)).append hv1).mono fun _ _=>Sc.ok_le hle
         have hcell:∀ i,i<len*ie.size+xs.length→Sc.ok (gset G n (w.heap.size,arr2.size)) ((rowL dep d t8 (len*ie.size) 0++xs)[i]?.getD .u) (arr2.getD i undef):=by
          intro i hi'
          have l1:i<(rowL dep d t8 (len*ie.size) 0++xs).length:=by rw [List.length_append,jbg];exact hi'
          have l2:i<(arr2.toList.take (len*ie.size+vs.size)).length:=by rw [←hall.length];exact l1
          have:=hall.get i l1 l2
          rw [List.getElem_take,Array.getElem_toList] at this
          rw [List.getElem?_eq_getElem l1,jby (by simp at l2;omega)]
          exact this
         obtain ⟨ne,hok⟩:=ndOb_ok (G':=gset G n (w.heap.size,arr2.size)) (sz:=arr2.size) (el:=e) (fz:=(0,0)) d8 rfl (by rw [g2,hxl];omega) (fun i _=>by simp)
          (fun i hi'=>by
            have:=hcell i (by omega)
            rw [List.getElem?_append_left (by rw [jbg];exact hi'),List.getElem?_eq_getElem (by rw [jbg];exact hi'),jgs,Nat.zero_add] at this
            exact this)
          (fun i hi'=>by
            have:=hcell (len*ie.size+i) (by omega)
            rw [List.getElem?_append_right (by rw [jbg];omega),jbg,show len*ie.size+i-len*ie.size=i by omega,List.getElem?_eq_getElem hi'] at this
            exact this)
         refine fin (.slice (some ⟨w.heap.size,0,none⟩) (len+(k+1)) nc) { w with drawn:=w.drawn+1,heap:=w.heap.push (.cells arr2 e (0,0)) } (gset G n (w.heap.size,arr2.size)) (by rw [hy];exact g4) ?_ ⟨w.heap.size,arr2.size,nc,by simp [gset],rfl,Nat.le_refl _,g1,?_⟩
         ·rw [d6]
          have hst:=(jhg (r_sub_no (id:=id) hR) hGn (.cells arr2 e (0,0)) arr2.size ob' hok).drawn (w.drawn+1)
          refine ⟨hst.ext,hst.r,⟨hst.fr.os,hst.fr.tape,hst.fr.output,hst.fr.size,fun j hj hn'=>hst.fr.block j hj fun q=>hn' ?_⟩,fun b' hb'=>?_⟩
          ·obtain ⟨i,s',hi1,hi2⟩:=q
           refine ⟨i,s',?_,hi2⟩
           unfold upd at hi1;split at hi1
           ·exact absurd rfl hi1
           ·exact hi1
          ·rcases hst.ft b' hb' with ⟨i,s',hi1,hi2⟩ | q
           ·refine .inl ⟨i,s',?_,hi2⟩
            unfold upd at hi1;split at hi1
            ·exact absurd rfl hi1
            ·exact hi1
           ·exact .inr q
         ·show 0+nc*ie.size=arr2.size
          have g2':arr2.size=len*ie.size+vs.size+(nc-(len+(k+1)))*ie.size:=g2
          rw [g2',hvs]
          have:(len+(k+1)+(nc-(len+(k+1))))*ie.size=nc*ie.size:=by congr 1;omega
          rw [Nat.add_mul,Nat.add_mul] at this
          omega
        ·
         have hmul:(len+(k+1))*ie.size≤cc*ie.size:=Nat.mul_le_mul_right _ hroom2
         rw [Nat.add_mul] at hmul
         obtain ⟨w',arr',k1,k2,k3,k4,k5,k6,k7,k8,k9⟩:=jdd (P:=P) (b:=bb) (off:=0+len*ie.size) vs.toList 0 arr w L.hb (by simp;omega) (by rw [hLs];exact L.fz) hv4
         have hle:Gh.le G (gset G n (bb,sz)):=fun i y hy=>by
          unfold gset;split
          ·rename_i q;rw [q,hGn] at hy;cases hy
          ·exact hy
         obtain ⟨ne,hok⟩:=ndOb_ok (G':=gset G n (bb,sz)) (sz:=sz) (el:=el) (fz:=fz) (arr:=arr') d8 (by omega) (by omega) L.fz
          (fun i hi'=>by
            rw [k9 i (by omega),dif_neg (by omega)]
            exact Sc.ok_le hle (L.cell i (by omega)))
          (fun i hi'=>by
            rw [k9 (len*ie.size+i) (by omega),dif_pos (by simp;omega)]
            have:=hv1.get i hi' (by simp;omega)
            simp only [show len*ie.size+i-(0+len*ie.size+0)=i by omega]
            exact Sc.ok_le hle this)
         refine fin (.slice (some ⟨bb,0,none⟩) (len+(k+1)) cc) w' (gset G n (bb,sz)) (by rw [hy];exact jec ht hk hi hx (hv3 w rfl) k1 hroom2) ?_ ⟨bb,sz,cc,by simp [gset],rfl,Nat.le_refl _,hroom2,hsz⟩
         rw [d6]
         have hne2:∀ j,upd (upd (hp H) id .no) n ob' j≠.no→j≠n→j≠id∧hp H j≠.no∧upd (upd (hp H) id .no) n ob' j=hp H j:=by
          intro j hj hjn
          unfold upd at hj ⊢
          rw [if_neg hjn] at hj ⊢
          split at hj
          ·exact absurd rfl hj
          ·rename_i q;rw [if_neg q];exact ⟨q,hj,rfl⟩
         have hid0:hp H id≠.no:=by rw [d7];exact fun q=>by cases q
         refine ⟨⟨hle,fun j hj=>by unfold gset;rw [if_neg (by omega)]⟩,⟨fun j hj=>?_,fun i j b' si sj hi' hj' gi gj=>?_⟩,⟨k4,k5,k6,by omega,fun j hj hn'=>k8 j fun q=>hn' ?_⟩,fun b' hb'=>?_⟩
         ·by_cases e:j=n
          ·subst e
           refine ⟨bb,sz,_,by simp [gset],k2,?_⟩
           unfold upd;rw [if_pos rfl];exact hok
          ·obtain ⟨q1,q2,q3⟩:=hne2 j hj e
           rw [q3]
           obtain ⟨b',s',o',r1,r2,r3⟩:=hR.1 j q2
           refine ⟨b',s',o',by unfold gset;rw [if_neg e];exact r1,?_,r3.le hle⟩
           rw [k8 b' fun q=>q1 (hR.2 j id bb s' sz q2 hid0 (q▸r1) hg)];exact r2
         ·unfold gset at gi gj
          by_cases e:i=n
          ·by_cases e':j=n
           ·rw [e,e']
           ·rw [if_pos e] at gi;cases gi
            rw [if_neg e'] at gj
            obtain ⟨q1,q2,q3⟩:=hne2 j hj' e'
            exact absurd (hR.2 j id bb sj sz q2 hid0 gj hg) q1
          ·obtain ⟨q1,q2,q3⟩:=hne2 i hi' e
           rw [if_neg e] at gi
           by_cases e':j=n
           ·rw [if_pos e'] at gj;cases gj
            exact absurd (hR.2 i id bb si sz q2 hid0 gi hg) q1
           ·rw [if_neg e'] at gj
            obtain ⟨q1',q2',q3'⟩:=hne2 j hj' e'
            exact hR.2 i j b' si sj q2 q2' gi gj
         ·rw [q];exact ⟨id,sz,hid0,hg⟩
         ·obtain ⟨i,s',hi1,hi2⟩:=hb'
          unfold gset at hi2
          by_cases e:i=n
          ·rw [if_pos e] at hi2;cases hi2
           exact .inl ⟨id,sz,hid0,hg⟩
          ·rw [if_neg e] at hi2
           obtain ⟨q1,q2,q3⟩:=hne2 i hi1 e
           exact .inl ⟨i,s',q2,hi2⟩
 ·cases he
theorem ok_app {t tx e:TypeId} {args:Array Operand} {ts:Array TypeId} (ho:o.op=.call { callee:=.builtin .append,args,argTypes:=ts }) {y z:Operand} (ha:args.toList=[y,z]) (hts:ts.toList=[t,tx]) (ht:P.underlying t=some (.slice e)) (htx:∃ q,P.underlying tx=some (.slice q)) {es:Nat} {zl:List Sc} (hel:elOk P e=some (es,zl)) {b c:Od} (h1:cOd nt y=some b) (h2:cOd nt z=some c)
 (he:eApp es b c ρ H n=.ok v H' n') (hR:R G (hp H) w) (hr:RegOk nt G ρ a) (hn:a.tmps.size=nt.nt) (hf:∀ i,n≤i→i<n'→G i=none):n≤n'∧Acts P o a w G (hp H) n v (hp H') n':=by
 obtain ⟨ie,zv,hi,hz,hzl,hzs,rfl,h0,hby⟩:=jfh hel
 have Hy:=jam h1 hr hn
 have Hz:=jam h2 hr hn
 have hargs:args.map a.eval=#[a.eval y,a.eval z]:=by apply Array.toList_inj.1;simp [ha]
 have htt:ts=#[t,tx]:=by apply Array.toList_inj.1;rw [hts]
 have fin:∀ cv w' G',(Builtin.append_ #[t,tx] o.type #[a.eval y,a.eval z]).run P w=.ok cv w'→Stp G (hp H) n w G' (hp H') n' w'→V.ok G' v cv→Acts P o a w G (hp H) n v (hp H') n':=by
  intro cv w' G' q1 q2 q3
  refine ⟨cv,w',G',.value cv,?_,.inl rfl,q2,q3⟩
  unfold execOp;rw [ho]
  simp only [resolve,pure_bind,invoke,hargs,htt,builtin,Sem.run_bind,q1,Result.andThen_ok,Sem.run_pure]
 have lenS:∀ (p:Option Addr) (k xc:Nat) (w1:World),(Builtin.lenOf (.slice p k xc)).run P w1=.ok k w1:=fun _ _ _ _=>rfl
 unfold eApp at he
 generalize b.get ρ=bv at he Hy
 generalize c.get ρ=cv at he Hz
 split at he
 ·
  rename_i l e1 e2
  obtain ⟨p,xc,hx⟩:=jee e1 Hz
  obtain ⟨A,cap,hy⟩:=jee e2 Hy
  cases he
  refine ⟨Nat.le_refl _,fin (a.eval y) w G ?_ (Stp.refl hR) Hy⟩
  rw [hy]
  refine jir ht (.inl htx) hi (fun w1=>by rw [hx];rfl) (by rw [hx];cases p with | none=>rfl | some p=>simp [Builtin.firstCells,loadCells,loadCellsFrom]) ?_
  exact slLen_le e2 (hy▸Hy)
 ·rename_i k l e1 e2
  cases hsm:Nat.blt (Nat.add l (Nat.add k 1)) 1000000 with
  | false=>rw [hsm] at he;cases he
  | true =>
    rw [hsm] at he
    have hsm':l+(k+1)<1000000:=jaa hsm
    simp only [cnd_true] at he
    split at he
    ·rename_i xs hxs
     obtain ⟨p,xc,hx⟩:=jee e1 Hz
     obtain ⟨vs,hv1,hv2,hv3,hv4⟩:=jef (P:=P) hxs hR Hz
     have hvs:vs.size=(k+1)*ie.size:=by have:=hv1.length;rw [hv2] at this;simpa using this.symm
     exact appV_ok ht (.inl htx) hi hz hzs hby h0 Hy e2 hsm' (fun w1=>by rw [hx];rfl) hv1 hvs hv3 hv4 he hR hf fin
    ·cases he
 ·cases he
theorem strL_eq:∀ (bs:List UInt8) (acc:List Sc),strL bs.length (pk bs) acc=bs.map (fun b=>Sc.i .u8 (.ofNat b.toNat))++acc:=by
 intro bs
 induction hl:bs.length generalizing bs with
 | zero=>intro acc;cases bs with
   | nil=>rfl
   | cons _ _=>simp at hl
 | succ k ih =>
   intro acc
   rcases List.eq_nil_or_concat bs with rfl | ⟨l,x,rfl⟩
   ·simp at hl
   ·have hk:l.length=k:=by simpa using hl
    have hx:x.toNat<256:=x.toNat_lt
    have hp:pk (l++[x])=256*pk l+x.toNat:=by
     rw [pk_append]
     have:pk [x]=x.toNat:=by simp [pk]
     rw [this];rfl
    show strL k (Nat.div (pk (l.concat x)) 256) (.i .u8 (.ofNat (Nat.mod (pk (l.concat x)) 256))::acc)=_
    rw [List.concat_eq_append,hp]
    have d1:Nat.div (256*pk l+x.toNat) 256=pk l:=by show (256*pk l+x.toNat) / 256=pk l;omega
    have d2:Nat.mod (256*pk l+x.toNat) 256=x.toNat:=by show (256*pk l+x.toNat) % 256=x.toNat;omega
    rw [d1,d2,ih l hk]
    simp
theorem strL_ok {G:Gh} (bs:List UInt8):All2 (Sc.ok G) (strL bs.length (pk bs) []) (bs.map fun b=>Value.int .u8 b.toNat):=by
 rw [strL_eq,List.append_nil]
 induction bs with
 | nil=>exact .nil
 | cons x l ih=>exact .cons rfl ih
theorem ok_aps {t tx e:TypeId} {args:Array Operand} {ts:Array TypeId} (ho:o.op=.call { callee:=.builtin .append,args,argTypes:=ts }) {y z:Operand} (ha:args.toList=[y,z]) (hts:ts.toList=[t,tx]) (ht:P.underlying t=some (.slice e)) (htx:P.underlying tx=some .string) {zl:List Sc} (hel:elOk P e=some (1,zl)) {b c:Od} (h1:cOd nt y=some b) (h2:cOd nt z=some c)
 (he:eAps b c ρ H n=.ok v H' n') (hR:R G (hp H) w) (hr:RegOk nt G ρ a) (hn:a.tmps.size=nt.nt) (hf:∀ i,n≤i→i<n'→G i=none):n≤n'∧Acts P o a w G (hp H) n v (hp H') n':=by
 obtain ⟨ie,zv,hi,hz,hzl,hzs,hes,h0,hby⟩:=jfh hel
 have Hy:=jam h1 hr hn
 have Hz:=jam h2 hr hn
 have hargs:args.map a.eval=#[a.eval y,a.eval z]:=by apply Array.toList_inj.1;simp [ha]
 have htt:ts=#[t,tx]:=by apply Array.toList_inj.1;rw [hts]
 have fin:∀ cv w' G',(Builtin.append_ #[t,tx] o.type #[a.eval y,a.eval z]).run P w=.ok cv w'→Stp G (hp H) n w G' (hp H') n' w'→V.ok G' v cv→Acts P o a w G (hp H) n v (hp H') n':=by
  intro cv w' G' q1 q2 q3
  refine ⟨cv,w',G',.value cv,?_,.inl rfl,q2,q3⟩
  unfold execOp;rw [ho]
  simp only [resolve,pure_bind,invoke,hargs,htt,builtin,Sem.run_bind,q1,Result.andThen_ok,Sem.run_pure]
 have lens:∀ (s:ByteArray),s.size=s.data.toList.length:=fun s=>by rw [Array.length_toList];rfl
 unfold eAps at he
 generalize b.get ρ=bv at he Hy
 generalize c.get ρ=cv at he Hz
 split at he
 ·rename_i m l e2
  obtain ⟨A,cap,hy⟩:=jee e2 Hy
  obtain ⟨s,hs,hs1,hs2⟩:∃ s:ByteArray,a.eval z=.string s∧s.data.toList.length=0∧pk s.data.toList=m:=Hz
  have hsz:s.size=0:=(lens s).trans hs1
  cases he
  refine ⟨Nat.le_refl _,fin (a.eval y) w G ?_ (Stp.refl hR) Hy⟩
  rw [hy]
  refine jir ht (.inr htx) hi (fun w1=>by rw [hs,←hsz];rfl) ?_ (slLen_le e2 (hy▸Hy))
  rw [hs,hes]
  have:=firstCells_string (P:=P) s w
  rw [hsz] at this
  rw [this]
  have hb:byteCells s=[]:=List.length_eq_zero_iff.1 ((byteCells_length s).trans hsz)
  rw [hb]
 ·rename_i k m l e2
  cases hsm:Nat.blt (Nat.add l (Nat.add k 1)) 1000000 with
  | false=>rw [hsm] at he;cases he
  | true =>
    rw [hsm] at he
    have hsm':l+(k+1)<1000000:=jaa hsm
    simp only [cnd_true] at he
    obtain ⟨s,hs,hs1,hs2⟩:∃ s:ByteArray,a.eval z=.string s∧s.data.toList.length=k+1∧pk s.data.toList=m:=Hz
    have hsz:s.size=k+1:=(lens s).trans hs1
    have hcl:(byteCells s).length=k+1:=(byteCells_length s).trans hsz
    rw [←hs1,←hs2] at he
    rw [←hes] at he
    refine appV_ok (k:=k) (vs:=(byteCells s).toArray) ht (.inr htx) hi hz (hzs.trans hes.symm) hby (by omega) Hy e2 hsm' (fun w1=>by rw [hs,←hsz];rfl) (strL_ok s.data.toList) ?_ (fun w1 _=>?_) (fun u hu=>?_) (by rw [←hs1];exact he) hR hf fin
    ·rw [List.size_toArray,hcl,hes,Nat.mul_one]
    ·rw [hs,hes,←hsz];exact firstCells_string s w1
    ·have hu:u∈byteCells s:=by simpa using hu
     obtain ⟨_,_,rfl⟩:=List.mem_map.1 hu
     rfl
 ·cases he
end
end
end Ev
end
section
namespace Ev
open Go.RowKit
noncomputable section
section
variable {P:Program} {nt:Cx} {o:Oper} {G:Gh} {ρ:RT} {a:Act} {w:World} {n n':Nat} {H H':HT} {v:V}
theorem jbk {s:Sem Value} (h:execOp a.eval o=(do pure (Next.value (←s)))) {cv:Value} {w':World} {G':Gh} {H1 H1':Hp} {n1:Nat} (q1:s.run P w=.ok cv w') (q2:Stp G H1 n w G' H1' n1 w') (q3:V.ok G' v cv):Acts P o a w G H1 n v H1' n1 :=
 ⟨cv,w',G',.value cv,jhl h q1,.inl rfl,q2,q3⟩
theorem ok_cpy {t e:TypeId} {args:Array Operand} {ts:Array TypeId} (ho:o.op=.call { callee:=.builtin .copy,args,argTypes:=ts }) {y z:Operand} (ha:args.toList=[y,z]) (hts:ts[0]? =some t) (ht:P.underlying t=some (.slice e)) {es:Nat} {zl:List Sc} (hel:elOk P e=some (es,zl)) {b c:Od} (h1:cOd nt y=some b) (h2:cOd nt z=some c)
 (he:eCpy es b c ρ H n=.ok v H' n') (hR:R G (hp H) w) (hr:RegOk nt G ρ a) (hn:a.tmps.size=nt.nt):n'=n∧Acts P o a w G (hp H) n v (hp H') n':=by
 obtain ⟨ie,zv,hi,hz,hzl,hzs,rfl,h0,hby⟩:=jfh hel
 have Hy:=jam h1 hr hn
 have Hz:=jam h2 hr hn
 have hargs:args.map a.eval=#[a.eval y,a.eval z]:=by apply Array.toList_inj.1;simp [ha]
 have hex:execOp a.eval o=(do pure (Next.value (←Builtin.copy_ ts o.type #[a.eval y,a.eval z]))):=by
  unfold execOp;rw [ho]
  simp only [resolve,pure_bind,invoke,hargs]
  rfl
 unfold eCpy at he
 generalize b.get ρ=bv at he Hy
 generalize c.get ρ=cv at he Hz
 split at he
 ·rename_i da sb e1 e2
  obtain ⟨A,dcap,hy⟩:=jee e1 Hy
  obtain ⟨p,xc,hx⟩:=jee e2 Hz
  have hmin:(cnd (Nat.ble sb da) sb da)=Nat.min sb da:=by
   cases q:Nat.ble sb da with
   | true=>exact (Nat.min_eq_left (jad q)).symm
   | false =>
     refine (Nat.min_eq_right ?_).symm
     rcases Nat.lt_or_ge da sb with r | r
     ·exact Nat.le_of_lt r
     ·have:=Nat.ble_eq_true_of_le r;rw [q] at this;cases this
  rw [hmin] at he
  have hcopy:∀ vs w',(Builtin.firstCells ie.size (Nat.min sb da) (a.eval z)).run P w=.ok vs w→(match A with | some q=>(storeCells q vs.toList).run P w | none=>.ok () w)=.ok () w'→(Builtin.copy_ ts o.type #[a.eval y,a.eval z]).run P w=.ok (goInt (Nat.min sb da)) w':=by
   intro vs w' q1 q2
   rw [hx] at q1 ⊢
   rw [hy]
   cases A with
   | none =>
     cases q2
     simp [Builtin.copy_,hts,jaf ht,jbf hi,Builtin.lenOf,q1]
   | some A =>
     have q2':(storeCells A vs.toList).run P w=.ok () w':=q2
     simp [Builtin.copy_,hts,jaf ht,jbf hi,Builtin.lenOf,q1,q2']
  generalize hm:Nat.min sb da=m at he hcopy
  cases m with
  | zero =>
    cases he
    have hf:(Builtin.firstCells ie.size 0 (a.eval z)).run P w=.ok #[] w:=by
     rw [hx]
     cases p with
     | none=>rfl
     | some p=>simp [Builtin.firstCells,loadCells,loadCellsFrom]
    exact ⟨rfl,jbk hex (hcopy #[] w hf (by cases A<;>rfl)) (Stp.refl hR) rfl⟩
  | succ k =>
    unfold cpyV at he
    split at he
    ·cases ‹k+1=0›
    ·rename_i k' hk'
     cases hk'
     split at he
     ·rename_i xs id off len cap es' hxs
      obtain ⟨vs,hv1,hv2,hv3,hv4⟩:=jef (P:=P) hxs hR Hz
      obtain ⟨bb,sz,hg,hy',_⟩:=Hy
      rw [hy] at hy';cases hy'
      obtain ⟨rfl,rfl,_,w',k1,k2⟩:=jeq (P:=P) he hR hv1 hg
      exact ⟨rfl,jbk hex (hcopy vs w' (hv3 w rfl) k1) k2 rfl⟩
     ·rename_i xs id off len lb es' hxs
      obtain ⟨vs,hv1,hv2,hv3,hv4⟩:=jef (P:=P) hxs hR Hz
      obtain ⟨bb,sz,cc,hg,hy',_⟩:=Hy
      rw [hy] at hy';cases hy'
      obtain ⟨rfl,rfl,_,w',k1,k2⟩:=jeq (P:=P) he hR hv1 hg
      exact ⟨rfl,jbk hex (hcopy vs w' (hv3 w rfl) k1) k2 rfl⟩
     ·cases he
 ·cases he
theorem ok_clr {t e:TypeId} {args:Array Operand} {ts:Array TypeId} (ho:o.op=.call { callee:=.builtin .clear,args,argTypes:=ts }) {y:Operand} (ha:args.toList=[y]) (hts:ts.toList=[t]) (ht:P.underlying t=some (.slice e)) {es:Nat} {zl:List Sc} (hel:elOk P e=some (es,zl)) {b:Od} (h1:cOd nt y=some b)
 (he:eClr zl es b ρ H n=.ok v H' n') (hR:R G (hp H) w) (hr:RegOk nt G ρ a) (hn:a.tmps.size=nt.nt):n'=n∧Acts P o a w G (hp H) n v (hp H') n':=by
 obtain ⟨ie,zv,hi,hz,hzl,hzs,rfl,h0,hby⟩:=jfh hel
 have Hy:=jam h1 hr hn
 have hargs:args.map a.eval=#[a.eval y]:=by apply Array.toList_inj.1;simp [ha]
 have htt:ts=#[t]:=by apply Array.toList_inj.1;rw [hts]
 have hex:execOp a.eval o=(do pure (Next.value (←Builtin.clear_ #[t] o.type #[a.eval y]))):=by
  unfold execOp;rw [ho]
  simp only [resolve,pure_bind,invoke,hargs,htt]
  rfl
 have hzr:(zeroValue e).run P w=.ok zv w:=by simp [zeroValue,jdh hi,hz]
 have hnil:∀ (A:Option Addr) (l c:Nat),(A=none∨l=0)→(Builtin.clear_ #[t] o.type #[.slice A l c]).run P w=.ok undef w:=by
  rintro A l c (rfl | rfl)
  ·simp [Builtin.clear_,jaf ht];rfl
  ·cases A<;>simp [Builtin.clear_,jaf ht]<;>rfl
 have hrep:=fun k=>jkf (jev G hzl) (by rw [hzs];exact h0) k
 have hst:∀ (A:Addr) (l c:Nat) w',(storeCells A ((Array.range ((l+1)*zv.cells.size)).map (zv.cells[· % zv.cells.size]!)).toList).run P w=.ok () w'→(Builtin.clear_ #[t] o.type #[.slice (some A) (l+1) c]).run P w=.ok undef w':=by
  intro A l c w' q
  have q':(storeCells A (Builtin.zeroCells zv.cells (l+1)).toList).run P w=.ok () w':=q
  generalize hzc:Builtin.zeroCells zv.cells (l+1)=zc at q'
  simp [Builtin.clear_,jaf ht,hzr,hzc,q']
  rfl
 unfold eClr at he
 generalize b.get ρ=bv at he Hy
 split at he
 ·cases he
  have hv:a.eval y=.slice none 0 0:=Hy
  exact ⟨rfl,jbk hex (by rw [hv];exact hnil _ _ _ (.inl rfl)) (Stp.refl hR) unit_ok⟩
 ·cases he
  obtain ⟨A,c,hv⟩:=Hy
  exact ⟨rfl,jbk hex (by rw [hv];exact hnil _ _ _ (.inr rfl)) (Stp.refl hR) unit_ok⟩
 ·rename_i id off len cap es'
  obtain ⟨bb,sz,hg,hv,_⟩:=Hy
  cases len with
  | zero =>
    cases he
    exact ⟨rfl,jbk hex (by rw [hv];exact hnil _ _ _ (.inr rfl)) (Stp.refl hR) unit_ok⟩
  | succ l =>
    obtain ⟨rfl,rfl,_,w',k1,k2⟩:=jeq (P:=P) he hR (hrep (l+1)) hg
    exact ⟨rfl,jbk hex (by rw [hv];exact hst _ _ _ _ k1) k2 unit_ok⟩
 ·rename_i id off len lb es'
  obtain ⟨bb,sz,cc,hg,hv,_⟩:=Hy
  cases len with
  | zero =>
    cases he
    exact ⟨rfl,jbk hex (by rw [hv];exact hnil _ _ _ (.inr rfl)) (Stp.refl hR) unit_ok⟩
  | succ l =>
    obtain ⟨rfl,rfl,_,w',k1,k2⟩:=jeq (P:=P) he hR (hrep (l+1)) hg
    exact ⟨rfl,jbk hex (by rw [hv];exact hst _ _ _ _ k1) k2 unit_ok⟩
 ·cases he
theorem jhw {id:Nat} {es es':List (Sc×E)} (hR:R G (hp H) w) (hid:id<HB) (ho:hget H id=.mp es) {b sz:Nat} (hg:G id=some (b,sz)) {ents':Array MapEntry} {clock':Nat} (hall:All2 (fun (p:Sc×E) (e:MapEntry)=>Sc.ok G p.1 e.key∧E.ok G p.2 e.val) es' ents'.toList) (hst:MapKept.Stamped ents' clock') {clock:Nat} {ents:Array MapEntry} (hb:w.heap[b]? =some (.map ents clock)) :
 (setObj b (.map ents' clock')).run P w=.ok () { w with heap:=w.heap.setIfInBounds b (.map ents' clock') }∧Stp G (hp H) n w G (hp (hset H id (.mp es'))) n { w with heap:=w.heap.setIfInBounds b (.map ents' clock') }:=by
 have hlt:b<w.heap.size:=by
  rcases Nat.lt_or_ge b w.heap.size with q | q
  ·exact q
  ·rw [Array.getElem?_eq_none q] at hb;cases hb
 refine ⟨by simp only [setObj,Sem.run,hb],?_⟩
 rw [jbv H hid]
 exact stp_put hR (by rw [jas hid,ho];exact fun q=>by cases q) hg (.map ents' clock') _ ⟨ents',clock',rfl,hst,hall⟩ rfl rfl rfl (by simp) (by simp [hlt]) (fun k hk=>by simp [Array.getElem?_setIfInBounds_ne (fun q=>hk q.symm)])
theorem ok_clm {t k e:TypeId} {args:Array Operand} {ts:Array TypeId} (ho:o.op=.call { callee:=.builtin .clear,args,argTypes:=ts }) {y:Operand} (ha:args.toList=[y]) (hts:ts.toList=[t]) (ht:P.underlying t=some (.map k e)) {b:Od} (h1:cOd nt y=some b)
 (he:eClm b ρ H n=.ok v H' n') (hR:R G (hp H) w) (hr:RegOk nt G ρ a) (hn:a.tmps.size=nt.nt):n'=n∧Acts P o a w G (hp H) n v (hp H') n':=by
 have Hy:=jam h1 hr hn
 have hargs:args.map a.eval=#[a.eval y]:=by apply Array.toList_inj.1;simp [ha]
 have htt:ts=#[t]:=by apply Array.toList_inj.1;rw [hts]
 have hex:execOp a.eval o=(do pure (Next.value (←Builtin.clear_ #[t] o.type #[a.eval y]))):=by
  unfold execOp;rw [ho]
  simp only [resolve,pure_bind,invoke,hargs,htt]
  rfl
 unfold eClm at he
 generalize b.get ρ=bv at he Hy
 split at he
 ·cases he
  have hv:a.eval y=.map none:=Hy
  exact ⟨rfl,jbk hex (by rw [hv];simp [Builtin.clear_,jaf ht];rfl) (Stp.refl hR) unit_ok⟩
 ·rename_i id
  cases hid:Nat.blt id HB with
  | false=>rw [hid] at he;cases he
  | true =>
    rw [hid] at he
    simp only [cnd_true] at he
    split at he
    ·rename_i es hob
     cases he
     have hid':=jaa hid
     obtain ⟨bb,sz,hg,hv⟩:=Hy
     obtain ⟨b',sz',ents,clock,hg',hb,hall⟩:=hR.mapAt (id:=id) (by rw [jas hid'];exact hob)
     rw [hg] at hg';cases hg'
     obtain ⟨k1,k2⟩:=jhw (P:=P) (n:=n) (ents':=#[]) (clock':=clock) (es':=[]) hR hid' hob hg .nil (MapKept.stamped_empty _) hb
     refine ⟨rfl,jbk hex ?_ k2 unit_ok⟩
     rw [hv]
     simp [Builtin.clear_,jaf ht,run_getMap hb,k1]
     rfl
    ·cases he
 ·cases he
theorem same_bits {d:TypeDesc} {u v:Value} (h:Instr.sameNow d u v=some true) (m:Nat):Instr.sameBits m v u=true:=by
 unfold Instr.sameNow at h
 split at h
 ·rename_i k x k' y
  split at h
  ·rename_i e
   subst e
   have h:=Option.some.inj h
   have:x=y:=beq_iff_eq.1 h
   subst this
   cases m<;>simp [Instr.sameBits]
  ·cases h
 ·rename_i s s'
  have h:=Option.some.inj h
  obtain ⟨s⟩:=s
  obtain ⟨s'⟩:=s'
  have h:(s==s')=true:=h
  have:s=s':=beq_iff_eq.1 h
  subst this
  cases m<;>(show (s==s)=true;exact beq_self_eq_true s)
 ·rename_i p q
  have h:=Option.some.inj h
  have:p=q:=beq_iff_eq.1 h
  subst this
  cases m<;>simp [Instr.sameBits]
 ·cases h
theorem sameNow_self {d:TypeDesc} {ik:Bool} (hkt:keyTy d=some ik) {kv:Value} (hd:IsK ik kv):Instr.sameNow d kv kv=some true:=by
 unfold keyTy at hkt
 split at hkt
 ·cases hkt
  obtain ⟨k,n,rfl⟩:=hd
  simp [Instr.sameNow]
 ·cases hkt
  obtain ⟨⟨s⟩,rfl⟩:=hd
  show some (s==s)=some true
  rw [beq_self_eq_true]
 ·cases hkt
theorem sameNow_eq {d:TypeDesc} {u v:Value} (h:Instr.sameNow d u v=some true):u=v:=by
 unfold Instr.sameNow at h
 split at h
 ·split at h
  ·rename_i e
   have h:=Option.some.inj h
   rw [e,beq_iff_eq.1 h]
  ·cases h
 ·rename_i s s'
  obtain ⟨s⟩:=s
  obtain ⟨s'⟩:=s'
  have h:(s==s')=true:=Option.some.inj h
  rw [beq_iff_eq.1 h]
 ·rw [beq_iff_eq.1 (Option.some.inj h)]
 ·cases h
theorem jih {d:TypeDesc} {kv:Value} (hs:Instr.sameNow d kv kv=some true):∀ (l:List MapEntry) (i:Nat),Instr.findNow d kv l i=some none→∀ x∈l,x.key≠kv
 | [],_,_,x,hx=>by cases hx
 | e::l,i,h,x,hx=>by
   unfold Instr.findNow at h
   split at h
   ·cases h
   ·rename_i he
    rcases List.mem_cons.1 hx with rfl | hx
    ·intro q;rw [q,hs] at he;cases he
    ·exact jih hs l (i+1) h x hx
   ·cases h
theorem jjo {d:TypeDesc} {kv:Value} {c:Value}:∀ (l:List MapEntry) (i j:Nat),Instr.findNow d kv l i=some (some (i+j,c))→∀ e,l[j]? =some e→kv=e.key
 | [],_,_,h,_,_=>by cases h
 | x::l,i,j,h,e,he=>by
   unfold Instr.findNow at h
   split at h
   ·rename_i hx
    have hj:i=i+j:=by
     have:=Option.some.inj (Option.some.inj h)
     exact congrArg Prod.fst this
    have:j=0:=by omega
    subst this
    simp at he
    rw [←he];exact sameNow_eq hx
   ·cases j with
    | zero =>
      exfalso
      have key:∀ (l:List MapEntry) (i:Nat) (r:Nat×Value),Instr.findNow d kv l i=some (some r)→i≤r.1:=by
       intro l
       induction l with
       | nil=>intro i r h;cases h
       | cons y l ih =>
         intro i r h
         unfold Instr.findNow at h
         split at h
         ·have:=Option.some.inj (Option.some.inj h)
          rw [←this];exact Nat.le_refl _
         ·have:=ih _ _ h;omega
         ·cases h
      have h3:i+1≤i+0:=key l (i+1) _ h
      omega
    | succ j =>
      have h4:Instr.findNow d kv l (i+1)=some (some (i+1+j,c)):=by rw [h,show i+1+j=i+(j+1) from by omega]
      exact jjo l (i+1) j h4 e (by simpa using he)
   ·cases h
theorem mapSet_ok {d:TypeDesc} {ik:Bool} (hkt:keyTy d=some ik) {k:Sc} {kv:Value} (hv:Sc.ok G k kv) (hd:IsK ik kv) {e:E} {ev:Value} (he:E.ok G e ev) (clock:Nat):∀ (es es':List (Sc×E)) (ents:List MapEntry) (i:Nat),mapSet k e es=some es'→All2 (fun (p:Sc×E) (e:MapEntry)=>Sc.ok G p.1 e.key∧E.ok G p.2 e.val) es ents →
 (Instr.findNow d kv ents i=some none∧All2 (fun (p:Sc×E) (e:MapEntry)=>Sc.ok G p.1 e.key∧E.ok G p.2 e.val) es' (ents++[{ key:=kv,val:=ev,born:=clock }])) ∨
   ∃ j c,j<ents.length∧Instr.findNow d kv ents i=some (some (i+j,c))∧(∀ m,Instr.sameBits m ((ents[j]?.map (·.key)).getD kv) kv=true)∧All2 (fun (p:Sc×E) (e:MapEntry)=>Sc.ok G p.1 e.key∧E.ok G p.2 e.val) es' (ents.modify j fun e=>{ e with key:=kv,val:=ev })
 | [],es',ents,i,h,ha=>by
   cases ha
   cases h
   exact .inl ⟨rfl,.cons ⟨hv,he⟩ .nil⟩
 | (k',e')::es,es',ents,i,h,ha=>by
   cases ha with
   | cons h1 h2 =>
     rename_i en ents'
     unfold mapSet at h
     cases hk:keyEq k k' with
     | none=>rw [hk] at h;cases h
     | some b =>
       rw [hk] at h
       have hs:=jkp hkt hk hv h1.1 hd
       cases b with
       | true =>
         cases h
         refine .inr ⟨0,en.val,by simp,by simp [Instr.findNow,hs],fun m=>?_,.cons ⟨hv,he⟩ h2⟩
         simpa using same_bits hs m
       | false =>
         simp only [] at h
         split at h
         ·rename_i r' hr'
          cases h
          rcases mapSet_ok hkt hv hd he clock es r' ents' (i+1) hr' h2 with ⟨q1,q2⟩ | ⟨j,c,q1,q2,q3,q4⟩
          ·exact .inl ⟨by simp [Instr.findNow,hs,q1],.cons h1 q2⟩
          ·refine .inr ⟨j+1,c,by simp;omega,?_,fun m=>by simpa using q3 m,.cons h1 q4⟩
           simp only [Instr.findNow,hs,q2]
           congr 3;omega
         ·cases h
theorem mapDel_ok {d:TypeDesc} {ik:Bool} (hkt:keyTy d=some ik) {k:Sc} {kv:Value} (hv:Sc.ok G k kv) (hd:IsK ik kv):∀ (es es':List (Sc×E)) (ents:List MapEntry) (i:Nat),mapDel k es=some es'→All2 (fun (p:Sc×E) (e:MapEntry)=>Sc.ok G p.1 e.key∧E.ok G p.2 e.val) es ents →
 (Instr.findNow d kv ents i=some none∧All2 (fun (p:Sc×E) (e:MapEntry)=>Sc.ok G p.1 e.key∧E.ok G p.2 e.val) es' ents) ∨
   ∃ j c,j<ents.length∧Instr.findNow d kv ents i=some (some (i+j,c))∧All2 (fun (p:Sc×E) (e:MapEntry)=>Sc.ok G p.1 e.key∧E.ok G p.2 e.val) es' (ents.eraseIdx j)
 | [],es',ents,i,h,ha=>by
   cases ha
   cases h
   exact .inl ⟨rfl,.nil⟩
 | (k',e')::es,es',ents,i,h,ha=>by
   cases ha with
   | cons h1 h2 =>
     rename_i en ents'
     unfold mapDel at h
     cases hk:keyEq k k' with
     | none=>rw [hk] at h;cases h
     | some b =>
       rw [hk] at h
       have hs:=jkp hkt hk hv h1.1 hd
       cases b with
       | true =>
         cases h
         exact .inr ⟨0,en.val,by simp,by simp [Instr.findNow,hs],h2⟩
       | false =>
         simp only [] at h
         split at h
         ·rename_i r' hr'
          cases h
          rcases mapDel_ok hkt hv hd es r' ents' (i+1) hr' h2 with ⟨q1,q2⟩ | ⟨j,c,q1,q2,q4⟩
          ·exact .inl ⟨by simp [Instr.findNow,hs,q1],.cons h1 q2⟩
          ·refine .inr ⟨j+1,c,by simp;omega,?_,.cons h1 q4⟩
           simp only [Instr.findNow,hs,q2]
           congr 3;omega
         ·cases h
theorem vE_ok {v:V} {e:E} (h:vE v=some e) {c:Value} (hv:V.ok G v c):E.ok G e c:=by
 cases v with
 | c x=>cases h;exact hv
 | a xs=>cases h;exact hv
 | t es=>cases h
theorem ok_mup {t kt et:TypeId} {y z u:Operand} (ho:o.op=.mapUpdate t y z u) (ht:P.underlying t=some (.map kt et)) {d:TypeDesc} {ik:Bool} (hd:P.underlying kt=some d) (hk:keyTy d=some ik) {b c f:Od} (h1:cOd nt y=some b) (h2:cOd nt z=some c) (h3:cOd nt u=some f)
 (he:eMup ik b c f ρ H n=.ok v H' n') (hR:R G (hp H) w) (hr:RegOk nt G ρ a) (hn:a.tmps.size=nt.nt):n'=n∧Acts P o a w G (hp H) n v (hp H') n':=by
 have Hy:=jam h1 hr hn
 have Hz:=jam h2 hr hn
 have Hu:=jam h3 hr hn
 have hex:execOp a.eval o=(do Instr.mapUpdate t (a.eval y) (a.eval z) (a.eval u);pure Next.skip):=by unfold execOp;rw [ho]
 unfold eMup at he
 generalize b.get ρ=bv at he Hy
 generalize c.get ρ=cv at he Hz
 generalize f.get ρ=fv at he Hu
 split at he
 ·rename_i id k e hkk hee
  obtain ⟨rfl,hks⟩:=jei (G:=G) hkk
  cases hid:Nat.blt id HB with
  | false=>rw [hid] at he;cases he
  | true =>
    rw [hid] at he
    simp only [cnd_true] at he
    split at he
    ·rename_i o' ho'
     cases he
     have hid':=jaa hid
     unfold mupO at ho'
     split at ho'
     ·rename_i es hob
      split at ho'
      ·rename_i es' hes'
       cases ho'
       obtain ⟨bb,sz,hg,hv⟩:=Hy
       obtain ⟨b',sz',ents,clock,hg',hb,hall⟩:=hR.mapAt (id:=id) (by rw [jas hid'];exact hob)
       rw [hg] at hg';cases hg'
       have hue:=vE_ok hee Hu
       rcases mapSet_ok hk Hz (hks _ Hz) hue clock es es' ents.toList 0 hes' hall with ⟨q1,q2⟩ | ⟨j,cc,q1,q2,q3,q4⟩
       ·obtain ⟨k1,k2⟩:=jhw (P:=P) (n:=n) (ents':=ents.push { key:=a.eval z,val:=a.eval u,born:=clock }) (clock':=clock+1) (es':=es') hR hid' hob hg (by simpa using q2) (MapKept.stamped_push (hR.mapSt (by rw [jas hid'];exact hob) hg hb) (jih (sameNow_self hk (hks _ Hz)) _ _ q1)) hb
        refine ⟨rfl,undef,_,G,.skip,?_,.inr ⟨rfl,rfl⟩,k2,unit_ok⟩
        rw [hex,hv]
        simp only [Instr.mapUpdate,Sem.run_bind,jaf ht,Result.andThen_ok,run_getMap hb]
        rw [run_checkK hd hk (hks _ Hz)]
        simp only [Result.andThen_ok,Instr.findKey,Sem.run_bind,jaf hd,q1,Sem.run_pure,k1]
       ·obtain ⟨k1,k2⟩:=jhw (P:=P) (n:=n) (ents':=ents.modify j fun e=>{ e with key:=a.eval z,val:=a.eval u }) (clock':=clock) (es':=es') hR hid' hob hg (by rw [Array.toList_modify];exact q4) (MapKept.stamped_modify (hR.mapSt (by rw [jas hid'];exact hob) hg hb) j _ (fun _ _=>rfl) (fun e _ he'=>jjo _ _ _ q2 e (by simpa using he'))) hb
        refine ⟨rfl,undef,_,G,.skip,?_,.inr ⟨rfl,rfl⟩,k2,unit_ok⟩
        rw [hex,hv]
        simp only [Instr.mapUpdate,Sem.run_bind,jaf ht,Result.andThen_ok,run_getMap hb]
        rw [run_checkK hd hk (hks _ Hz)]
        simp only [Result.andThen_ok,Instr.findKey,Sem.run_bind,jaf hd,q2,Sem.run_pure,Nat.zero_add]
        have e1:((ents[j]?.map (·.key)).getD (a.eval z))=((ents.toList[j]?.map (·.key)).getD (a.eval z)):=by simp
        simp only [Instr.keyThatStays,e1,q3 10000,if_true,Sem.run_pure,Result.andThen_ok,k1]
      ·cases ho'
     ·cases ho'
    ·cases he
 ·cases he
theorem ok_del {t kt et:TypeId} {args:Array Operand} {ts:Array TypeId} (ho:o.op=.call { callee:=.builtin .delete,args,argTypes:=ts }) {y z:Operand} (ha:args.toList=[y,z]) (hts:ts[0]? =some t) (ht:P.underlying t=some (.map kt et)) {d:TypeDesc} {ik:Bool} (hd:P.underlying kt=some d) (hk:keyTy d=some ik) {b c:Od} (h1:cOd nt y=some b) (h2:cOd nt z=some c)
 (he:eDel ik b c ρ H n=.ok v H' n') (hR:R G (hp H) w) (hr:RegOk nt G ρ a) (hn:a.tmps.size=nt.nt):n'=n∧Acts P o a w G (hp H) n v (hp H') n':=by
 have Hy:=jam h1 hr hn
 have Hz:=jam h2 hr hn
 have hargs:args.map a.eval=#[a.eval y,a.eval z]:=by apply Array.toList_inj.1;simp [ha]
 have hex:execOp a.eval o=(do pure (Next.value (←Builtin.delete_ ts o.type #[a.eval y,a.eval z]))):=by
  unfold execOp;rw [ho]
  simp only [resolve,pure_bind,invoke,hargs]
  rfl
 unfold eDel at he
 generalize b.get ρ=bv at he Hy
 generalize c.get ρ=cv at he Hz
 split at he
 ·rename_i id k hkk
  obtain ⟨rfl,hks⟩:=jei (G:=G) hkk
  cases hid:Nat.blt id HB with
  | false=>rw [hid] at he;cases he
  | true =>
    rw [hid] at he
    simp only [cnd_true] at he
    split at he
    ·rename_i o' ho'
     cases he
     have hid':=jaa hid
     unfold delO at ho'
     split at ho'
     ·rename_i es hob
      split at ho'
      ·rename_i es' hes'
       cases ho'
       obtain ⟨bb,sz,hg,hv⟩:=Hy
       obtain ⟨b',sz',ents,clock,hg',hb,hall⟩:=hR.mapAt (id:=id) (by rw [jas hid'];exact hob)
       rw [hg] at hg';cases hg'
       rcases mapDel_ok hk Hz (hks _ Hz) es es' ents.toList 0 hes' hall with ⟨q1,q2⟩ | ⟨j,cc,q1,q2,q4⟩
       ·obtain ⟨k1,k2⟩:=jhw (P:=P) (n:=n) (ents':=ents) (clock':=clock) (es':=es') hR hid' hob hg q2 (hR.mapSt (by rw [jas hid'];exact hob) hg hb) hb
        refine ⟨rfl,jbk hex ?_ k2 unit_ok⟩
        rw [hv]
        have e0:(#[Value.map (some bb),a.eval z]:Array Value)[0]? =some (.map (some bb)):=rfl
        have e1:(#[Value.map (some bb),a.eval z]:Array Value)[1]? =some (a.eval z):=rfl
        simp only [Builtin.delete_,hts,e0,e1,Sem.run_bind,jaf ht,Result.andThen_ok,run_getMap hb]
        rw [run_checkK hd hk (hks _ Hz)]
        simp only [Result.andThen_ok,Instr.findKey,Sem.run_bind,jaf hd,q1,Sem.run_pure,k1]
        rfl
       ·obtain ⟨k1,k2⟩:=jhw (P:=P) (n:=n) (ents':=ents.eraseIdxIfInBounds j) (clock':=clock) (es':=es') hR hid' hob hg (by rw [Array.toList_eraseIdxIfInBounds];exact q4) (MapKept.stamped_erase (hR.mapSt (by rw [jas hid'];exact hob) hg hb) j) hb
        refine ⟨rfl,jbk hex ?_ k2 unit_ok⟩
        rw [hv]
        have e0:(#[Value.map (some bb),a.eval z]:Array Value)[0]? =some (.map (some bb)):=rfl
        have e1:(#[Value.map (some bb),a.eval z]:Array Value)[1]? =some (a.eval z):=rfl
        simp only [Builtin.delete_,hts,e0,e1,Sem.run_bind,jaf ht,Result.andThen_ok,run_getMap hb]
        rw [run_checkK hd hk (hks _ Hz)]
        simp only [Result.andThen_ok,Instr.findKey,Sem.run_bind,jaf hd,q2,Sem.run_pure,Nat.zero_add,k1]
        rfl
      ·cases ho'
     ·cases ho'
    ·cases he
 ·cases he
theorem ok_s2b {s d:TypeId} {y:Operand} {p:EO} (ho:o.op=.convert s d y) (hc:cS2b P s d (cOd nt y)=some p) (he:evE p ρ H n=.ok v H' n') (hR:R G (hp H) w) (hr:RegOk nt G ρ a) (hn:a.tmps.size=nt.nt) (hf:∀ i,n≤i→i<n'→G i=none):n≤n'∧Acts P o a w G (hp H) n v (hp H') n':=by
 unfold cS2b at hc
 split at hc
 ·rename_i e b h1 h2 h3
  split at hc
  ·rename_i h4
   cases hc
   have he:eS2b b ρ H n=.ok v H' n':=he
   have Hy:=jam h3 hr hn
   unfold eS2b at he
   generalize b.get ρ=bv at he Hy
   split at he
   ·rename_i k m
    obtain ⟨str,hs,hs1,hs2⟩:∃ s:ByteArray,a.eval y=.string s∧s.data.toList.length=k+1∧pk s.data.toList=m:=Hy
    have hsz:str.size=k+1:=by
     have:str.size=str.data.toList.length:=by rw [Array.length_toList];rfl
     rw [this,hs1]
    obtain ⟨q1,q2,q3,q4,q5,q6⟩:=jci he
    subst q5
    subst q4
    have hG:G n=none:=hf n (Nat.le_refl _) (Nat.lt_succ_self n)
    have hcap:=grownCap_ge w str.size 0 e
    have hrs:(bytesRow str (grownCap w str.size 0 e)).size=grownCap w str.size 0 e:=by
     have:str.data.size=str.size:=rfl
     simp only [bytesRow,Array.size_append,Array.size_map,Array.size_replicate,this];omega
    have hrun:(execOp a.eval o).run P w=.ok (.value (.slice (some ⟨w.heap.size,0,none⟩) str.size (grownCap w str.size 0 e))) (w.drew.alloc (.cells (bytesRow str (grownCap w str.size 0 e)) e ((bytesRow str (grownCap w str.size 0 e)).size,(bytesRow str (grownCap w str.size 0 e)).size+1))):=by
     refine jhl (s:=convert s d (a.eval y)) (by unfold execOp;rw [ho]) ?_
     rw [hs]
     exact run_bytes_of_string w s d e str h1 h2 h4
    have hxs:All2 (Sc.ok G) (strL (k+1) m []) (str.data.toList.map fun b=>Value.int .u8 b.toNat):=by
     rw [←hs1,←hs2];exact strL_ok _
    have htake:(bytesRow str (grownCap w str.size 0 e)).toList.take (strL (k+1) m []).length=str.data.toList.map fun b=>Value.int .u8 b.toNat:=by
     rw [q3,Nat.mul_one]
     unfold bytesRow
     rw [Array.toList_append,Array.toList_map,List.take_left' (by rw [List.length_map];exact hs1)]
    have hst:=(jhg hR hG (.cells (bytesRow str (grownCap w str.size 0 e)) e ((bytesRow str (grownCap w str.size 0 e)).size,(bytesRow str (grownCap w str.size 0 e)).size+1)) (bytesRow str (grownCap w str.size 0 e)).size (jdn (strL (k+1) m []) true) (by
     obtain ⟨arr,el,fz,k1,k2,k3,k4,k5,k6,k7⟩:=jhu (G:=gset G n (w.heap.size,(bytesRow str (grownCap w str.size 0 e)).size)) (xs:=strL (k+1) m []) (arr:=bytesRow str (grownCap w str.size 0 e)) (by rw [htake];exact hxs.mono fun _ _=>Sc.ok_le (fun id y hy=>by
      unfold gset;split
      ·rename_i e0;rw [e0,hG] at hy;cases hy
      ·exact hy)) q2 e
     cases k1
     exact ⟨_,_,_,rfl,k2,k3,k4,k5,fun i hi=>by omega,k7⟩)).drawn (w.drawn+1)
    refine ⟨Nat.le_succ _,_,_,gset G n (w.heap.size,(bytesRow str (grownCap w str.size 0 e)).size),_,hrun,.inl rfl,?_,?_⟩
    ·rw [q6];exact hst
    ·refine ⟨w.heap.size,(bytesRow str (grownCap w str.size 0 e)).size,grownCap w str.size 0 e,by simp [gset],by rw [hsz],Nat.le_refl _,by omega,?_⟩
     show 0+grownCap w str.size 0 e*1=_
     rw [hrs];omega
   ·cases he
  ·cases hc
 ·cases hc
theorem okE {p:EO} (hc:cE P nt o.op=some p) (he:evE p ρ H n=.ok v H' n') (hR:R G (hp H) w) (hr:RegOk nt G ρ a) (hn:a.tmps.size=nt.nt) (hf:∀ i,n≤i→i<n'→G i=none):n≤n'∧Acts P o a w G (hp H) n v (hp H') n':=by
 unfold cE at hc
 split at hc
 ·rename_i s d x ho
  exact ok_s2b ho hc he hR hr hn hf
 ·rename_i t y z ho
  split at hc
  ·rename_i m b c h1 h2 h3
   cases hc
   obtain ⟨i,hi,rfl⟩:=jgz h1
   have hnn:n'=n:=by
    have he':eSto i.size b c ρ H n=.ok v H' n':=he
    unfold eSto at he'
    split at he'
    ·split at he'
     ·unfold stoV at he'
      cases hq:Nat.beq _ i.size with
      | false=>rw [hq] at he';cases he'
      | true=>rw [hq] at he';exact (jhp he').2.2.1
     ·cases he'
    ·cases he'
   exact ⟨Nat.le_of_eq hnn.symm,ok_sto ho hi h2 h3 he hR hr hn⟩
  ·cases hc
 ·rename_i t m k x ho
  split at hc
  ·rename_i kt et b c f h1 h2 h3 h4
   split at hc
   ·rename_i d hd
    split at hc
    ·rename_i ik hk
     cases hc
     obtain ⟨rfl,q⟩:=ok_mup ho h1 hd hk h2 h3 h4 he hR hr hn
     exact ⟨Nat.le_refl _,q⟩
    ·cases hc
   ·cases hc
  ·cases hc
 ·rename_i b args ts ho
  split at hc
  ·rename_i s x t tx h1 h2
   split at hc
   ·rename_i e e' b c h3 h4 h5 h6
    split at hc
    ·rename_i es zl hel
     cases hc
     exact ok_app ho h1 h2 h3 ⟨_,h4⟩ hel h5 h6 he hR hr hn hf
    ·cases hc
   ·rename_i e b c h3 h4 h5 h6
    split at hc
    ·rename_i es zl hel
     obtain ⟨q,hc⟩:=jab hc
     have q:=jat q
     subst q
     cases hc
     exact ok_aps ho h1 h2 h3 h4 hel h5 h6 he hR hr hn hf
    ·cases hc
   ·cases hc
  ·rename_i dd s t r h1 h2
   split at hc
   ·rename_i e b c h3 h5 h6
    split at hc
    ·rename_i es zl hel
     cases hc
     have hts:ts[0]? =some t:=by rw [←Array.getElem?_toList,h2];rfl
     obtain ⟨rfl,q⟩:=ok_cpy ho h1 hts h3 hel h5 h6 he hR hr hn
     exact ⟨Nat.le_refl _,q⟩
    ·cases hc
   ·cases hc
  ·rename_i x t h1 h2
   split at hc
   ·rename_i e b h3 h5
    split at hc
    ·rename_i es zl hel
     cases hc
     obtain ⟨rfl,q⟩:=ok_clr ho h1 h2 h3 hel h5 he hR hr hn
     exact ⟨Nat.le_refl _,q⟩
    ·cases hc
   ·rename_i k e b h3 h5
    cases hc
    obtain ⟨rfl,q⟩:=ok_clm ho h1 h2 h3 h5 he hR hr hn
    exact ⟨Nat.le_refl _,q⟩
   ·cases hc
  ·rename_i m k t r h1 h2
   split at hc
   ·rename_i kt et b c h3 h5 h6
    split at hc
    ·rename_i d hd
     split at hc
     ·rename_i ik hk
      cases hc
      have hts:ts[0]? =some t:=by rw [←Array.getElem?_toList,h2];rfl
      obtain ⟨rfl,q⟩:=ok_del ho h1 hts h3 hd hk h5 h6 he hR hr hn
      exact ⟨Nat.le_refl _,q⟩
     ·cases hc
    ·cases hc
   ·cases hc
  ·cases hc
 ·cases hc
end
end
end Ev
end
end Go.Proofs.YtcchekmejnhlmaaGreat
