/- Joined texts. -/
import Derived.Test.YtcchekmejnhlmaaGreatK11
import Derived.Test.YtcchekmejnhlmaaGreatK14
namespace Go.Proofs.YtcchekmejnhlmaaGreat
set_option linter.unusedVariables false
set_option maxHeartbeats 4000000
section
open Go.RowKit
namespace Db
open Ev
noncomputable section
theorem jbc {B:Nat} {w w':World} (h:Below B w w') (n:Nat):Below B w (w'.drewN n):=⟨h.os,h.tape,h.output,h.size,h.block⟩
theorem jgv:(Tryz.prog.info? 41).map (·.size)=some 24:=by kernel_rfl
def MayOk (t:Tm):Prop:=∀ (w:World) (D:Nat→Prop) (A:Option Addr) (n k:Nat),BatOk w D t.p A n k→Calls Tryz.prog 46 #[msV (t.ms A n k)] w fun e w'=>e=.returned (.bool true)∧Below w.heap.size w w'
section
variable {κ:Kp} {c:Nat→Nat} {w:World} {N:Nat→HT} {bag:List Tm} {gs:List (Int×Tm)} {vg vs:Value} {tm:Int} {ns:Nat} {xs:List Value}
set_option maxRecDepth 100000 in
set_option maxHeartbeats 2000000 in
theorem may_bag (h:Wd κ c w N bag gs vg vs tm ns xs) (kd:Int) (hkd:kd=0∨kd=2) (k:Nat) (hk:k<bag.length) :
 Calls Tryz.prog 24 #[.pointer (some ⟨κ.gw,0,none⟩),.agg #[.int .i64 kd,.int .i64 (k:Int),.int .i64 0,.int .i64 0,.int .i64 0,.int .i64 0,.int .i64 0,.int .i64 0,.int .i64 0,.int .i64 0,.int .i64 0,.int .i64 0,.int .i64 0,.int .i64 0,.int .i64 0,.int .i64 0,.int .i64 0,.int .i64 0,.string ⟨#[]⟩,.slice none 0 0,.int .i64 0,.string ⟨#[]⟩,.slice none 0 0,.string ⟨#[]⟩]] w fun e w'=>e=.returned (.bool true)∧Below w.heap.size w w':=by
 have ha:Below w.heap.size w (w.alloc (.cells #[.int .i64 kd,.int .i64 (k:Int),.int .i64 0,.int .i64 0,.int .i64 0,.int .i64 0,.int .i64 0,.int .i64 0,.int .i64 0,.int .i64 0,.int .i64 0,.int .i64 0,.int .i64 0,.int .i64 0,.int .i64 0,.int .i64 0,.int .i64 0,.int .i64 0,.string ⟨#[]⟩,.slice none 0 0,.int .i64 0,.string ⟨#[]⟩,.slice none 0 0,.string ⟨#[]⟩] 41)):=(Below.refl _ _).alloc (Nat.le_refl _) _
 have HW:=Lib.hid (h.below ha)
 have HB:=Lib.hid (Blk.new w 41 #[.int .i64 kd,.int .i64 (k:Int),.int .i64 0,.int .i64 0,.int .i64 0,.int .i64 0,.int .i64 0,.int .i64 0,.int .i64 0,.int .i64 0,.int .i64 0,.int .i64 0,.int .i64 0,.int .i64 0,.int .i64 0,.int .i64 0,.int .i64 0,.int .i64 0,.string ⟨#[]⟩,.slice none 0 0,.int .i64 0,.string ⟨#[]⟩,.slice none 0 0,.string ⟨#[]⟩])
 have Ha:=Lib.hid ha
 have d1:decide ((k:Int) ≥ 0)=true:=decide_eq_true (by omega)
 have d2:decide ((k:Int)<(bag.length:Int))=true:=decide_eq_true (by omega)
 clear h ha
 have HS:Hid (∀ W,Only (fun _=>False) (w.alloc (.cells #[.int .i64 kd,.int .i64 (k:Int),.int .i64 0,.int .i64 0,.int .i64 0,.int .i64 0,.int .i64 0,.int .i64 0,.int .i64 0,.int .i64 0,.int .i64 0,.int .i64 0,.int .i64 0,.int .i64 0,.int .i64 0,.int .i64 0,.int .i64 0,.int .i64 0,.string ⟨#[]⟩,.slice none 0 0,.int .i64 0,.string ⟨#[]⟩,.slice none 0 0,.string ⟨#[]⟩] 41)) W→W.cell? ⟨w.heap.size,1,none⟩=some (.int .i64 (k:Int))∧W.cell? ⟨κ.gw,2,none⟩=some (.pointer (some ⟨κ.gb,0,none⟩))):=Lib.hid (fun W ho=>⟨(HB.out.only ho id).cell 1,(HW.out.st.only ho id).cell 2⟩)
 have HL:=fun (n:Nat)=>Lib.hid (bLen_any (w:=(w.alloc (.cells #[.int .i64 kd,.int .i64 (k:Int),.int .i64 0,.int .i64 0,.int .i64 0,.int .i64 0,.int .i64 0,.int .i64 0,.int .i64 0,.int .i64 0,.int .i64 0,.int .i64 0,.int .i64 0,.int .i64 0,.int .i64 0,.int .i64 0,.int .i64 0,.int .i64 0,.string ⟨#[]⟩,.slice none 0 0,.int .i64 0,.string ⟨#[]⟩,.slice none 0 0,.string ⟨#[]⟩] 41)).drewN n) (HW.out.bg.below ⟨rfl,rfl,rfl,Nat.le_refl _,fun _ _=>rfl⟩))
 have c2:=HW.out.st.cell 2
 have c1:=HB.out.cell 1
 rcases hkd with rfl | rfl
 all_goals
  go_enter Tryz.func24,Tryz.ntmps24
  go_wp2_with fail
  go_quiet ((go_at_call 44;exact quiet_left (HL _).out))
  go_wp2_with fail
  go_ret
  exact ⟨rfl,jbc Ha.out _⟩
set_option maxRecDepth 100000 in
theorem may_beat (h:Wd κ c w N bag gs vg vs tm ns xs):Calls Tryz.prog 24 #[.pointer (some ⟨κ.gw,0,none⟩),.agg #[.int .i64 4,.int .i64 0,.int .i64 0,.int .i64 0,.int .i64 0,.int .i64 0,.int .i64 0,.int .i64 0,.int .i64 0,.int .i64 0,.int .i64 0,.int .i64 0,.int .i64 0,.int .i64 0,.int .i64 0,.int .i64 0,.int .i64 0,.int .i64 0,.string ⟨#[]⟩,.slice none 0 0,.int .i64 0,.string ⟨#[]⟩,.slice none 0 0,.string ⟨#[]⟩]] w fun e w'=>e=.returned (.bool true)∧Below w.heap.size w w':=by
 have ha:Below w.heap.size w (w.alloc (.cells #[.int .i64 4,.int .i64 0,.int .i64 0,.int .i64 0,.int .i64 0,.int .i64 0,.int .i64 0,.int .i64 0,.int .i64 0,.int .i64 0,.int .i64 0,.int .i64 0,.int .i64 0,.int .i64 0,.int .i64 0,.int .i64 0,.int .i64 0,.int .i64 0,.string ⟨#[]⟩,.slice none 0 0,.int .i64 0,.string ⟨#[]⟩,.slice none 0 0,.string ⟨#[]⟩] 41)):=(Below.refl _ _).alloc (Nat.le_refl _) _
 have HW:=Lib.hid (h.below ha)
 have HB:=Lib.hid (Blk.new w 41 #[.int .i64 4,.int .i64 0,.int .i64 0,.int .i64 0,.int .i64 0,.int .i64 0,.int .i64 0,.int .i64 0,.int .i64 0,.int .i64 0,.int .i64 0,.int .i64 0,.int .i64 0,.int .i64 0,.int .i64 0,.int .i64 0,.int .i64 0,.int .i64 0,.string ⟨#[]⟩,.slice none 0 0,.int .i64 0,.string ⟨#[]⟩,.slice none 0 0,.string ⟨#[]⟩])
 have Ha:=Lib.hid ha
 have hu:=Lib.hid (up_any HW.out 0 (by decide))
 clear h ha
 go_enter Tryz.func24,Tryz.ntmps24
 go_wp2_with fail
 refine hu.out.mono ?_
 rintro e w2 ⟨rfl,rfl⟩
 go_wp2_with fail
 go_ret
 exact ⟨rfl,Ha.out⟩
set_option maxRecDepth 100000 in
set_option maxHeartbeats 2000000 in
theorem may_req (h:Wd κ c w N bag gs vg vs tm ns xs) (mf mv mn ma mc mr ml mss mu mo mg mun:Int) (msr:ByteArray) (mba:Option Addr) (mbn mbc:Nat)
 (hm:∀ W,Below w.heap.size w W→Calls Tryz.prog 46 #[.agg #[.int .i64 0,.int .i64 mf,.int .i64 0,.int .i64 mv,.int .i64 mn,.int .i64 ma,.int .i64 mc,.int .i64 mr,.int .i64 ml,.int .i64 mss,.int .i64 mu,.int .i64 mo,.int .i64 mg,.int .i64 mun,.string msr,.slice mba mbn mbc,.int .i64 0,.string ⟨#[]⟩,.slice none 0 0,.string ⟨#[]⟩]] W fun e w'=>e=.returned (.bool true)∧Below W.heap.size W w') :
 Calls Tryz.prog 24 #[.pointer (some ⟨κ.gw,0,none⟩),.agg #[.int .i64 7,.int .i64 0,.int .i64 0,.int .i64 0,.int .i64 0,.int .i64 mf,.int .i64 0,.int .i64 mv,.int .i64 mn,.int .i64 ma,.int .i64 mc,.int .i64 mr,.int .i64 ml,.int .i64 mss,.int .i64 mu,.int .i64 mo,.int .i64 mg,.int .i64 mun,.string msr,.slice mba mbn mbc,.int .i64 0,.string ⟨#[]⟩,.slice none 0 0,.string ⟨#[]⟩]] w fun e w'=>e=.returned (.bool true)∧Below w.heap.size w w':=by
 have ha:Below w.heap.size w (w.alloc (.cells #[.int .i64 7,.int .i64 0,.int .i64 0,.int .i64 0,.int .i64 0,.int .i64 mf,.int .i64 0,.int .i64 mv,.int .i64 mn,.int .i64 ma,.int .i64 mc,.int .i64 mr,.int .i64 ml,.int .i64 mss,.int .i64 mu,.int .i64 mo,.int .i64 mg,.int .i64 mun,.string msr,.slice mba mbn mbc,.int .i64 0,.string ⟨#[]⟩,.slice none 0 0,.string ⟨#[]⟩] 41)):=(Below.refl _ _).alloc (Nat.le_refl _) _
 have HW:=Lib.hid (h.below ha)
 have HB:=Lib.hid (Blk.new w 41 #[.int .i64 7,.int .i64 0,.int .i64 0,.int .i64 0,.int .i64 0,.int .i64 mf,.int .i64 0,.int .i64 mv,.int .i64 mn,.int .i64 ma,.int .i64 mc,.int .i64 mr,.int .i64 ml,.int .i64 mss,.int .i64 mu,.int .i64 mo,.int .i64 mg,.int .i64 mun,.string msr,.slice mba mbn mbc,.int .i64 0,.string ⟨#[]⟩,.slice none 0 0,.string ⟨#[]⟩])
 have Ha:=Lib.hid ha
 have Hlt:Hid (w.heap.size<(w.alloc (.cells #[.int .i64 7,.int .i64 0,.int .i64 0,.int .i64 0,.int .i64 0,.int .i64 mf,.int .i64 0,.int .i64 mv,.int .i64 mn,.int .i64 ma,.int .i64 mc,.int .i64 mr,.int .i64 ml,.int .i64 mss,.int .i64 mu,.int .i64 mo,.int .i64 mg,.int .i64 mun,.string msr,.slice mba mbn mbc,.int .i64 0,.string ⟨#[]⟩,.slice none 0 0,.string ⟨#[]⟩] 41)).heap.size):=Lib.hid HB.out.lt
 have HS:Hid (∀ W,Below (w.alloc (.cells #[.int .i64 7,.int .i64 0,.int .i64 0,.int .i64 0,.int .i64 0,.int .i64 mf,.int .i64 0,.int .i64 mv,.int .i64 mn,.int .i64 ma,.int .i64 mc,.int .i64 mr,.int .i64 ml,.int .i64 mss,.int .i64 mu,.int .i64 mo,.int .i64 mg,.int .i64 mun,.string msr,.slice mba mbn mbc,.int .i64 0,.string ⟨#[]⟩,.slice none 0 0,.string ⟨#[]⟩] 41)).heap.size (w.alloc (.cells #[.int .i64 7,.int .i64 0,.int .i64 0,.int .i64 0,.int .i64 0,.int .i64 mf,.int .i64 0,.int .i64 mv,.int .i64 mn,.int .i64 ma,.int .i64 mc,.int .i64 mr,.int .i64 ml,.int .i64 mss,.int .i64 mu,.int .i64 mo,.int .i64 mg,.int .i64 mun,.string msr,.slice mba mbn mbc,.int .i64 0,.string ⟨#[]⟩,.slice none 0 0,.string ⟨#[]⟩] 41)) W→W.cell? ⟨w.heap.size,4,none⟩=some (.int .i64 0)∧W.cell? ⟨w.heap.size,6,none⟩=some (.int .i64 0)∧W.cell? ⟨κ.gw,0,none⟩=some (.slice (some ⟨κ.gn,0,none⟩) 3 κ.cn)∧Blk W w.heap.size 41 #[.int .i64 7,.int .i64 0,.int .i64 0,.int .i64 0,.int .i64 0,.int .i64 mf,.int .i64 0,.int .i64 mv,.int .i64 mn,.int .i64 ma,.int .i64 mc,.int .i64 mr,.int .i64 ml,.int .i64 mss,.int .i64 mu,.int .i64 mo,.int .i64 mg,.int .i64 mun,.string msr,.slice mba mbn mbc,.int .i64 0,.string ⟨#[]⟩,.slice none 0 0,.string ⟨#[]⟩]):=Lib.hid (fun W hb=>by
  have hb1:=HB.out.below hb HB.out.lt
  exact ⟨hb1.cell 4,hb1.cell 6,(HW.out.st.below hb HW.out.st.lt).cell 0,hb1⟩)
 have Hm:=fun (W:World) (hW:Below w.heap.size w W)=>Lib.hid (hm W hW)
 clear h ha hm
 go_enter Tryz.func24,Tryz.ntmps24
 go_wp2_with fail
 have c0:(w.alloc (.cells #[.int .i64 7,.int .i64 0,.int .i64 0,.int .i64 0,.int .i64 0,.int .i64 mf,.int .i64 0,.int .i64 mv,.int .i64 mn,.int .i64 ma,.int .i64 mc,.int .i64 mr,.int .i64 ml,.int .i64 mss,.int .i64 mu,.int .i64 mo,.int .i64 mg,.int .i64 mun,.string msr,.slice mba mbn mbc,.int .i64 0,.string ⟨#[]⟩,.slice none 0 0,.string ⟨#[]⟩] 41)).cell? ⟨w.heap.size,0,none⟩=some (.int .i64 7):=HB.out.cell 0
 go_wp2_with fail
 generalize w.alloc (.cells #[.int .i64 7,.int .i64 0,.int .i64 0,.int .i64 0,.int .i64 0,.int .i64 mf,.int .i64 0,.int .i64 mv,.int .i64 mn,.int .i64 ma,.int .i64 mc,.int .i64 mr,.int .i64 ml,.int .i64 mss,.int .i64 mu,.int .i64 mo,.int .i64 mg,.int .i64 mun,.string msr,.slice mba mbn mbc,.int .i64 0,.string ⟨#[]⟩,.slice none 0 0,.string ⟨#[]⟩] 41)=w1 at *
 refine jan (S:=(fun W=>W.cell? ⟨w.heap.size,4,none⟩=some (.int .i64 0)∧W.cell? ⟨w.heap.size,6,none⟩=some (.int .i64 0)∧W.cell? ⟨κ.gw,0,none⟩=some (.slice (some ⟨κ.gn,0,none⟩) 3 κ.cn)∧Blk W w.heap.size 41 #[.int .i64 7,.int .i64 0,.int .i64 0,.int .i64 0,.int .i64 0,.int .i64 mf,.int .i64 0,.int .i64 mv,.int .i64 mn,.int .i64 ma,.int .i64 mc,.int .i64 mr,.int .i64 ml,.int .i64 mss,.int .i64 mu,.int .i64 mo,.int .i64 mg,.int .i64 mun,.string msr,.slice mba mbn mbc,.int .i64 0,.string ⟨#[]⟩,.slice none 0 0,.string ⟨#[]⟩])) [] (by kernel_rfl) ?_ (fun hHeld=>?_)
 ·exact HS.out _ ((Below.refl _ _).drew)
 refine tK 0 102 (v:=?_) rfl ?_ ?_;rotate_left 1;(focus intro w hSw;(try dsimp only at hSw);go_simp;try with_reducible rfl);try simp only [Act.put,zsA,zsB,zsC]
 refine jaw (i:=1) (oi:=⟨some 103,_,_,_,_,_⟩) rfl (by kernel_rfl) (fun _ _ _ h=>h) (jaz (by rfl) 39 (.tmp 102) rfl w.heap.size 4 (by rfl) 41 #[.int .i64 7,.int .i64 0,.int .i64 0,.int .i64 0,.int .i64 0,.int .i64 mf,.int .i64 0,.int .i64 mv,.int .i64 mn,.int .i64 ma,.int .i64 mc,.int .i64 mr,.int .i64 ml,.int .i64 mss,.int .i64 mu,.int .i64 mo,.int .i64 mg,.int .i64 mun,.string msr,.slice mba mbn mbc,.int .i64 0,.string ⟨#[]⟩,.slice none 0 0,.string ⟨#[]⟩] [.int .i64 0,.int .i64 mf,.int .i64 0,.int .i64 mv,.int .i64 mn,.int .i64 ma,.int .i64 mc,.int .i64 mr,.int .i64 ml,.int .i64 mss,.int .i64 mu,.int .i64 mo,.int .i64 mg,.int .i64 mun,.string msr,.slice mba mbn mbc,.int .i64 0,.string ⟨#[]⟩,.slice none 0 0,.string ⟨#[]⟩] _ (fun _ h=>h.2.2.2) rfl Tryz.underlying39 rfl jaj) (by assumption) ?_
 try simp only [Act.put,zsA,zsB,zsC]
 refine jah (i:=2) (o:=⟨some 104,_,_,_,_,_⟩) (by kernel_rfl) rfl (fun K' hK=>?_)
 go_simp
 ((with_reducible refine (Hm _ (Ha.out.drew)).out.mono ?_);rintro e w5 ⟨rfl,hb5⟩)
 go_wp2_with fail
 refine hK.out _ _ (fun _=>?_) (fun hHeld'=>?_)
 ·exact HS.out _ (((Below.refl _ _).drew).trans hb5)
 have hHeld:=hHeld' rfl
 clear hK K'
 try simp only [Act.put,zsA,zsB,zsC]
 refine tK 3 105 (v:=?_) rfl ?_ ?_;rotate_left 1;(focus intro w hSw;(try dsimp only at hSw);go_simp;try with_reducible rfl);try simp only [Act.put,zsA,zsB,zsC]
 refine tK 4 106 (v:=?_) rfl ?_ ?_;rotate_left 1;(focus intro w hSw;(try dsimp only at hSw);go_simp;try with_reducible rfl);try simp only [Act.put,zsA,zsB,zsC]
 refine tK 5 107 (v:=?_) rfl ?_ ?_;rotate_left 1;(focus intro w hSw;(try dsimp only at hSw);go_simp;try with_reducible rfl);try simp only [Act.put,zsA,zsB,zsC]
 refine tK 6 108 (v:=?_) rfl ?_ ?_;rotate_left 1;(focus intro w hSw;(try dsimp only at hSw);go_simp;try with_reducible rfl);try simp only [Act.put,zsA,zsB,zsC]
 refine tK 7 109 (v:=?_) rfl ?_ ?_;rotate_left 1;(focus intro w hSw;(try dsimp only at hSw);go_simp;try with_reducible rfl);try simp only [Act.put,zsA,zsB,zsC]
 refine tK 8 110 (v:=?_) rfl ?_ ?_;rotate_left 1;(focus intro w hSw;(try dsimp only at hSw);go_simp;try with_reducible rfl);try simp only [Act.put,zsA,zsB,zsC]
 refine jaw (i:=9) (oi:=⟨some 111,_,_,_,_,_⟩) (v:=undef) rfl (by kernel_rfl) (fun _ _ _ h=>h) (Or.inr ⟨by rfl,rfl⟩) (by assumption) ?_
 try simp only [Act.put,zsA,zsB,zsC]
 refine jaw (i:=10) (oi:=⟨some 112,_,_,_,_,_⟩) (v:=undef) rfl (by kernel_rfl) (fun _ _ _ h=>h) (Or.inr ⟨by rfl,rfl⟩) (by assumption) ?_
 try simp only [Act.put,zsA,zsB,zsC]
 refine jaw (i:=11) (oi:=⟨some 113,_,_,_,_,_⟩) (v:=undef) rfl (by kernel_rfl) (fun _ _ _ h=>h) (Or.inr ⟨by rfl,rfl⟩) (by assumption) ?_
 try simp only [Act.put,zsA,zsB,zsC]
 refine jaw (i:=12) (oi:=⟨some 114,_,_,_,_,_⟩) (v:=undef) rfl (by kernel_rfl) (fun _ _ _ h=>h) (Or.inr ⟨by rfl,rfl⟩) (by assumption) ?_
 try simp only [Act.put,zsA,zsB,zsC]
 refine tK 13 115 (v:=?_) rfl ?_ ?_;rotate_left 1;(focus intro w hSw;(try dsimp only at hSw);go_simp;try with_reducible rfl);try simp only [Act.put,zsA,zsB,zsC]
 refine tK 14 116 (v:=?_) rfl ?_ ?_;rotate_left 1;(focus intro w hSw;(try dsimp only at hSw);go_simp;try with_reducible rfl);try simp only [Act.put,zsA,zsB,zsC]
 refine tK 15 117 (v:=?_) rfl ?_ ?_;rotate_left 1;(focus intro w hSw;(try dsimp only at hSw);go_simp;try with_reducible rfl);try simp only [Act.put,zsA,zsB,zsC]
 refine tK 16 118 (v:=?_) rfl ?_ ?_;rotate_left 1;(focus intro w hSw;(try dsimp only at hSw);go_simp;try with_reducible rfl);try simp only [Act.put,zsA,zsB,zsC]
 refine tK 17 119 (v:=?_) rfl ?_ ?_;rotate_left 1;(focus intro w hSw;(try dsimp only at hSw);go_simp;try with_reducible rfl);try simp only [Act.put,zsA,zsB,zsC]
 refine tK 18 120 (v:=?_) rfl ?_ ?_;rotate_left 1;(focus intro w hSw;(try dsimp only at hSw);go_simp;try with_reducible rfl);try simp only [Act.put,zsA,zsB,zsC]
 refine tK 19 121 (v:=?_) rfl ?_ ?_;rotate_left 1;(focus intro w hSw;(try dsimp only at hSw);go_simp;try with_reducible rfl);try simp only [Act.put,zsA,zsB,zsC]
 refine tK 20 122 (v:=?_) rfl ?_ ?_;rotate_left 1;(focus intro w hSw;(try dsimp only at hSw);go_simp;try with_reducible rfl);try simp only [Act.put,zsA,zsB,zsC]
 refine tK 21 123 (v:=?_) rfl ?_ ?_;rotate_left 1;(focus intro w hSw;(try dsimp only at hSw);go_simp;try with_reducible rfl);try simp only [Act.put,zsA,zsB,zsC]
 refine tK 22 124 (v:=?_) rfl ?_ ?_;rotate_left 1;(focus intro w hSw;(try dsimp only at hSw);go_simp;try with_reducible rfl);try simp only [Act.put,zsA,zsB,zsC]
 refine tK 23 125 (v:=?_) rfl ?_ ?_;rotate_left 1;(focus intro w hSw;(try dsimp only at hSw);go_simp;try with_reducible rfl);try simp only [Act.put,zsA,zsB,zsC]
 refine tK 24 126 (v:=?_) rfl ?_ ?_;rotate_left 1;(focus intro w hSw;(try dsimp only at hSw);go_simp;try with_reducible rfl);try simp only [Act.put,zsA,zsB,zsC]
 refine tK 25 127 (v:=?_) rfl ?_ ?_;rotate_left 1;(focus intro w hSw;(try dsimp only at hSw);go_simp;try with_reducible rfl);try simp only [Act.put,zsA,zsB,zsC]
 refine tK 26 4 (v:=?_) rfl ?_ ?_;rotate_left 1;(focus intro w hSw;(try dsimp only at hSw);go_simp;try with_reducible rfl);try simp only [Act.put,zsA,zsB,zsC]
 refine jao (by kernel_rfl) ?_ _
 go_wp2_with fail
 go_ret
 exact ⟨rfl,Ha.out.trans ((((Below.refl _ _).drew).trans hb5).mono (Nat.le_of_lt Hlt.out))⟩
set_option maxRecDepth 100000 in
set_option maxHeartbeats 2000000 in
theorem may_read (h:Wd κ c w N bag gs vg vs tm ns xs) (mf mv mn ma mc mr ml mss mu mo mg mun:Int) (msr:ByteArray) (mba:Option Addr) (mbn mbc:Nat)
 (hm:∀ W,Below w.heap.size w W→Calls Tryz.prog 46 #[.agg #[.int .i64 2,.int .i64 mf,.int .i64 0,.int .i64 mv,.int .i64 mn,.int .i64 ma,.int .i64 mc,.int .i64 mr,.int .i64 ml,.int .i64 mss,.int .i64 mu,.int .i64 mo,.int .i64 mg,.int .i64 mun,.string msr,.slice mba mbn mbc,.int .i64 0,.string ⟨#[]⟩,.slice none 0 0,.string ⟨#[]⟩]] W fun e w'=>e=.returned (.bool true)∧Below W.heap.size W w') :
 Calls Tryz.prog 24 #[.pointer (some ⟨κ.gw,0,none⟩),.agg #[.int .i64 7,.int .i64 0,.int .i64 0,.int .i64 0,.int .i64 2,.int .i64 mf,.int .i64 0,.int .i64 mv,.int .i64 mn,.int .i64 ma,.int .i64 mc,.int .i64 mr,.int .i64 ml,.int .i64 mss,.int .i64 mu,.int .i64 mo,.int .i64 mg,.int .i64 mun,.string msr,.slice mba mbn mbc,.int .i64 0,.string ⟨#[]⟩,.slice none 0 0,.string ⟨#[]⟩]] w fun e w'=>e=.returned (.bool true)∧Below w.heap.size w w':=by
 have ha:Below w.heap.size w (w.alloc (.cells #[.int .i64 7,.int .i64 0,.int .i64 0,.int .i64 0,.int .i64 2,.int .i64 mf,.int .i64 0,.int .i64 mv,.int .i64 mn,.int .i64 ma,.int .i64 mc,.int .i64 mr,.int .i64 ml,.int .i64 mss,.int .i64 mu,.int .i64 mo,.int .i64 mg,.int .i64 mun,.string msr,.slice mba mbn mbc,.int .i64 0,.string ⟨#[]⟩,.slice none 0 0,.string ⟨#[]⟩] 41)):=(Below.refl _ _).alloc (Nat.le_refl _) _
 have HW:=Lib.hid (h.below ha)
 have HB:=Lib.hid (Blk.new w 41 #[.int .i64 7,.int .i64 0,.int .i64 0,.int .i64 0,.int .i64 2,.int .i64 mf,.int .i64 0,.int .i64 mv,.int .i64 mn,.int .i64 ma,.int .i64 mc,.int .i64 mr,.int .i64 ml,.int .i64 mss,.int .i64 mu,.int .i64 mo,.int .i64 mg,.int .i64 mun,.string msr,.slice mba mbn mbc,.int .i64 0,.string ⟨#[]⟩,.slice none 0 0,.string ⟨#[]⟩])
 have Ha:=Lib.hid ha
 have Hlt:Hid (w.heap.size<(w.alloc (.cells #[.int .i64 7,.int .i64 0,.int .i64 0,.int .i64 0,.int .i64 2,.int .i64 mf,.int .i64 0,.int .i64 mv,.int .i64 mn,.int .i64 ma,.int .i64 mc,.int .i64 mr,.int .i64 ml,.int .i64 mss,.int .i64 mu,.int .i64 mo,.int .i64 mg,.int .i64 mun,.string msr,.slice mba mbn mbc,.int .i64 0,.string ⟨#[]⟩,.slice none 0 0,.string ⟨#[]⟩] 41)).heap.size):=Lib.hid HB.out.lt
 have HS:Hid (∀ W,Below (w.alloc (.cells #[.int .i64 7,.int .i64 0,.int .i64 0,.int .i64 0,.int .i64 2,.int .i64 mf,.int .i64 0,.int .i64 mv,.int .i64 mn,.int .i64 ma,.int .i64 mc,.int .i64 mr,.int .i64 ml,.int .i64 mss,.int .i64 mu,.int .i64 mo,.int .i64 mg,.int .i64 mun,.string msr,.slice mba mbn mbc,.int .i64 0,.string ⟨#[]⟩,.slice none 0 0,.string ⟨#[]⟩] 41)).heap.size (w.alloc (.cells #[.int .i64 7,.int .i64 0,.int .i64 0,.int .i64 0,.int .i64 2,.int .i64 mf,.int .i64 0,.int .i64 mv,.int .i64 mn,.int .i64 ma,.int .i64 mc,.int .i64 mr,.int .i64 ml,.int .i64 mss,.int .i64 mu,.int .i64 mo,.int .i64 mg,.int .i64 mun,.string msr,.slice mba mbn mbc,.int .i64 0,.string ⟨#[]⟩,.slice none 0 0,.string ⟨#[]⟩] 41)) W→W.cell? ⟨w.heap.size,4,none⟩=some (.int .i64 2)∧W.cell? ⟨w.heap.size,6,none⟩=some (.int .i64 0)∧W.cell? ⟨κ.gw,0,none⟩=some (.slice (some ⟨κ.gn,0,none⟩) 3 κ.cn)∧Blk W w.heap.size 41 #[.int .i64 7,.int .i64 0,.int .i64 0,.int .i64 0,.int .i64 2,.int .i64 mf,.int .i64 0,.int .i64 mv,.int .i64 mn,.int .i64 ma,.int .i64 mc,.int .i64 mr,.int .i64 ml,.int .i64 mss,.int .i64 mu,.int .i64 mo,.int .i64 mg,.int .i64 mun,.string msr,.slice mba mbn mbc,.int .i64 0,.string ⟨#[]⟩,.slice none 0 0,.string ⟨#[]⟩]):=Lib.hid (fun W hb=>by
  have hb1:=HB.out.below hb HB.out.lt
  exact ⟨hb1.cell 4,hb1.cell 6,(HW.out.st.below hb HW.out.st.lt).cell 0,hb1⟩)
 have Hm:=fun (W:World) (hW:Below w.heap.size w W)=>Lib.hid (hm W hW)
 clear h ha hm
 go_enter Tryz.func24,Tryz.ntmps24
 go_wp2_with fail
 have c0:(w.alloc (.cells #[.int .i64 7,.int .i64 0,.int .i64 0,.int .i64 0,.int .i64 2,.int .i64 mf,.int .i64 0,.int .i64 mv,.int .i64 mn,.int .i64 ma,.int .i64 mc,.int .i64 mr,.int .i64 ml,.int .i64 mss,.int .i64 mu,.int .i64 mo,.int .i64 mg,.int .i64 mun,.string msr,.slice mba mbn mbc,.int .i64 0,.string ⟨#[]⟩,.slice none 0 0,.string ⟨#[]⟩] 41)).cell? ⟨w.heap.size,0,none⟩=some (.int .i64 7):=HB.out.cell 0
 go_wp2_with fail
 generalize w.alloc (.cells #[.int .i64 7,.int .i64 0,.int .i64 0,.int .i64 0,.int .i64 2,.int .i64 mf,.int .i64 0,.int .i64 mv,.int .i64 mn,.int .i64 ma,.int .i64 mc,.int .i64 mr,.int .i64 ml,.int .i64 mss,.int .i64 mu,.int .i64 mo,.int .i64 mg,.int .i64 mun,.string msr,.slice mba mbn mbc,.int .i64 0,.string ⟨#[]⟩,.slice none 0 0,.string ⟨#[]⟩] 41)=w1 at *
 refine jan (S:=(fun W=>W.cell? ⟨w.heap.size,4,none⟩=some (.int .i64 2)∧W.cell? ⟨w.heap.size,6,none⟩=some (.int .i64 0)∧W.cell? ⟨κ.gw,0,none⟩=some (.slice (some ⟨κ.gn,0,none⟩) 3 κ.cn)∧Blk W w.heap.size 41 #[.int .i64 7,.int .i64 0,.int .i64 0,.int .i64 0,.int .i64 2,.int .i64 mf,.int .i64 0,.int .i64 mv,.int .i64 mn,.int .i64 ma,.int .i64 mc,.int .i64 mr,.int .i64 ml,.int .i64 mss,.int .i64 mu,.int .i64 mo,.int .i64 mg,.int .i64 mun,.string msr,.slice mba mbn mbc,.int .i64 0,.string ⟨#[]⟩,.slice none 0 0,.string ⟨#[]⟩])) [] (by kernel_rfl) ?_ (fun hHeld=>?_)
 ·exact HS.out _ ((Below.refl _ _).drew)
 refine tK 0 102 (v:=?_) rfl ?_ ?_;rotate_left 1;(focus intro w hSw;(try dsimp only at hSw);go_simp;try with_reducible rfl);try simp only [Act.put,zsA,zsB,zsC]
 refine jaw (i:=1) (oi:=⟨some 103,_,_,_,_,_⟩) rfl (by kernel_rfl) (fun _ _ _ h=>h) (jaz (by rfl) 39 (.tmp 102) rfl w.heap.size 4 (by rfl) 41 #[.int .i64 7,.int .i64 0,.int .i64 0,.int .i64 0,.int .i64 2,.int .i64 mf,.int .i64 0,.int .i64 mv,.int .i64 mn,.int .i64 ma,.int .i64 mc,.int .i64 mr,.int .i64 ml,.int .i64 mss,.int .i64 mu,.int .i64 mo,.int .i64 mg,.int .i64 mun,.string msr,.slice mba mbn mbc,.int .i64 0,.string ⟨#[]⟩,.slice none 0 0,.string ⟨#[]⟩] [.int .i64 2,.int .i64 mf,.int .i64 0,.int .i64 mv,.int .i64 mn,.int .i64 ma,.int .i64 mc,.int .i64 mr,.int .i64 ml,.int .i64 mss,.int .i64 mu,.int .i64 mo,.int .i64 mg,.int .i64 mun,.string msr,.slice mba mbn mbc,.int .i64 0,.string ⟨#[]⟩,.slice none 0 0,.string ⟨#[]⟩] _ (fun _ h=>h.2.2.2) rfl Tryz.underlying39 rfl jaj) (by assumption) ?_
 try simp only [Act.put,zsA,zsB,zsC]
 refine jah (i:=2) (o:=⟨some 104,_,_,_,_,_⟩) (by kernel_rfl) rfl (fun K' hK=>?_)
 go_simp
 ((with_reducible refine (Hm _ (Ha.out.drew)).out.mono ?_);rintro e w5 ⟨rfl,hb5⟩)
 go_wp2_with fail
 refine hK.out _ _ (fun _=>?_) (fun hHeld'=>?_)
 ·exact HS.out _ (((Below.refl _ _).drew).trans hb5)
 have hHeld:=hHeld' rfl
 clear hK K'
 try simp only [Act.put,zsA,zsB,zsC]
 refine tK 3 105 (v:=?_) rfl ?_ ?_;rotate_left 1;(focus intro w hSw;(try dsimp only at hSw);go_simp;try with_reducible rfl);try simp only [Act.put,zsA,zsB,zsC]
 refine tK 4 106 (v:=?_) rfl ?_ ?_;rotate_left 1;(focus intro w hSw;(try dsimp only at hSw);go_simp;try with_reducible rfl);try simp only [Act.put,zsA,zsB,zsC]
 refine tK 5 107 (v:=?_) rfl ?_ ?_;rotate_left 1;(focus intro w hSw;(try dsimp only at hSw);go_simp;try with_reducible rfl);try simp only [Act.put,zsA,zsB,zsC]
 refine tK 6 108 (v:=?_) rfl ?_ ?_;rotate_left 1;(focus intro w hSw;(try dsimp only at hSw);go_simp;try with_reducible rfl);try simp only [Act.put,zsA,zsB,zsC]
 refine tK 7 109 (v:=?_) rfl ?_ ?_;rotate_left 1;(focus intro w hSw;(try dsimp only at hSw);go_simp;try with_reducible rfl);try simp only [Act.put,zsA,zsB,zsC]
 refine tK 8 110 (v:=?_) rfl ?_ ?_;rotate_left 1;(focus intro w hSw;(try dsimp only at hSw);go_simp;try with_reducible rfl);try simp only [Act.put,zsA,zsB,zsC]
 refine tK 9 111 (v:=?_) rfl ?_ ?_;rotate_left 1;(focus intro w hSw;(try dsimp only at hSw);go_simp;try with_reducible rfl);try simp only [Act.put,zsA,zsB,zsC]
 refine tK 10 112 (v:=?_) rfl ?_ ?_;rotate_left 1;(focus intro w hSw;(try dsimp only at hSw);go_simp;try with_reducible rfl);try simp only [Act.put,zsA,zsB,zsC]
 refine tK 11 113 (v:=?_) rfl ?_ ?_;rotate_left 1;(focus intro w hSw;(try dsimp only at hSw);go_simp;try with_reducible rfl);try simp only [Act.put,zsA,zsB,zsC]
 refine tK 12 114 (v:=?_) rfl ?_ ?_;rotate_left 1;(focus intro w hSw;(try dsimp only at hSw);go_simp;try with_reducible rfl);try simp only [Act.put,zsA,zsB,zsC]
 refine tK 13 115 (v:=?_) rfl ?_ ?_;rotate_left 1;(focus intro w hSw;(try dsimp only at hSw);go_simp;try with_reducible rfl);try simp only [Act.put,zsA,zsB,zsC]
 refine tK 14 116 (v:=?_) rfl ?_ ?_;rotate_left 1;(focus intro w hSw;(try dsimp only at hSw);go_simp;try with_reducible rfl);try simp only [Act.put,zsA,zsB,zsC]
 refine tK 15 117 (v:=?_) rfl ?_ ?_;rotate_left 1;(focus intro w hSw;(try dsimp only at hSw);go_simp;try with_reducible rfl);try simp only [Act.put,zsA,zsB,zsC]
 refine tK 16 118 (v:=?_) rfl ?_ ?_;rotate_left 1;(focus intro w hSw;(try dsimp only at hSw);go_simp;try with_reducible rfl);try simp only [Act.put,zsA,zsB,zsC]
 refine tK 17 119 (v:=?_) rfl ?_ ?_;rotate_left 1;(focus intro w hSw;(try dsimp only at hSw);go_simp;try with_reducible rfl);try simp only [Act.put,zsA,zsB,zsC]
 refine tK 18 120 (v:=?_) rfl ?_ ?_;rotate_left 1;(focus intro w hSw;(try dsimp only at hSw);go_simp;try with_reducible rfl);try simp only [Act.put,zsA,zsB,zsC]
 refine tK 19 121 (v:=?_) rfl ?_ ?_;rotate_left 1;(focus intro w hSw;(try dsimp only at hSw);go_simp;try with_reducible rfl);try simp only [Act.put,zsA,zsB,zsC]
 refine tK 20 122 (v:=?_) rfl ?_ ?_;rotate_left 1;(focus intro w hSw;(try dsimp only at hSw);go_simp;try with_reducible rfl);try simp only [Act.put,zsA,zsB,zsC]
 refine tK 21 123 (v:=?_) rfl ?_ ?_;rotate_left 1;(focus intro w hSw;(try dsimp only at hSw);go_simp;try with_reducible rfl);try simp only [Act.put,zsA,zsB,zsC]
 refine tK 22 124 (v:=?_) rfl ?_ ?_;rotate_left 1;(focus intro w hSw;(try dsimp only at hSw);go_simp;try with_reducible rfl);try simp only [Act.put,zsA,zsB,zsC]
 refine tK 23 125 (v:=?_) rfl ?_ ?_;rotate_left 1;(focus intro w hSw;(try dsimp only at hSw);go_simp;try with_reducible rfl);try simp only [Act.put,zsA,zsB,zsC]
 refine tK 24 126 (v:=?_) rfl ?_ ?_;rotate_left 1;(focus intro w hSw;(try dsimp only at hSw);go_simp;try with_reducible rfl);try simp only [Act.put,zsA,zsB,zsC]
 refine tK 25 127 (v:=?_) rfl ?_ ?_;rotate_left 1;(focus intro w hSw;(try dsimp only at hSw);go_simp;try with_reducible rfl);try simp only [Act.put,zsA,zsB,zsC]
 refine tK 26 4 (v:=?_) rfl ?_ ?_;rotate_left 1;(focus intro w hSw;(try dsimp only at hSw);go_simp;try with_reducible rfl);try simp only [Act.put,zsA,zsB,zsC]
 refine jao (by kernel_rfl) ?_ _
 go_wp2_with fail
 go_ret
 exact ⟨rfl,Ha.out.trans ((((Below.refl _ _).drew).trans hb5).mono (Nat.le_of_lt Hlt.out))⟩
end
end
end Db
end
end Go.Proofs.YtcchekmejnhlmaaGreat
