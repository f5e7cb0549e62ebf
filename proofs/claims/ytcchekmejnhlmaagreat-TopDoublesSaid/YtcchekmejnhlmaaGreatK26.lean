/- Joined texts. -/
import Derived.Test.YtcchekmejnhlmaaGreatK11
import Derived.Test.YtcchekmejnhlmaaGreatK24
import Derived.Test.YtcchekmejnhlmaaGreatK25
namespace Go.Proofs.YtcchekmejnhlmaaGreat
set_option linter.unusedVariables false
set_option maxHeartbeats 4000000
section
open Go.RowKit
namespace Db
open Ev
noncomputable section
theorem bts_len:(bts.all fun e=>Nat.ble e.2.2.length 10)=true:=by kernel_rfl
theorem btF_len {s b:Nat} {os:List Nat} (h:btF s=some (b,os)):os.length≤10:=by
 unfold btF at h
 obtain ⟨e,h1,h2⟩:=Option.map_eq_some_iff.1 h
 have:=Nat.le_of_ble_eq_true (List.all_eq_true.1 bts_len e (List.mem_of_find?_eq_some h1))
 rw [h2] at this
 exact this
section
variable {κ:Kp} {π:Pp} {c:Nat→Nat} {w:World} {ns:Nat} {s:Sg} {bag got:List Nat}
theorem wBeat (h:Wv κ c w s bag got ns) {b:Nat} {os:List Nat} (hb:btF s.1=some (b,os)) (hn:bag.length≤90000) :
 Calls Tryz.prog 11 #[.pointer (some ⟨κ.gw,0,none⟩),.agg #[.int .i64 4,.int .i64 0,.int .i64 0,.int .i64 0,.int .i64 0,.int .i64 0,.int .i64 0,.int .i64 0,.int .i64 0,.int .i64 0,.int .i64 0,.int .i64 0,.int .i64 0,.int .i64 0,.int .i64 0,.int .i64 0,.int .i64 0,.int .i64 0,.string ⟨#[]⟩,.slice none 0 0,.int .i64 0,.string ⟨#[]⟩,.slice none 0 0,.string ⟨#[]⟩]] w fun e w'=>e=.returned (.int .i64 0)∧∃ c',Wv κ c' w' (b,s.2) (bag++os) got ns∧Stc (fun j=>j≤6) c c' w w':=by
 obtain ⟨gs,vg,vs,tm,xs,h1,h2⟩:=h
 have hl:=btF_len hb
 have hB:Bt 0 (NN s 0) (hN 0 b) (os.map tmN):=btF_ok hb
 refine (do_beat h2 hB (by simp;omega)).mono ?_
 rintro e w' ⟨rfl,c',x,k1,k2⟩
 refine ⟨rfl,c',⟨gs,vg,vs,x,xs,h1,?_⟩,k2⟩
 rw [List.map_append]
 refine k1.congr fun i hi=>?_
 have:i=0∨i=1∨i=2:=by omega
 rcases this with rfl | rfl | rfl<;>rfl
theorem wGot (h:Wv κ c w s bag got ns) (hn:got.length≤90000):Calls Tryz.prog 14 #[.pointer (some ⟨κ.gw,0,none⟩)] w fun e w'=>∃ v,e=.returned v∧w'.ownsRow w.heap.size 39 20 v got.length ((got.map tmN).flatMap cliC)∧Below w.heap.size w w':=by
 obtain ⟨gs,vg,vs,tm,xs,h1,h2⟩:=h
 have hl:gs.length=got.length:=by have:=congrArg List.length h1;simpa using this
 have:=got_any h2 (by omega)
 rw [hl,h1] at this
 exact this
theorem hear_read {a:Nat} (ha:(tmN a).nu=3) (hk:(tmN a).k=3):∀ {l:List Nat},(∀ t∈l,(tmN t).nu≠3)→Hear 1 ((tmN jgn).ms none 0 0) ((l++[a]).map tmN) 1 zMs
 | [],_=>by
   have e:((tmN jgn).ms none 0 0).nu=3:=by rw [jdv];rfl
   exact .answer (by rw [e,ha]) (by rw [e];decide) hk (by rw [jdv];rfl) .nil
 | t::l,h=>by
   have e:((tmN jgn).ms none 0 0).nu=3:=by rw [jdv];rfl
   exact .skip (by rw [e];exact h t (List.mem_cons_self ..)) (hear_read ha hk fun u hu=>h u (List.mem_cons_of_mem _ hu))
set_option maxRecDepth 100000 in
set_option maxHeartbeats 4000000 in
theorem read_any (h:Wv κ c w s [] got ns) (hp:Py κ π c w 1 2 2 zMs) (hact:jit (tmN jgn)) {b:Nat} {os:List Nat} {m n:Sg} {a:Nat} {x:Int} (hb:btF s.1=some (b,os)) (hd1:Drain 100 (b,s.2) os m []) (hd2:Drain 100 m [jgn] n [a]) (ha:tmN a=tM 3 0 100 x 0 1 0 0 3 false none)
 (hg2:2≤got.length) (hok:∀ t∈got.drop 2,(tmN t).to=100∧(tmN t).co=0∧(tmN t).nu≠3) (hn:got.length≤40000) (hns:ns≤80000) :
 Calls Tryz.prog 16 #[.pointer (some ⟨π.gy,0,none⟩),.int .i64 0,.int .i64 0,.int .i64 1] w fun e w'=>e=.returned (.tuple #[.int .i64 x,.bool true,.bool true])∧∃ c' sn,Wv κ c' w' n [] (got++[a]) (ns+1)∧Py κ π c' w' 1 3 sn zMs∧Stc (fun j=>j≤7) c c' w w':=by
 have hol:=btF_len hb
 have y0:w.cell? ⟨π.gy,0,none⟩=some (.pointer (some ⟨κ.gw,0,none⟩)):=hp.y.cell 0
 have hbeat:=Lib.hid (wBeat h hb (by simp))
 have HP:=Lib.hid hp
 have HD1:=Lib.hid hd1
 have HD2:=Lib.hid hd2
 have HAc:=Lib.hid hact
 have HA:=Lib.hid ha
 have HOk:=Lib.hid hok
 clear h hp hb hd1 hd2 hact ha hok
 go_enter Tryz.func16,Tryz.ntmps16
 go_wp2_with fail
 refine hbeat.out.mono ?_
 rintro e w2 ⟨rfl,c2,hW2,hS2⟩
 have HW2:Hid (Wv κ c2 w2 (b,s.2) os got ns):=Lib.hid hW2
 have HP2:=Lib.hid (HP.out.stc hS2 (by decide))
 have HS2:Hid (Stc (fun j=>j≤7) c c2 w w2):=Lib.hid (hS2.mono (by decide) (fun j q=>by omega))
 clear hW2 hS2 hbeat y0
 have y0:w2.cell? ⟨π.gy,0,none⟩=some (.pointer (some ⟨κ.gw,0,none⟩)):=HP2.out.y.cell 0
 have hdr:=Lib.hid (jco (m:=900) HW2.out HD1.out (by decide) (by decide) (by omega) (by omega))
 go_wp2_with fail
 refine hdr.out.mono ?_
 rintro e w3 ⟨rfl,c3,hW3,hS3⟩
 have HW3:Hid (Wv κ c3 w3 m [] got ns):=Lib.hid (by rw [List.append_nil] at hW3;exact hW3)
 have HP3:=Lib.hid (HP2.out.stc hS3 (by decide))
 have HS3:Hid (Stc (fun j=>j≤7) c c3 w w3):=Lib.hid (HS2.out.trans (hS3.mono (by decide) (fun j q=>by omega)))
 clear hW3 hS3 hdr HW2 HP2 HS2 y0
 have y3:w3.cell? ⟨π.gy,3,none⟩=some (.slice (some ⟨π.gn,0,none⟩) 1 1):=HP3.out.y.cell 3
 have n0:w3.cell? ⟨π.gn,0,none⟩=some (.int .i64 2):=HP3.out.nn.cell 0
 have g0:w3.frozen? ⟨π.gn,0,none⟩=false:=HP3.out.nn.frozen 0 (by simp)
 go_wp2_with fail
 have HP4:=Lib.hid (HP3.out.setNum 3)
 have HS4:Hid (Stc (fun j=>j=7) c3 c3 w3 (w3.setCell ⟨π.gn,0,none⟩ (.int .i64 3))):=Lib.hid (py7 HP3.out ((Only.refl _ _).setCell (p:=⟨π.gn,0,none⟩) (fun _=>.inr (.inr (.inl rfl))) _))
 clear y3 n0 g0
 generalize w3.setCell ⟨π.gn,0,none⟩ (.int .i64 3)=w4 at *
 have HPd:=Lib.hid (HP4.out.below (Below.refl _ _).drew)
 refine jan (S:=(fun W=>W.cell? ⟨π.gy,4,none⟩=some (.slice (some ⟨π.gt,0,none⟩) 1 1)∧W.cell? ⟨π.gy,3,none⟩=some (.slice (some ⟨π.gn,0,none⟩) 1 1)∧W.cell? ⟨π.gn,0,none⟩=some (.int .i64 3))) [17] (by kernel_rfl) ?_ (fun hHeld=>?_)
 ·exact ⟨HPd.out.y.cell 4,HPd.out.y.cell 3,HPd.out.nn.cell 0⟩
 refine tK 0 35 (v:=?_) rfl ?_ ?_;rotate_left 1;(focus intro w hSw;(try dsimp only at hSw);go_simp;try with_reducible rfl);try simp only [Act.put,zsA,zsB,zsC]
 refine tK 1 36 (v:=?_) rfl ?_ ?_;rotate_left 1;(focus intro w hSw;(try dsimp only at hSw);go_simp;try with_reducible rfl);try simp only [Act.put,zsA,zsB,zsC]
 refine tK 2 37 (v:=?_) rfl ?_ ?_;rotate_left 1;(focus intro w hSw;(try dsimp only at hSw);go_simp;try with_reducible rfl);try simp only [Act.put,zsA,zsB,zsC]
 refine tK 3 38 (v:=?_) rfl ?_ ?_;rotate_left 1;(focus intro w hSw;(try dsimp only at hSw);go_simp;try with_reducible rfl);try simp only [Act.put,zsA,zsB,zsC]
 refine tK 4 39 (v:=?_) rfl ?_ ?_;rotate_left 1;(focus intro w hSw;(try dsimp only at hSw);go_simp;try with_reducible rfl);try simp only [Act.put,zsA,zsB,zsC]
 refine tK 5 40 (v:=?_) rfl ?_ ?_;rotate_left 1;(focus intro w hSw;(try dsimp only at hSw);go_simp;try with_reducible rfl);try simp only [Act.put,zsA,zsB,zsC]
 refine tK 6 41 (v:=?_) rfl ?_ ?_;rotate_left 1;(focus intro w hSw;(try dsimp only at hSw);go_simp;try with_reducible rfl);try simp only [Act.put,zsA,zsB,zsC]
 refine tK 7 42 (v:=?_) rfl ?_ ?_;rotate_left 1;(focus intro w hSw;(try dsimp only at hSw);go_simp;try with_reducible rfl);try simp only [Act.put,zsA,zsB,zsC]
 refine tK 8 43 (v:=?_) rfl ?_ ?_;rotate_left 1;(focus intro w hSw;(try dsimp only at hSw);go_simp;try with_reducible rfl);try simp only [Act.put,zsA,zsB,zsC]
 refine tK 9 44 (v:=?_) rfl ?_ ?_;rotate_left 1;(focus intro w hSw;(try dsimp only at hSw);go_simp;try with_reducible rfl);try simp only [Act.put,zsA,zsB,zsC]
 refine tK 10 45 (v:=?_) rfl ?_ ?_;rotate_left 1;(focus intro w hSw;(try dsimp only at hSw);go_simp;try with_reducible rfl);try simp only [Act.put,zsA,zsB,zsC]
 refine tK 11 46 (v:=?_) rfl ?_ ?_;rotate_left 1;(focus intro w hSw;(try dsimp only at hSw);go_simp;try with_reducible rfl);try simp only [Act.put,zsA,zsB,zsC]
 refine tK 12 47 (v:=?_) rfl ?_ ?_;rotate_left 1;(focus intro w hSw;(try dsimp only at hSw);go_simp;try with_reducible rfl);try simp only [Act.put,zsA,zsB,zsC]
 refine tK 13 48 (v:=?_) rfl ?_ ?_;rotate_left 1;(focus intro w hSw;(try dsimp only at hSw);go_simp;try with_reducible rfl);try simp only [Act.put,zsA,zsB,zsC]
 refine tK 14 49 (v:=?_) rfl ?_ ?_;rotate_left 1;(focus intro w hSw;(try dsimp only at hSw);go_simp;try with_reducible rfl);try simp only [Act.put,zsA,zsB,zsC]
 refine tK 15 50 (v:=?_) rfl ?_ ?_;rotate_left 1;(focus intro w hSw;(try dsimp only at hSw);go_simp;try with_reducible rfl);try simp only [Act.put,zsA,zsB,zsC]
 refine tK 16 51 (v:=?_) rfl ?_ ?_;rotate_left 1;(focus intro w hSw;(try dsimp only at hSw);go_simp;try with_reducible rfl);try simp only [Act.put,zsA,zsB,zsC]
 refine jah (i:=17) (o:=⟨none,_,_,_,_,_⟩) (by kernel_rfl) rfl (fun K' hK=>?_)
 (refine jde (o:=⟨none,.store 39 (.tmp 51) (.tmp 50),_,_,_,_⟩) rfl 39 (.tmp 51) (.tmp 50) rfl π.gt #[.int .i64 2,.int .i64 100,.int .i64 0,.int .i64 0,.int .i64 0,.int .i64 1,.int .i64 0,.int .i64 0,.int .i64 0,.int .i64 0,.int .i64 3,.int .i64 0,.int .i64 0,.int .i64 0,.string ⟨#[115]⟩,.slice none 0 0,.int .i64 0,.string ⟨#[]⟩,.slice none 0 0,.string ⟨#[]⟩] (by rfl) (by rfl) _ HPd.out.tt (by rfl) jaj (by simp [Value.oneCell']) ?_;intro w5 HB5 ho5 _)
 refine hK.out _ _ (fun h=>absurd h (by decide)) (fun _=>?_)
 clear hK K'
 try simp only [Act.put]
 refine jao (by kernel_rfl) ?_ _
 have HP5:Hid (Py κ π c3 w5 1 3 2 ((tmN jgn).ms none 0 0)):=Lib.hid (HPd.out.setWait (m':=(tmN jgn).ms none 0 0) (by rw [jdv];exact HB5) ho5)
 have s35:Stc (fun j=>j=7) c3 c3 w3 w5:=(HS4.out.trans (Stc.of_only (by decide) (Only.new _ ((Below.refl _ _).drew)) (fun _ _ _=>rfl))).trans (py7 HPd.out (ho5.mono fun j _ q=>.inr (.inr (.inr q))))
 have HW5:=Lib.hid (HW3.out.stc7 s35)
 have HS5:Hid (Stc (fun j=>j≤7) c c3 w w5):=Lib.hid (HS3.out.trans (s35.mono (by decide) (fun j q=>by omega)))
 clear HB5 ho5 HPd HP4 HS4 HW3 HP3 HS3 s35 HP
 have hcall:=Lib.hid (jkz HW5.out HP5.out jgn HAc.out rfl (by rw [jdv];exact ⟨rfl,rfl,rfl⟩) (by rw [jdv];show (3:Int)≠0;decide) (by rw [jdv];rfl) (by simp) (by omega))
 go_wp2_with fail
 refine hcall.out.mono ?_
 rintro e w6 ⟨rfl,c6,hW6,hP6,hS6⟩
 have HW6:=Lib.hid hW6
 have HP6:=Lib.hid hP6
 have HS6:Hid (Stc (fun j=>j≤7) c c6 w w6):=Lib.hid (HS5.out.trans (hS6.mono (by decide) (fun j q=>by omega)))
 clear hW6 hP6 hS6 hcall HW5 HP5 HS5
 have y0:w6.cell? ⟨π.gy,0,none⟩=some (.pointer (some ⟨κ.gw,0,none⟩)):=HP6.out.y.cell 0
 have hdr:=Lib.hid (jco (m:=900) HW6.out HD2.out (by decide) (by decide) (by simp) (by omega))
 go_wp2_with fail
 refine hdr.out.mono ?_
 rintro e w7 ⟨rfl,c7,hW7,hS7⟩
 have HW7:Hid (Wv κ c7 w7 n [] (got++[a]) (ns+1)):=Lib.hid hW7
 have HP7:=Lib.hid (HP6.out.stc hS7 (by decide))
 have HS7:Hid (Stc (fun j=>j≤7) c c7 w w7):=Lib.hid (HS6.out.trans (hS7.mono (by decide) (fun j q=>by omega)))
 clear hW7 hS7 hdr HW6 HP6 HS6 y0
 have y0:w7.cell? ⟨π.gy,0,none⟩=some (.pointer (some ⟨κ.gw,0,none⟩)):=HP7.out.y.cell 0
 have hgo:=Lib.hid (wGot HW7.out (by simp;omega))
 go_wp2_with fail
 refine hgo.out.mono ?_
 rintro e w8 ⟨v,rfl,hown,hb8⟩
 have HW8:=Lib.hid (HW7.out.below hb8)
 have HP8:=Lib.hid (HP7.out.below hb8)
 have HS8:Hid (Stc (fun j=>j≤7) c c7 w w8):=Lib.hid (HS7.out.trans (Stc.of_only (by decide) (Only.new _ hb8) (fun _ _ _=>rfl)))
 have HF:Hid (∀ q,hF π q→q<w7.heap.size):=Lib.hid (by
  rintro q (rfl | rfl | rfl)
  ·exact HP7.out.y.lt
  ·exact HP7.out.ss.lt
  ·exact HP7.out.tt.lt)
 obtain ⟨Ag,cg,rfl,_,_⟩:=jar hown
 obtain ⟨gb,rfl,hgb,_⟩:=jcr hown (by simp)
 have hcap:=jer hown
 have HO8:=Lib.hid hown
 clear hb8 hgo HW7 HP7 HS7 y0 hown
 have hhe:=Lib.hid (wHear (k0:=2) (s':=1) (wm':=zMs) HW8.out HP8.out (by simp;omega) (fun t ht=>by
  rw [List.drop_append_of_le_length hg2] at ht
  rcases List.mem_append.1 ht with q | q
  ·exact ⟨(HOk.out t q).1,(HOk.out t q).2.1⟩
  ·rw [List.mem_singleton.1 q,HA.out];exact ⟨rfl,rfl⟩) (by
  rw [List.drop_append_of_le_length hg2]
  exact hear_read (by rw [HA.out];rfl) (by rw [HA.out];rfl) (fun t ht=>(HOk.out t ht).2.2)) (by simp;omega))
 go_wp2_with fail
 refine hhe.out.mono ?_
 rintro e w9 ⟨rfl,hP9,hW9,hS9,ho9⟩
 have HP9:=Lib.hid hP9
 have HW9:=Lib.hid hW9
 have HS9:Hid (Stc (fun j=>j≤7) c c7 w w9):=Lib.hid (HS8.out.trans (hS9.mono (by decide) (fun j q=>by omega)))
 have HO9:=Lib.hid (jbb HO8.out ho9 (fun q hq hh=>by
  have h1:=HF.out q hh
  have:gb=q:=by simpa [Value.ownBlock] using hq
  omega))
 clear hP9 hW9 hS9 ho9 hhe HW8 HP8 HS8 HO8
 have hlen:(got++[a]).length=got.length+1:=by simp
 have hcell:∀ j u,(cliC (tmN a))[j]? =some u→w9.cell? ⟨gb,got.length*20+j,none⟩=some u:=fun j u hu=>by
  refine jdj HO9.out ?_
  have hk:got.length<((got++[a]).map tmN).length:=by rw [List.length_map,hlen];omega
  rw [jbz cliC 20 (fun _=>rfl) _ got.length j hk (List.getElem?_eq_some_iff.1 hu).1]
  have:((got++[a]).map tmN)[got.length]=tmN a:=by simp
  rw [this];exact hu
 rw [HA.out] at hcell
 have k0:w9.cell? ⟨gb,got.length*20,none⟩=some (.int .i64 3):=hcell 0 _ rfl
 have k2:w9.cell? ⟨gb,got.length*20+2,none⟩=some (.int .i64 100):=hcell 2 _ rfl
 have k5:w9.cell? ⟨gb,got.length*20+5,none⟩=some (.int .i64 x):=hcell 5 _ rfl
 have k7:w9.cell? ⟨gb,got.length*20+7,none⟩=some (.int .i64 1):=hcell 7 _ rfl
 have k10:w9.cell? ⟨gb,got.length*20+10,none⟩=some (.int .i64 3):=hcell 10 _ rfl
 have k11:w9.cell? ⟨gb,got.length*20+11,none⟩=some (.int .i64 0):=hcell 11 _ rfl
 have y3:w9.cell? ⟨π.gy,3,none⟩=some (.slice (some ⟨π.gn,0,none⟩) 1 1):=HP9.out.y.cell 3
 have n0:w9.cell? ⟨π.gn,0,none⟩=some (.int .i64 3):=HP9.out.nn.cell 0
 have hw1:IntKind.i64.wrap ((got.length:Int)+1-1)=(got.length:Int):=by rw [IntKind.wrap_i64];omega
 have hi0:(0:Int)≤(got.length:Int):=by omega
 have hi1:(got.length:Int)<(got.length:Int)+1:=by omega
 clear hcell hcap
 go_wp2_with fail
 go_loopw [12] (fun i wr=>i=.int .i64 (got.length:Int)∧w9=wr) (fun _ _=>0)
 case atStart=>exact ⟨by go_num,rfl⟩
 case round =>
  obtain ⟨rfl,rfl⟩:=hrel
  go_wp2_with fail
  go_quiet (fail)
  go_wp2_with fail
  go_quiet (fail)
  go_wp2_with fail
  go_ret3
  have hb:∀ i j,Below w9.heap.size w9 ((w9.drewN i).drewN j):=fun i j=>jbc (jbc (Below.refl _ _) _) _
  exact ⟨rfl,c7,_,HW9.out.below (hb _ _),HP9.out.below (hb _ _),HS9.out.trans (Stc.of_only (by decide) (Only.new _ (hb _ _)) (fun _ _ _=>rfl))⟩
end
end
end Db
end
section
open Go.RowKit
namespace Db
open Ev
noncomputable section
theorem awake_any (w:World):Calls Tryz.prog 8 #[] w fun e w'=>e=.returned (.bool true)∧Below w.heap.size w w':=by
 have h:jim 8 [] .z 0=.ok (.c (.b true)) .z 0:=by kernel_rfl
 obtain ⟨_,_,kc⟩:=jil _ _ _ _ _ _ _ h
 refine (kc (fun _=>none) w #[] (R_z _ _) .nil (fun _ _ _=>rfl)).mono ?_
 rintro e w' ⟨cv,G',rfl,st,hv⟩
 have hv:cv=.bool true:=hv
 subst hv
 exact ⟨rfl,st.fr.below fun _ _=>foot_z⟩
def exC (o:Ob):Option (List Sc):=match o with | .row n false dep d t=>some (rowL dep d t n 0) | _=>none
theorem jjq {G:Gh} {H:HT} {w:World} (hR:R G (hp H) w) {id:Nat} (hid:id<HB) {xs:List Sc} (h:exC (hget H id)=some xs):hp H id≠.no∧∃ (b sz:Nat) (arr:Array Value),G id=some (b,sz)∧Bx w b arr∧All2 (Sc.ok G) xs arr.toList:=by
 unfold exC at h
 split at h
 ·rename_i n dep d t ho
  cases h
  have hpi:hp H id=.row n false dep d t:=(jas hid).trans ho
  obtain ⟨b,sz,arr,el,fz,hg,L⟩:=hR.lies (id:=id) hpi
  have hn:=L.all rfl
  have hs:=L.size
  refine ⟨by rw [hpi];exact fun q=>(by cases q),b,sz,arr,hg,⟨el,fz,L.hb,fun i hi=>L.fz i (by omega)⟩,?_⟩
  have:=L.list (off:=0) (k:=n) (by omega)
  rwa [show arr.extract 0 (0+n)=arr from by rw [Nat.zero_add,hn,←hs];exact Array.extract_size ..] at this
 ·cases h
def gcN (l:List Nat) (H:HT):Option HT:=T8.fc (mkRn l 0 .z) fun τ=>gcH τ H l 0 .z
theorem gcN_ok {l:List Nat} {H K:HT} {G:Gh} {w:World} (h:gcN l H=some K) (hR:R G (hp H) w):R (gcG l G) (hp K) w∧(∀ j,l.length≤j→gcG l G j=none)∧∀ b,Foot (gcG l G) (hp K) b→∃ id sz,id∈l∧hp H id≠.no∧G id=some (b,sz):=by
 unfold gcN at h
 rw [T8.fc_eq] at h
 have hl:=gcH_lt l 0 .z _ h
 have hτ:RnOk l (mkRn l 0 .z):=jkn l [] .z hl fun id j _ q=>by rw [jel] at q;cases q
 have hg:gc l .z H=some (.z,K):=by
  unfold gc gcS
  rw [T8.fc_eq]
  show oB (gcH (mkRn l 0 .z) H l 0 .z) (fun K=>some (T8.z,K))=_
  rw [h]
  rfl
 obtain ⟨k1,_,k3,k4⟩:=gc_ok (nt:=0) (W:=[]) (a:={ tmps:=#[],defers:=[] }) hg hR ⟨fun j q _=>absurd q (Nat.not_lt_zero _),fun t o q=>by cases q⟩
 refine ⟨k1,k3,?_⟩
 rintro b ⟨j,sz',m1,m2⟩
 obtain ⟨id',o1,o2,o3,o4⟩:=gcH_ok l [] .z _ h (fun j hj=>absurd (by rw [hp_z]) hj) j m1
 rw [List.nil_append] at o1
 have e:gcG l G j=G id':=by unfold gcG;rw [o1]
 rw [e] at m2
 refine ⟨id',sz',List.mem_of_getElem? o1,?_,m2⟩
 rw [jas o2]
 intro q
 rw [q] at o4
 exact m1 (rnO_no o4)
def begL0:List Nat:=[7,9,27,28,23,6,4,5,17,13,16]
def begL1:List Nat:=[38,40,58,59,54,37,35,36,48,44,47]
def begL2:List Nat:=[69,71,89,90,85,68,66,67,79,75,78]
def begF (r:Rs):Option (V×(List (Option (List Sc))×Option (List Sc))×(Option HT×Option HT×Option HT)) :=
 Rs.rec none (fun v H _=>some (v,([98,1,0,95,96,97].map (fun i=>exC (hget H i)),jbo 0 3 (hget H 92)),(gcN begL0 H,gcN begL1 H,gcN begL2 H))) r
def zSc:List Sc:=[.i .i64 (.ofNat 0),.i .i64 (.ofNat 0),.i .i64 (.ofNat 0),.i .i64 (.ofNat 0),.i .i64 (.ofNat 0),.i .i64 (.ofNat 0),.i .i64 (.ofNat 0),.i .i64 (.ofNat 0),.i .i64 (.ofNat 0),.i .i64 (.ofNat 0),.i .i64 (.ofNat 0),.i .i64 (.ofNat 0),.i .i64 (.ofNat 0),.i .i64 (.ofNat 0),.s 0 0,.sn,.i .i64 (.ofNat 0),.s 0 0,.sn,.s 0 0]
set_option maxRecDepth 100000 in
theorem beg_run:begF (jim 9 [.c (.i .i64 (.ofNat 3)),.c (.i .i64 (.ofNat 1))] .z 0)=some (.t [.c (.p 98 0),.c (.b true)],
 ([some [.p 1 0,.i .i64 (.ofNat 3),.sk 95 0 1 1 1,.sk 96 0 1 1 1,.sk 97 0 1 1 20,.i .i64 (.ofNat 0),.i .i64 (.ofNat 0),.b true],some [.su 92 0 3 3 1,.su 94 0 3 3 1,.p 0 0,.sn,.sn,.i .i64 (.ofNat 0)],some [.sn],some [.i .i64 (.ofNat 0)],some [.i .i64 (.ofNat 0)],some zSc],some [.p 7 0,.p 38 0,.p 69 0]),
 (some (hN 0 0),some (hN 1 0),some (hN 2 0))):=by kernel_rfl
def colI (id:Nat):Nat:=if id∈begL0 then 0 else if id∈begL1 then 1 else if id∈begL2 then 2 else if id=1 then 3 else if id=0 then 4 else if id=92 then 9 else if id=98∨id=95∨id=96∨id=97 then 7 else 8
open Classical in
def colB (G:Gh) (H:HT) (n b:Nat):Nat:=if h:∃ id sz,hp H id≠.no∧G id=some (b,sz) then colI h.choose else if b<n then 10 else 8
theorem colB_at {G:Gh} {H:HT} {w:World} (hR:R G (hp H) w) {n id b sz:Nat} (h1:hp H id≠.no) (h2:G id=some (b,sz)):colB G H n b=colI id:=by
 unfold colB
 have h:∃ id sz,hp H id≠.no∧G id=some (b,sz):=⟨id,sz,h1,h2⟩
 rw [dif_pos h]
 obtain ⟨sz',q1,q2⟩:=h.choose_spec
 rw [hR.2 _ id b sz' sz q1 h1 q2 h2]
theorem list1 {G:Gh} {arr:Array Value} {x:Sc} (h:All2 (Sc.ok G) [x] arr.toList):∃ a,arr=#[a]∧Sc.ok G x a:=by
 obtain ⟨l⟩:=arr
 cases h with
 | cons a1 h =>
   cases h
   exact ⟨_,rfl,a1⟩
theorem begun_any (w:World):Calls Tryz.prog 9 #[.int .i64 3,.int .i64 1] w fun e w'=>∃ κ π c,e=.returned (.tuple #[.pointer (some ⟨π.gy,0,none⟩),.bool true])∧Below w.heap.size w w'∧(∀ b,b<w.heap.size→c b=10)∧Wv κ c w' (0,0,0) [] [] 0∧Py κ π c w' 0 0 0 zMs:=by
 cases hr:jim 9 [.c (.i .i64 (.ofNat 3)),.c (.i .i64 (.ofNat 1))] .z 0 with
 | no =>
   have:=beg_run
   rw [hr] at this
   cases this
 | ok v H n =>
   have hb:=beg_run
   rw [hr] at hb
   have hb:=Option.some.inj (show some (v,([98,1,0,95,96,97].map (fun i=>exC (hget H i)),jbo 0 3 (hget H 92)),(gcN begL0 H,gcN begL1 H,gcN begL2 H))=_ from hb)
   obtain ⟨e0,q1⟩:=Prod.mk.inj hb
   obtain ⟨q2,q3⟩:=Prod.mk.inj q1
   obtain ⟨hb1,hnr⟩:=Prod.mk.inj q2
   obtain ⟨g0,q4⟩:=Prod.mk.inj q3
   obtain ⟨g1,g2⟩:=Prod.mk.inj q4
   clear hb q1 q2 q3 q4
   subst e0
   simp only [List.map_cons,List.map_nil,List.cons.injEq,and_true] at hb1
   obtain ⟨hy,hw,hbg,hs,hnn,ht⟩:=hb1
   obtain ⟨_,_,kc⟩:=jil _ _ _ _ _ _ _ hr
   refine (kc (fun _=>none) w #[.int .i64 3,.int .i64 1] (R_z _ _) (.cons rfl (.cons rfl .nil)) (fun _ _ _=>rfl)).mono ?_
   rintro e w' ⟨cv,G,rfl,st,hv⟩
   have hR:=st.r
   have hnew:∀ id b sz,hp H id≠.no→G id=some (b,sz)→w.heap.size≤b:=fun id b sz q1 q2=>by
    rcases st.ft b ⟨id,sz,q1,q2⟩ with q | q
    ·exact absurd q foot_z
    ·exact q
   obtain ⟨oy,gy,zy,ay,ey,by_,cy⟩:=jjq hR (by decide) hy
   obtain ⟨ow,gw,zw,aw,ew,bw,cw⟩:=jjq hR (by decide) hw
   obtain ⟨ob,gb,zb,ab,eb,bb,cb⟩:=jjq hR (by decide) hbg
   obtain ⟨os,gs,zs,as_,es,bs,cs⟩:=jjq hR (by decide) hs
   obtain ⟨on,gn,zn,an,en,bn,cn⟩:=jjq hR (by decide) hnn
   obtain ⟨ot,gt,zt,at_,et,bt,ct⟩:=jjq hR (by decide) ht
   have cat:∀ {id b sz:Nat},hp H id≠.no→G id=some (b,sz)→colB G H w.heap.size b=colI id:=fun q1 q2=>colB_at hR q1 q2
   have hold:∀ b,b<w.heap.size→colB G H w.heap.size b=10:=fun b hb=>by
    unfold colB
    rw [dif_neg (fun ⟨id,sz,q1,q2⟩=>by have:=hnew id b sz q1 q2;omega),if_pos hb]
   obtain ⟨ly⟩:=ay
   cases cy with | cons y0 cy=>cases cy with | cons y1 cy=>cases cy with | cons y2 cy=>cases cy with | cons y3 cy=>cases cy with | cons y4 cy=>cases cy with | cons y5 cy=>cases cy with | cons y6 cy=>cases cy with | cons y7 cy =>
   cases cy
   obtain ⟨b1,z1,h1,rfl⟩:=y0
   rw [ew] at h1;cases h1
   obtain ⟨b2,z2,h2,rfl,_⟩:=y2
   rw [es] at h2;cases h2
   obtain ⟨b3,z3,h3,rfl,_⟩:=y3
   rw [en] at h3;cases h3
   obtain ⟨b4,z4,h4,rfl,_⟩:=y4
   rw [et] at h4;cases h4
   cases (show _=Value.int .i64 3 from y1)
   cases (show _=Value.int .i64 0 from y5)
   cases (show _=Value.int .i64 0 from y6)
   cases (show _=Value.bool true from y7)
   obtain ⟨lw⟩:=aw
   cases cw with | cons x0 cw=>cases cw with | cons x1 cw=>cases cw with | cons x2 cw=>cases cw with | cons x3 cw=>cases cw with | cons x4 cw=>cases cw with | cons x5 cw =>
   cases cw
   obtain ⟨gr,zr,cr,hgr,rfl,_⟩:=x0
   obtain ⟨b5,z5,c5,h5,rfl,_⟩:=x1
   obtain ⟨b6,z6,h6,rfl⟩:=x2
   rw [eb] at h6;cases h6
   cases (show _=Value.slice none 0 0 from x3)
   cases (show _=Value.slice none 0 0 from x4)
   cases (show _=Value.int .i64 0 from x5)
   obtain ⟨u1,rfl,v1⟩:=list1 cb
   cases (show u1=Value.slice none 0 0 from v1)
   obtain ⟨u2,rfl,v2⟩:=list1 cs
   cases (show u2=Value.int .i64 0 from v2)
   obtain ⟨u3,rfl,v3⟩:=list1 cn
   cases (show u3=Value.int .i64 0 from v3)
   obtain ⟨vr,r1,r2⟩:=jgr hR (es:=1) (id:=92) (off:=0) (len:=3) (by decide) hgr hnr
   have orr:hp H 92≠.no:=by
    obtain ⟨m,y,dep,d,t,ho,_⟩:=jbp hnr
    rw [jas (by decide),ho];exact fun q=>(by cases q)
   cases r1 with | cons a0 r1=>cases r1 with | cons a1 r1=>cases r1 with | cons a2 r1 =>
   cases r1
   obtain ⟨p0,zp0,hp0,rfl⟩:=a0
   obtain ⟨p1,zp1,hp1,rfl⟩:=a1
   obtain ⟨p2,zp2,hp2,rfl⟩:=a2
   obtain ⟨br,offr,er,hbr,hcr⟩:=r2.2 (by decide)
   cases er
   obtain ⟨lt⟩:=at_
   have hz:lt=[.int .i64 0,.int .i64 0,.int .i64 0,.int .i64 0,.int .i64 0,.int .i64 0,.int .i64 0,.int .i64 0,.int .i64 0,.int .i64 0,.int .i64 0,.int .i64 0,.int .i64 0,.int .i64 0,.string ⟨#[]⟩,.slice none 0 0,.int .i64 0,.string ⟨#[]⟩,.slice none 0 0,.string ⟨#[]⟩]:=by
    have hv:V.ok G (.a ((tM 0 0 0 0 0 0 0 0 0 false none).sc .sn)) (.agg ⟨lt⟩):=⟨_,rfl,ct⟩
    obtain ⟨A,n',c',q,k⟩:=sc_of hv (fun u hu=>⟨none,0,0,hu⟩)
    cases (show Value.slice A n' c'=.slice none 0 0 from k)
    have:=Value.agg.inj q
    exact congrArg Array.toList this
   obtain ⟨R0,N0,F0⟩:=gcN_ok g0 hR
   obtain ⟨R1,N1,F1⟩:=gcN_ok g1 hR
   obtain ⟨R2,N2,F2⟩:=gcN_ok g2 hR
   obtain ⟨⟨la⟩,rfl,hla⟩:=hv
   cases hla with | cons q0 hla=>cases hla with | cons q1 hla =>
   cases hla
   obtain ⟨b8,z8,h8,rfl⟩:=(show ∃ b sz,G 98=some (b,sz)∧_=Value.pointer (some ⟨b,0,none⟩) from q0)
   rw [ey] at h8;cases h8
   cases (show _=Value.bool true from q1)
   subst hz
   have hne:∀ {i j b1 z1 b2 z2:Nat},hp H i≠.no→hp H j≠.no→G i=some (b1,z1)→G j=some (b2,z2)→i≠j→b1≠b2:=fun {i j b1 z1 b2 z2} o1 o2 e1 e2 hij e=>by subst e;exact hij (hR.2 i j b1 z1 z2 o1 o2 e1 e2)
   refine ⟨⟨gw,gr,gb,cr,.slice (some ⟨b5,0,none⟩) 3 c5,fun i=>match i with | 0=>p0 | 1=>p1 | _=>p2⟩,⟨gy,gs,gn,gt⟩,colB G H w.heap.size,rfl,st.fr.below fun _ _=>foot_z,hold,
    ⟨[],.slice none 0 0,.slice none 0 0,0,[],rfl,⟨bw,(cat ow ew).trans (by decide),fun i hi=>?_,hR.lt orr hgr,(cat orr hgr).trans (by decide),⟨.slice none 0 0,[],⟨bb,jcu _ _ _ _,by simp [Value.ownBlock]⟩,fun k hk=>?_,.nil⟩,jcu _ _ _ _,(fun k hk=>(by simp [Value.ownBlock] at hk)),(fun x hx=>(by cases hx)),jcu _ _ _ _,(fun k hk=>(by simp [Value.ownBlock] at hk)),fun i hi=>?_⟩⟩,
    ⟨by_,bs,bn,bt,(cat oy ey).trans (by decide),(cat os es).trans (by decide),(cat on en).trans (by decide),(cat ot et).trans (by decide),hne oy os ey es (by decide),hne oy on ey en (by decide),hne oy ot ey et (by decide),hne os on es en (by decide),hne os ot es et (by decide),hne on ot en et (by decide)⟩⟩
   ·have:i=0∨i=1∨i=2:=by omega
    rcases this with rfl | rfl | rfl
    ·exact hcr 0 _ rfl
    ·exact hcr 1 _ rfl
    ·exact hcr 2 _ rfl
   ·rcases hk with rfl | hk
    ·exact (cat ob eb).trans (by decide)
    ·simp [Value.ownBlock] at hk
   ·have h0:∀ id∈begL0,colI id=0:=by decide
    have h1:∀ id∈begL1,colI id=1:=by decide
    have h2:∀ id∈begL2,colI id=2:=by decide
    have:i=0∨i=1∨i=2:=by omega
    rcases this with rfl | rfl | rfl
    ·exact ⟨gcG begL0 G,zp0,R0,hp0,fun j hj=>N0 j (Nat.le_trans (by decide) hj),fun b hb=>by
      obtain ⟨id,sz,m,o,e⟩:=F0 b hb
      exact (cat o e).trans (h0 id m)⟩
    ·exact ⟨gcG begL1 G,zp1,R1,hp1,fun j hj=>N1 j (Nat.le_trans (by decide) hj),fun b hb=>by
      obtain ⟨id,sz,m,o,e⟩:=F1 b hb
      exact (cat o e).trans (h1 id m)⟩
    ·exact ⟨gcG begL2 G,zp2,R2,hp2,fun j hj=>N2 j (Nat.le_trans (by decide) hj),fun b hb=>by
      obtain ⟨id,sz,m,o,e⟩:=F2 b hb
      exact (cat o e).trans (h2 id m)⟩
end
end Db
end
section
open Go.RowKit
namespace Db
open Ev
noncomputable section
def tmMsg (t:Tm):Tp.Msg:=⟨t.k,t.fr,t.to,t.vw,t.nm,t.at_,t.cm,t.rd,t.cl,t.se,t.nu,t.co,t.ag,t.un⟩
def jhe (t:Tm):List Pt.Point:=match t.p with | none=>[] | some p=>[(⟨#[115]⟩,p.1,p.2)]
theorem mayOk_of (t:Tm) (k:Nat) (h:Mg.Ok k (tmMsg t) (serB t.s) (jhe t).length 0 0 ⟨#[]⟩) (hb:Pt.batchB (jhe t)=true) (hwf:∀ p∈jhe t,Pt.wf p):MayOk t:=by
 intro w D A n kk hbt
 have hr:n=(jhe t).length∧Reads w w.heap.size 3 A (jhe t).length ((jhe t).flatMap jal)∧(jhe t).length≤1:=by
  unfold jhe
  cases hp:t.p with
  | none =>
    rw [hp] at hbt
    obtain ⟨rfl,rfl,rfl⟩:=hbt
    exact ⟨rfl,Reads.none_,Nat.zero_le _⟩
  | some p =>
    rw [hp] at hbt
    obtain ⟨rfl,hr⟩:=bat_reads hbt
    exact ⟨rfl,hr,Nat.le_refl _⟩
 obtain ⟨rfl,hr,h1⟩:=hr
 have:=jji (w:=w) k (tmMsg t) (serB t.s) A kk (jhe t) 0 ⟨#[]⟩ none 0 [] ⟨#[]⟩ h (fun W=>jjp k h.lt W) hr hb (by omega) hwf ⟨Reads.none_,fun q hq=>(by cases hq),fun q hq=>(by cases hq)⟩ (by rfl) (by decide) (by decide)
 exact this
theorem jjr {p:Nat→Prop} (h:p 0∧p 1∧p 2∧p 3∧p 4∧p 5∧p 6∧p 7∧p 8∧p 9∧p 10) (j:Nat) (hj:j<11):p j:=by
 obtain ⟨h0,h1,h2,h3,h4,h5,h6,h7,h8,h9,h10⟩:=h
 have:j=0∨j=1∨j=2∨j=3∨j=4∨j=5∨j=6∨j=7∨j=8∨j=9∨j=10:=by omega
 rcases this with rfl | rfl | rfl | rfl | rfl | rfl | rfl | rfl | rfl | rfl | rfl<;>assumption
theorem reqMay (se nu:Int) (p:Option (Int×Int)) (h1:0≤se) (h2:se≤2147483647) (h3:0≤nu) (h4:nu≤2147483647) (hb:Pt.batchB (jhe (tM 0 100 0 0 0 0 0 se nu false p))=true) (hwf:∀ q∈jhe (tM 0 100 0 0 0 0 0 se nu false p),Pt.wf q):MayOk (tM 0 100 0 0 0 0 0 se nu false p):=by
 refine mayOk_of _ 0 ⟨by decide,rfl,?_,?_,?_,?_,?_,fun h=>absurd h (by decide),fun _=>rfl,fun h=>absurd (show (12:Int)∈Mg.flds 0 by decide) h,fun _=>⟨rfl,rfl⟩,by decide,fun _=>rfl⟩ hb hwf
 ·show 100≤(100:Int)∧(100:Int)<108;decide
 ·show 0≤(0:Int)∧(0:Int)<7;decide
 ·refine jjr (p:=fun j=>((j:Nat):Int)∉Mg.flds 0→Tp.Msg.fld _ j=0) ⟨fun _=>rfl,fun _=>rfl,fun _=>rfl,fun _=>rfl,fun _=>rfl,fun _=>rfl,fun h=>absurd (show ((6:Nat):Int)∈Mg.flds 0 by decide) h,fun h=>absurd (show ((7:Nat):Int)∈Mg.flds 0 by decide) h,fun _=>rfl,fun _=>rfl,fun _=>rfl⟩
 ·refine jjr (p:=fun j=>Mg.low 0 j≤Tp.Msg.fld _ j) ⟨?_,?_,?_,?_,?_,?_,?_,?_,?_,?_,?_⟩
  all_goals first | exact (show (0:Int)≤0 by decide) | exact h1 | exact h3
 ·refine jjr (p:=fun j=>Tp.Msg.fld _ j≤Tp.high j) ⟨?_,?_,?_,?_,?_,?_,?_,?_,?_,?_,?_⟩
  all_goals first | exact h2 | exact h4 | exact (show (0:Int)≤2147483647 by decide) | exact (show (0:Int)≤9 by decide) | exact (show (0:Int)≤4 by decide)
theorem act_open:jit (tmN tOpen):=by
 rw [jdc]
 exact actOk0 rfl rfl (reqMay 0 1 none (by decide) (by decide) (by decide) (by decide) (by decide) (fun q hq=>(by cases hq)))
theorem wf1 {t x:Int} (h1:-9223372036854775808≤t∧t≤9223372036854775807) (h2:-9223372036854775808≤x∧x≤9223372036854775807):∀ q∈[((⟨#[115]⟩,t,x):Pt.Point)],Pt.wf q:=fun q hq=>by
 rw [List.mem_singleton.1 hq];exact ⟨h1,h2⟩
theorem act_wr:jit (tmN tWr):=by
 rw [jiv]
 exact actOk0 rfl rfl (reqMay 1 2 (some (0,1)) (by decide) (by decide) (by decide) (by decide) (by kernel_rfl) (wf1 (by decide) (by decide)))
theorem bat_req (r:Nat) (hr:r<8):Pt.batchB [((⟨#[115]⟩,1,(500:Int)+(r:Int)):Pt.Point)]=true :=
 i8 (p:=fun r=>Pt.batchB [((⟨#[115]⟩,1,(500:Int)+(r:Int)):Pt.Point)]=true) (by refine ⟨?_,?_,?_,?_,?_,?_,?_,?_⟩<;>kernel_rfl) r hr
theorem act_req (r:Nat) (hr:r<8):jit (tmN (reqN r)):=by
 rw [tm_req r hr]
 exact actOk0 rfl rfl (reqMay 1 (10+r) (some (1,500+r)) (by decide) (by decide) (by omega) (by omega) (bat_req r hr) (wf1 (show -9223372036854775808≤(1:Int)∧(1:Int)≤9223372036854775807 by decide) (show -9223372036854775808≤(500+(r:Int))∧(500+(r:Int))≤9223372036854775807 by omega)))
theorem act_read:jit (tmN jgn):=by
 rw [jdv]
 refine actOk2 rfl rfl (mayOk_of _ 2 ⟨by decide,rfl,?_,?_,?_,?_,?_,fun _=>by kernel_rfl,fun h=>absurd (show (11:Int)∈Mg.flds 2 by decide) h,fun _=>rfl,fun _=>⟨rfl,rfl⟩,by decide,fun _=>rfl⟩ (by decide) (fun q hq=>(by cases hq)))
 ·show 100≤(100:Int)∧(100:Int)<108;decide
 ·show 0≤(0:Int)∧(0:Int)<7;decide
 ·refine jjr (p:=fun j=>((j:Nat):Int)∉Mg.flds 2→Tp.Msg.fld _ j=0) ⟨fun _=>rfl,fun _=>rfl,fun h=>absurd (show ((2:Nat):Int)∈Mg.flds 2 by decide) h,fun _=>rfl,fun _=>rfl,fun _=>rfl,fun _=>rfl,fun h=>absurd (show ((7:Nat):Int)∈Mg.flds 2 by decide) h,fun _=>rfl,fun _=>rfl,fun _=>rfl⟩
 ·refine jjr (p:=fun j=>Mg.low 2 j≤Tp.Msg.fld _ j) ⟨?_,?_,?_,?_,?_,?_,?_,?_,?_,?_,?_⟩<;>decide
 ·refine jjr (p:=fun j=>Tp.Msg.fld _ j≤Tp.high j) ⟨?_,?_,?_,?_,?_,?_,?_,?_,?_,?_,?_⟩<;>decide
end
end Db
end
end Go.Proofs.YtcchekmejnhlmaaGreat
