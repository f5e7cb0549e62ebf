/- Joined texts. -/
import Derived.Test.YtcchekmejnhlmaaGreatK24
namespace Go.Proofs.YtcchekmejnhlmaaGreat
set_option linter.unusedVariables false
set_option maxHeartbeats 4000000
section
open Go.RowKit
namespace Db
open Ev
noncomputable section
section
variable {κ:Kp} {π:Pp} {c:Nat→Nat} {w:World} {ns:Nat} {s:Sg} {bag got:List Nat} {s1 n seen s':Int} {wm wm':Ms}
theorem wHear (h:Wv κ c w s bag got ns) {k0:Nat} (hp:Py κ π c w s1 n (k0:Int) wm) (hk0:k0≤got.length) (hok:∀ t∈got.drop k0,(tmN t).to=100∧(tmN t).co=0) (H:Hear s1 wm ((got.drop k0).map tmN) s' wm') (hn:got.length≤90000) :
 Calls Tryz.prog 23 #[.pointer (some ⟨π.gy,0,none⟩)] w fun e w'=>e=.returned (.tuple #[])∧Py κ π c w' s' n (got.length:Int) wm'∧Wv κ c w' s bag got ns∧Stc (fun j=>j=7) c c w w'∧Only (hF π) w w':=by
 obtain ⟨gs,vg,vs,tm,xs,h1,h2⟩:=h
 have hl:gs.length=got.length:=by have:=congrArg List.length h1;simpa using this
 have hd:(gs.map (·.2)).drop k0=(got.drop k0).map tmN:=by rw [h1,List.map_drop]
 refine (hear_any h2 hp (by omega) (fun t ht=>?_) (by rw [hd];exact H) (by omega)).mono ?_
 ·rw [hd] at ht
  obtain ⟨u,hu,rfl⟩:=List.mem_map.1 ht
  exact hok u hu
 ·rintro e w' ⟨rfl,k1,k2⟩
  have st:Stc (fun j=>j=7) c c w w':=Stc.of_only (by decide) (k2.mono fun j _ q=>by
   rcases q with rfl | rfl | rfl
   ·exact hp.cy
   ·exact hp.cs
   ·exact hp.ct) fun _ _ _=>rfl
  rw [hl] at k1
  exact ⟨rfl,k1,⟨gs,vg,vs,tm,xs,h1,h2.stc_ st fun i h7 _ q=>h7 q⟩,st,k2⟩
theorem Wv.stc7 {w':World} {c':Nat→Nat} (h:Wv κ c w s bag got ns) (st:Stc (fun j=>j=7) c c' w w'):Wv κ c' w' s bag got ns:=h.stc st fun i h7 _ q=>h7 q
theorem py7 {w':World} (hp:Py κ π c w s1 n seen wm) (ho:Only (fun k=>k=π.gy∨k=π.gs∨k=π.gn∨k=π.gt) w w'):Stc (fun j=>j=7) c c w w':=Stc.of_only (by decide) (ho.mono fun j _ q=>by
 rcases q with rfl | rfl | rfl | rfl
 ·exact hp.cy
 ·exact hp.cs
 ·exact hp.cn
 ·exact hp.ct) fun _ _ _=>rfl
end
section
variable {κ:Kp} {π:Pp} {c:Nat→Nat} {w:World}
theorem rec8 (c:Nat→Nat) (n:Nat):jbr c n 8 none n=8:=by
 unfold jbr
 rw [if_neg (Nat.lt_irrefl _)]
 split<;>rfl
set_option maxRecDepth 100000 in
set_option maxHeartbeats 4000000 in
theorem written_any (h:Wv κ c w (0,0,0) [] [] 0) (hp:Py κ π c w 0 0 0 zMs) (ha1:jit (tmN tOpen)) (ha2:jit (tmN tWr)) :
 Calls Tryz.prog 10 #[.pointer (some ⟨π.gy,0,none⟩),.int .i64 0,.int .i64 0,.int .i64 0,.int .i64 1] w fun e w'=>e=.returned (.bool true)∧∃ c',Wv κ c' w' (jdx 0) [] [tRe1,tRe2] 2∧Py κ π c' w' 1 2 2 zMs∧Stc (fun j=>j≤7) c c' w w':=by
 have y2:w.cell? ⟨π.gy,2,none⟩=some (.slice (some ⟨π.gs,0,none⟩) 1 1):=hp.y.cell 2
 have y3:w.cell? ⟨π.gy,3,none⟩=some (.slice (some ⟨π.gn,0,none⟩) 1 1):=hp.y.cell 3
 have s0:w.cell? ⟨π.gs,0,none⟩=some (.int .i64 0):=hp.ss.cell 0
 have n0:w.cell? ⟨π.gn,0,none⟩=some (.int .i64 0):=hp.nn.cell 0
 have g0:w.frozen? ⟨π.gn,0,none⟩=false:=hp.nn.frozen 0 (by simp)
 have HW:=Lib.hid h
 have HP:=Lib.hid hp
 clear h hp
 go_enter Tryz.func10,Tryz.ntmps10
 go_wp2_with fail
 have HP2:=Lib.hid (HP.out.setNum 1)
 have HS2:Hid (Stc (fun j=>j=7) c c w (w.setCell ⟨π.gn,0,none⟩ (.int .i64 1))):=Lib.hid (py7 HP.out ((Only.refl _ _).setCell (p:=⟨π.gn,0,none⟩) (fun _=>.inr (.inr (.inl rfl))) _))
 have HW2:=Lib.hid (HW.out.stc7 HS2.out)
 clear y2 y3 s0 n0 g0
 generalize w.setCell ⟨π.gn,0,none⟩ (.int .i64 1)=w2 at *
 have HPd:=Lib.hid (HP2.out.below (Below.refl _ _).drew)
 refine jan (S:=(fun W=>W.cell? ⟨π.gy,4,none⟩=some (.slice (some ⟨π.gt,0,none⟩) 1 1)∧W.cell? ⟨π.gy,3,none⟩=some (.slice (some ⟨π.gn,0,none⟩) 1 1)∧W.cell? ⟨π.gn,0,none⟩=some (.int .i64 1))) [16] (by kernel_rfl) ?_ (fun hHeld=>?_)
 ·exact ⟨HPd.out.y.cell 4,HPd.out.y.cell 3,HPd.out.nn.cell 0⟩
 refine tK 0 28 (v:=?_) rfl ?_ ?_;rotate_left 1;(focus intro w hSw;(try dsimp only at hSw);go_simp;try with_reducible rfl);try simp only [Act.put,zsA,zsB,zsC]
 refine tK 1 29 (v:=?_) rfl ?_ ?_;rotate_left 1;(focus intro w hSw;(try dsimp only at hSw);go_simp;try with_reducible rfl);try simp only [Act.put,zsA,zsB,zsC]
 refine tK 2 30 (v:=?_) rfl ?_ ?_;rotate_left 1;(focus intro w hSw;(try dsimp only at hSw);go_simp;try with_reducible rfl);try simp only [Act.put,zsA,zsB,zsC]
 refine tK 3 31 (v:=?_) rfl ?_ ?_;rotate_left 1;(focus intro w hSw;(try dsimp only at hSw);go_simp;try with_reducible rfl);try simp only [Act.put,zsA,zsB,zsC]
 refine tK 4 32 (v:=?_) rfl ?_ ?_;rotate_left 1;(focus intro w hSw;(try dsimp only at hSw);go_simp;try with_reducible rfl);try simp only [Act.put,zsA,zsB,zsC]
 refine tK 5 33 (v:=?_) rfl ?_ ?_;rotate_left 1;(focus intro w hSw;(try dsimp only at hSw);go_simp;try with_reducible rfl);try simp only [Act.put,zsA,zsB,zsC]
 refine tK 6 34 (v:=?_) rfl ?_ ?_;rotate_left 1;(focus intro w hSw;(try dsimp only at hSw);go_simp;try with_reducible rfl);try simp only [Act.put,zsA,zsB,zsC]
 refine tK 7 35 (v:=?_) rfl ?_ ?_;rotate_left 1;(focus intro w hSw;(try dsimp only at hSw);go_simp;try with_reducible rfl);try simp only [Act.put,zsA,zsB,zsC]
 refine tK 8 36 (v:=?_) rfl ?_ ?_;rotate_left 1;(focus intro w hSw;(try dsimp only at hSw);go_simp;try with_reducible rfl);try simp only [Act.put,zsA,zsB,zsC]
 refine tK 9 37 (v:=?_) rfl ?_ ?_;rotate_left 1;(focus intro w hSw;(try dsimp only at hSw);go_simp;try with_reducible rfl);try simp only [Act.put,zsA,zsB,zsC]
 refine tK 10 38 (v:=?_) rfl ?_ ?_;rotate_left 1;(focus intro w hSw;(try dsimp only at hSw);go_simp;try with_reducible rfl);try simp only [Act.put,zsA,zsB,zsC]
 refine tK 11 39 (v:=?_) rfl ?_ ?_;rotate_left 1;(focus intro w hSw;(try dsimp only at hSw);go_simp;try with_reducible rfl);try simp only [Act.put,zsA,zsB,zsC]
 refine tK 12 40 (v:=?_) rfl ?_ ?_;rotate_left 1;(focus intro w hSw;(try dsimp only at hSw);go_simp;try with_reducible rfl);try simp only [Act.put,zsA,zsB,zsC]
 refine tK 13 41 (v:=?_) rfl ?_ ?_;rotate_left 1;(focus intro w hSw;(try dsimp only at hSw);go_simp;try with_reducible rfl);try simp only [Act.put,zsA,zsB,zsC]
 refine tK 14 42 (v:=?_) rfl ?_ ?_;rotate_left 1;(focus intro w hSw;(try dsimp only at hSw);go_simp;try with_reducible rfl);try simp only [Act.put,zsA,zsB,zsC]
 refine tK 15 43 (v:=?_) rfl ?_ ?_;rotate_left 1;(focus intro w hSw;(try dsimp only at hSw);go_simp;try with_reducible rfl);try simp only [Act.put,zsA,zsB,zsC]
 refine jah (i:=16) (o:=⟨none,_,_,_,_,_⟩) (by kernel_rfl) rfl (fun K' hK=>?_)
 (refine jde (o:=⟨none,.store 39 (.tmp 43) (.tmp 42),_,_,_,_⟩) rfl 39 (.tmp 43) (.tmp 42) rfl π.gt #[.int .i64 0,.int .i64 100,.int .i64 0,.int .i64 0,.int .i64 0,.int .i64 0,.int .i64 0,.int .i64 0,.int .i64 0,.int .i64 0,.int .i64 1,.int .i64 0,.int .i64 0,.int .i64 0,.string ⟨#[]⟩,.slice none 0 0,.int .i64 0,.string ⟨#[]⟩,.slice none 0 0,.string ⟨#[]⟩] (by rfl) (by rfl) _ HPd.out.tt (by rfl) jaj (by simp [Value.oneCell']) ?_;intro w3 HB3 ho3 _)
 refine hK.out _ _ (fun h=>absurd h (by decide)) (fun _=>?_)
 clear hK K'
 try simp only [Act.put]
 refine jao (by kernel_rfl) ?_ _
 have HP3:Hid (Py κ π c w3 0 1 0 ((tmN tOpen).ms none 0 0)):=Lib.hid (HPd.out.setWait (m':=(tmN tOpen).ms none 0 0) (by rw [jdc];exact HB3) ho3)
 have HS3:Hid (Stc (fun j=>j=7) c c w w3):=Lib.hid ((HS2.out.trans (Stc.of_only (by decide) (Only.new _ ((Below.refl _ _).drew)) (fun _ _ _=>rfl))).trans (py7 HPd.out (ho3.mono fun j _ q=>.inr (.inr (.inr q)))))
 have HW3:=Lib.hid (HW.out.stc7 HS3.out)
 clear HB3 ho3 HPd HP2 HS2 HW2 HW HP
 have hcall:=Lib.hid (jkz HW3.out HP3.out tOpen ha1 rfl (by rw [jdc];exact ⟨rfl,rfl,rfl⟩) (by rw [jdc];decide) (by rw [jdc];rfl) (by simp) (by omega))
 go_wp2_with fail
 refine hcall.out.mono ?_
 rintro e w4 ⟨rfl,c4,hW4,hP4,hS4⟩
 have HW4:=Lib.hid hW4
 have HP4:=Lib.hid hP4
 have HS4:Hid (Stc (fun j=>j≤7) c c4 w w4):=Lib.hid ((HS3.out.mono (by decide) (fun j q=>by omega)).trans (hS4.mono (by decide) (fun j q=>by omega)))
 clear hW4 hP4 hS4 hcall HW3 HP3 HS3
 have y0:w4.cell? ⟨π.gy,0,none⟩=some (.pointer (some ⟨κ.gw,0,none⟩)):=HP4.out.y.cell 0
 have hdr:=Lib.hid (jco (m:=900) HW4.out (drF_ok 100 open_run) (by decide) (by decide) (by simp) (by simp))
 go_wp2_with fail
 refine hdr.out.mono ?_
 rintro e w5 ⟨rfl,c5,hW5,hS5⟩
 have HW5:Hid (Wv κ c5 w5 sOpen [] [tRe1] 1):=Lib.hid hW5
 have HP5:=Lib.hid (HP4.out.stc hS5 (by decide))
 have HS5:Hid (Stc (fun j=>j≤7) c c5 w w5):=Lib.hid (HS4.out.trans (hS5.mono (by decide) (fun j q=>by omega)))
 clear hW5 hS5 hdr HW4 HP4 HS4 y0
 have hhe:=Lib.hid (wHear (k0:=0) (s':=1) (wm':=zMs) HW5.out HP5.out (by simp) (fun t ht=>by
  have:t=tRe1:=by simpa using ht
  rw [this,tm_re1];exact ⟨rfl,rfl⟩) (by
  show Hear 0 _ [tmN tRe1] 1 zMs
  have:=Hear.opens (s:=0) (wm:=(tmN tOpen).ms none 0 0) (t:=tmN tRe1) (r:=[]) (s':=1) (wm':=zMs) (by rw [jdc,tm_re1];rfl) (by rw [jdc];decide) (by rw [tm_re1];rfl) (by rw [jdc];rfl) (by rw [jdc];rfl) rfl (by rw [tm_re1];exact .nil)
  exact this) (by simp))
 go_wp2_with fail
 refine hhe.out.mono ?_
 rintro e w6 ⟨rfl,hP6,hW6,hS6,_⟩
 have HW6:=Lib.hid hW6
 have HP6:Hid (Py κ π c5 w6 1 1 1 zMs):=Lib.hid hP6
 have HS6:Hid (Stc (fun j=>j≤7) c c5 w w6):=Lib.hid (HS5.out.trans (hS6.mono (by decide) (fun j q=>by omega)))
 clear hW6 hP6 hS6 hhe HW5 HP5 HS5
 have y2:w6.cell? ⟨π.gy,2,none⟩=some (.slice (some ⟨π.gs,0,none⟩) 1 1):=HP6.out.y.cell 2
 have y3:w6.cell? ⟨π.gy,3,none⟩=some (.slice (some ⟨π.gn,0,none⟩) 1 1):=HP6.out.y.cell 3
 have s0:w6.cell? ⟨π.gs,0,none⟩=some (.int .i64 1):=HP6.out.ss.cell 0
 have n0:w6.cell? ⟨π.gn,0,none⟩=some (.int .i64 1):=HP6.out.nn.cell 0
 have g0:w6.frozen? ⟨π.gn,0,none⟩=false:=HP6.out.nn.frozen 0 (by simp)
 go_wp2_with fail
 have HP7:=Lib.hid (HP6.out.setNum 2)
 have HS7:Hid (Stc (fun j=>j=7) c5 c5 w6 (w6.setCell ⟨π.gn,0,none⟩ (.int .i64 2))):=Lib.hid (py7 HP6.out ((Only.refl _ _).setCell (p:=⟨π.gn,0,none⟩) (fun _=>.inr (.inr (.inl rfl))) _))
 have HW7:=Lib.hid (HW6.out.stc7 HS7.out)
 clear y2 y3 s0 n0 g0
 generalize w6.setCell ⟨π.gn,0,none⟩ (.int .i64 2)=w7 at *
 have HS:Hid (∀ W,Below w7.heap.size w7 W→W.cell? ⟨π.gy,4,none⟩=some (.slice (some ⟨π.gt,0,none⟩) 1 1)∧W.cell? ⟨π.gy,2,none⟩=some (.slice (some ⟨π.gs,0,none⟩) 1 1)∧W.cell? ⟨π.gs,0,none⟩=some (.int .i64 1)∧W.cell? ⟨π.gy,3,none⟩=some (.slice (some ⟨π.gn,0,none⟩) 1 1)∧W.cell? ⟨π.gn,0,none⟩=some (.int .i64 2)):=Lib.hid (fun W hb=>by
  have h:=HP7.out.below hb
  exact ⟨h.y.cell 4,h.y.cell 2,h.ss.cell 0,h.y.cell 3,h.nn.cell 0⟩)
 have HPa:Hid (Py κ π c5 (w7.drew.alloc (.cells #[.string ⟨#[115]⟩,.int .i64 0,.int .i64 1] 46)) 1 2 1 zMs):=Lib.hid (HP7.out.below (((Below.refl _ _).drew).alloc (Nat.le_refl _) _))
 have HNB:Hid (Blk (w7.drew.alloc (.cells #[.string ⟨#[115]⟩,.int .i64 0,.int .i64 1] 46)) w7.heap.size 46 #[.string ⟨#[115]⟩,.int .i64 0,.int .i64 1]):=Lib.hid (Blk.new w7.drew _ _)
 refine jan (S:=(fun W=>W.cell? ⟨π.gy,4,none⟩=some (.slice (some ⟨π.gt,0,none⟩) 1 1)∧W.cell? ⟨π.gy,2,none⟩=some (.slice (some ⟨π.gs,0,none⟩) 1 1)∧W.cell? ⟨π.gs,0,none⟩=some (.int .i64 1)∧W.cell? ⟨π.gy,3,none⟩=some (.slice (some ⟨π.gn,0,none⟩) 1 1)∧W.cell? ⟨π.gn,0,none⟩=some (.int .i64 2))) [27] (by kernel_rfl) ?_ (fun hHeld=>?_)
 ·exact HS.out _ ((Below.refl _ _).drew)
 refine tK 0 73 (v:=?_) rfl ?_ ?_;rotate_left 1;(focus intro w hSw;(try dsimp only at hSw);go_simp;try with_reducible rfl);try simp only [Act.put,zsA,zsB,zsC]
 refine tK 1 74 (v:=?_) rfl ?_ ?_;rotate_left 1;(focus intro w hSw;(try dsimp only at hSw);go_simp;try with_reducible rfl);try simp only [Act.put,zsA,zsB,zsC]
 refine tK 2 75 (v:=?_) rfl ?_ ?_;rotate_left 1;(focus intro w hSw;(try dsimp only at hSw);go_simp;try with_reducible rfl);try simp only [Act.put,zsA,zsB,zsC]
 refine tK 3 76 (v:=?_) rfl ?_ ?_;rotate_left 1;(focus intro w hSw;(try dsimp only at hSw);go_simp;try with_reducible rfl);try simp only [Act.put,zsA,zsB,zsC]
 refine tK 4 77 (v:=?_) rfl ?_ ?_;rotate_left 1;(focus intro w hSw;(try dsimp only at hSw);go_simp;try with_reducible rfl);try simp only [Act.put,zsA,zsB,zsC]
 refine tK 5 78 (v:=?_) rfl ?_ ?_;rotate_left 1;(focus intro w hSw;(try dsimp only at hSw);go_simp;try with_reducible rfl);try simp only [Act.put,zsA,zsB,zsC]
 refine tK 6 79 (v:=?_) rfl ?_ ?_;rotate_left 1;(focus intro w hSw;(try dsimp only at hSw);go_simp;try with_reducible rfl);try simp only [Act.put,zsA,zsB,zsC]
 refine tK 7 80 (v:=?_) rfl ?_ ?_;rotate_left 1;(focus intro w hSw;(try dsimp only at hSw);go_simp;try with_reducible rfl);try simp only [Act.put,zsA,zsB,zsC]
 refine tK 8 81 (v:=?_) rfl ?_ ?_;rotate_left 1;(focus intro w hSw;(try dsimp only at hSw);go_simp;try with_reducible rfl);try simp only [Act.put,zsA,zsB,zsC]
 refine tK 9 82 (v:=?_) rfl ?_ ?_;rotate_left 1;(focus intro w hSw;(try dsimp only at hSw);go_simp;try with_reducible rfl);try simp only [Act.put,zsA,zsB,zsC]
 refine tK 10 83 (v:=?_) rfl ?_ ?_;rotate_left 1;(focus intro w hSw;(try dsimp only at hSw);go_simp;try with_reducible rfl);try simp only [Act.put,zsA,zsB,zsC]
 refine tK 11 84 (v:=?_) rfl ?_ ?_;rotate_left 1;(focus intro w hSw;(try dsimp only at hSw);go_simp;try with_reducible rfl);try simp only [Act.put,zsA,zsB,zsC]
 refine tK 12 85 (v:=?_) rfl ?_ ?_;rotate_left 1;(focus intro w hSw;(try dsimp only at hSw);go_simp;try with_reducible rfl);try simp only [Act.put,zsA,zsB,zsC]
 refine tK 13 86 (v:=?_) rfl ?_ ?_;rotate_left 1;(focus intro w hSw;(try dsimp only at hSw);go_simp;try with_reducible rfl);try simp only [Act.put,zsA,zsB,zsC]
 refine tK 14 87 (v:=?_) rfl ?_ ?_;rotate_left 1;(focus intro w hSw;(try dsimp only at hSw);go_simp;try with_reducible rfl);try simp only [Act.put,zsA,zsB,zsC]
 refine tK 15 88 (v:=?_) rfl ?_ ?_;rotate_left 1;(focus intro w hSw;(try dsimp only at hSw);go_simp;try with_reducible rfl);try simp only [Act.put,zsA,zsB,zsC]
 refine tK 16 89 (v:=?_) rfl ?_ ?_;rotate_left 1;(focus intro w hSw;(try dsimp only at hSw);go_simp;try with_reducible rfl);try simp only [Act.put,zsA,zsB,zsC]
 refine tK 17 90 (v:=?_) rfl ?_ ?_;rotate_left 1;(focus intro w hSw;(try dsimp only at hSw);go_simp;try with_reducible rfl);try simp only [Act.put,zsA,zsB,zsC]
 refine tK 18 91 (v:=?_) rfl ?_ ?_;rotate_left 1;(focus intro w hSw;(try dsimp only at hSw);go_simp;try with_reducible rfl);try simp only [Act.put,zsA,zsB,zsC]
 refine tK 19 92 (v:=?_) rfl ?_ ?_;rotate_left 1;(focus intro w hSw;(try dsimp only at hSw);go_simp;try with_reducible rfl);try simp only [Act.put,zsA,zsB,zsC]
 refine tK 20 93 (v:=?_) rfl ?_ ?_;rotate_left 1;(focus intro w hSw;(try dsimp only at hSw);go_simp;try with_reducible rfl);try simp only [Act.put,zsA,zsB,zsC]
 refine tK 21 94 (v:=?_) rfl ?_ ?_;rotate_left 1;(focus intro w hSw;(try dsimp only at hSw);go_simp;try with_reducible rfl);try simp only [Act.put,zsA,zsB,zsC]
 refine tK 22 95 (v:=?_) rfl ?_ ?_;rotate_left 1;(focus intro w hSw;(try dsimp only at hSw);go_simp;try with_reducible rfl);try simp only [Act.put,zsA,zsB,zsC]
 refine tK 23 96 (v:=?_) rfl ?_ ?_;rotate_left 1;(focus intro w hSw;(try dsimp only at hSw);go_simp;try with_reducible rfl);try simp only [Act.put,zsA,zsB,zsC]
 refine jah (i:=24) (o:=⟨some 97,_,_,_,_,_⟩) (by kernel_rfl) rfl (fun K' hK=>?_)
 go_simp
 refine hK.out _ _ (fun _=>?_) (fun hHeld'=>?_)
 ·exact HS.out _ (((Below.refl _ _).drew).alloc (Nat.le_refl _) _)
 have hHeld:=hHeld' rfl
 clear hK K'
 try simp only [Act.put,zsA,zsB,zsC]
 refine tK 25 98 (v:=?_) rfl ?_ ?_;rotate_left 1;(focus intro w hSw;(try dsimp only at hSw);go_simp;try with_reducible rfl);try simp only [Act.put,zsA,zsB,zsC]
 refine tK 26 99 (v:=?_) rfl ?_ ?_;rotate_left 1;(focus intro w hSw;(try dsimp only at hSw);go_simp;try with_reducible rfl);try simp only [Act.put,zsA,zsB,zsC]
 refine jah (i:=27) (o:=⟨none,_,_,_,_,_⟩) (by kernel_rfl) rfl (fun K' hK=>?_)
 (refine jde (o:=⟨none,.store 39 (.tmp 99) (.tmp 98),_,_,_,_⟩) rfl 39 (.tmp 99) (.tmp 98) rfl π.gt #[.int .i64 0,.int .i64 100,.int .i64 0,.int .i64 0,.int .i64 0,.int .i64 0,.int .i64 0,.int .i64 0,.int .i64 0,.int .i64 1,.int .i64 2,.int .i64 0,.int .i64 0,.int .i64 0,.string ⟨#[]⟩,.slice (some ⟨w7.heap.size,0,none⟩) 1 1,.int .i64 0,.string ⟨#[]⟩,.slice none 0 0,.string ⟨#[]⟩] (by rfl) (by rfl) _ HPa.out.tt (by rfl) jaj (by simp [Value.oneCell']) ?_;intro w8 HB8 ho8 _)
 refine hK.out _ _ (fun h=>absurd h (by decide)) (fun _=>?_)
 clear hK K'
 try simp only [Act.put]
 refine jao (by kernel_rfl) ?_ _
 have hgt:π.gt<w7.heap.size:=HP7.out.tt.lt
 have ho78:Only (fun k=>k=π.gt) w7 w8:=(((Only.refl (fun k=>k=π.gt) w7).drew).alloc (.cells #[.string ⟨#[115]⟩,.int .i64 0,.int .i64 1] 46)).trans ho8 (fun _ _ q=>q)
 have st78:Stc (fun j=>j=7) c5 (jbr c5 w7.heap.size 8 none) w7 w8:=Stc.of_only (by decide) (ho78.mono (S':=fun b=>c5 b=7) (fun j _ q=>by rw [q];exact HP7.out.ct)) (fun b hb _=>if_pos hb)
 have HS8:Hid (Stc (fun j=>j≤7) c (jbr c5 w7.heap.size 8 none) w w8):=Lib.hid ((HS6.out.trans (HS7.out.mono (by decide) (fun j q=>by omega))).trans (st78.mono (by decide) (fun j q=>by omega)))
 have HW8:=Lib.hid (HW7.out.stc7 st78)
 have hP7':Py κ π (jbr c5 w7.heap.size 8 none) w7 1 2 1 zMs:=HP7.out.stc (K:=fun _=>False) (Stc.of_only id (Only.refl _ _) (fun b hb _=>if_pos hb)) id
 have HP8:Hid (Py κ π (jbr c5 w7.heap.size 8 none) w8 1 2 1 ((tmN tWr).ms (some ⟨w7.heap.size,0,none⟩) 1 1)):=Lib.hid ((hP7'.below (((Below.refl _ _).drew).alloc (Nat.le_refl _) (.cells #[.string ⟨#[115]⟩,.int .i64 0,.int .i64 1] 46))).setWait (m':=(tmN tWr).ms (some ⟨w7.heap.size,0,none⟩) 1 1) (by rw [jiv];exact HB8) ho8)
 have hNB8:Blk w8 w7.heap.size 46 #[.string ⟨#[115]⟩,.int .i64 0,.int .i64 1]:=HNB.out.only ho8 (by omega)
 have HBt8:Hid (BatOk w8 (fun b=>jbr c5 w7.heap.size 8 none b=8) (tmN tWr).p (some ⟨w7.heap.size,0,none⟩) 1 1):=Lib.hid (by
  rw [jiv]
  exact ⟨rfl,Nat.le_refl _,w7.heap.size,_,_,(0,0),rfl,hNB8,fun i _ q=>by omega,rfl,rfl,rfl,rfl,rec8 c5 _⟩)
 clear HB8 ho8 HPa HNB HS ho78 st78 hP7' hNB8 HP7 HS7 HW7 HW6 HP6 HS6
 have hcall:=Lib.hid (jkz HW8.out HP8.out tWr ha2 rfl HBt8.out (by rw [jiv];show (2:Int)≠0;decide) (by rw [jiv];rfl) (by simp) (by omega))
 go_wp2_with fail
 refine hcall.out.mono ?_
 rintro e w9 ⟨rfl,c9,hW9,hP9,hS9⟩
 have HW9:=Lib.hid hW9
 have HP9:=Lib.hid hP9
 have HS9:Hid (Stc (fun j=>j≤7) c c9 w w9):=Lib.hid (HS8.out.trans (hS9.mono (by decide) (fun j q=>by omega)))
 clear hW9 hP9 hS9 hcall HW8 HP8 HS8 HBt8
 have y0:w9.cell? ⟨π.gy,0,none⟩=some (.pointer (some ⟨κ.gw,0,none⟩)):=HP9.out.y.cell 0
 have hdr:=Lib.hid (jco (m:=900) HW9.out (drF_ok 100 wr_run) (by decide) (by decide) (by simp) (by simp))
 go_wp2_with fail
 refine hdr.out.mono ?_
 rintro e w10 ⟨rfl,c10,hW10,hS10⟩
 have HW10:Hid (Wv κ c10 w10 (jdx 0) [] [tRe1,tRe2] 2):=Lib.hid hW10
 have HP10:=Lib.hid (HP9.out.stc hS10 (by decide))
 have HS10:Hid (Stc (fun j=>j≤7) c c10 w w10):=Lib.hid (HS9.out.trans (hS10.mono (by decide) (fun j q=>by omega)))
 clear hW10 hS10 hdr HW9 HP9 HS9 y0
 have hhe:=Lib.hid (wHear (k0:=1) (s':=1) (wm':=zMs) HW10.out HP10.out (by simp) (fun t ht=>by
  have:t=tRe2:=by simpa using ht
  rw [this,tm_re2];exact ⟨rfl,rfl⟩) (by
  show Hear 1 _ [tmN tRe2] 1 zMs
  exact Hear.reply (by rw [jiv,tm_re2];rfl) (by rw [jiv];show (2:Int)≠0;decide) (by rw [tm_re2];rfl) (by rw [jiv];rfl) (by rw [jiv];show (1:Int)≠0;decide) (by rw [jiv,tm_re2];rfl) .nil) (by simp))
 go_wp2_with fail
 refine hhe.out.mono ?_
 rintro e w11 ⟨rfl,hP11,hW11,hS11,_⟩
 have HP11:Hid (Py κ π c10 w11 1 2 2 zMs):=Lib.hid hP11
 have HS11:Hid (Stc (fun j=>j≤7) c c10 w w11):=Lib.hid (HS10.out.trans (hS11.mono (by decide) (fun j q=>by omega)))
 have HW11:=Lib.hid hW11
 clear hP11 hS11 hW11 hhe HW10 HP10 HS10
 have y4:w11.cell? ⟨π.gy,4,none⟩=some (.slice (some ⟨π.gt,0,none⟩) 1 1):=HP11.out.y.cell 4
 have t10:w11.cell? ⟨π.gt,10,none⟩=some (.int .i64 0):=HP11.out.tt.cell 10
 go_wp2_with fail
 go_ret
 exact ⟨rfl,c10,HW11.out,HP11.out,HS11.out⟩
end
end
end Db
end
end Go.Proofs.YtcchekmejnhlmaaGreat
