/- The table of made functions is so. -/
import Derived.Test.YtcchekmejnhlmaaGreatKEvY1
import Derived.Test.YtcchekmejnhlmaaGreatKEvY2
import Derived.Test.YtcchekmejnhlmaaGreatKEvY3
import Derived.Test.YtcchekmejnhlmaaGreatKEvY4
namespace Go.Proofs.YtcchekmejnhlmaaGreat
namespace Ev
noncomputable section
open Go
set_option maxRecDepth 1000000
theorem zL_lt : zL.all (fun p => Nat.blt p.1 512) = true := by kernel_rfl
def ZOk (l : List (Nat × KF)) : Prop := ∀ p ∈ l, ∃ wt : WT, compF Go.Proofs.Tryz.prog wt p.1 = some p.2
theorem zn : ZOk [] := fun p h => by cases h
theorem zc {i : Nat} {f : KF} {l : List (Nat × KF)} (h : compF Go.Proofs.Tryz.prog wt i = some f) (k : ZOk l) : ZOk ((i, f) :: l) := fun p q => by
  rcases List.mem_cons.1 q with rfl | q
  · exact ⟨wt, h⟩
  · exact k p q
theorem zo0 : ZOk [(7, z7), (8, z8), (9, z9), (11, z11), (14, z14), (15, z15), (17, z17), (18, z18), (20, z20), (21, z21), (24, z24), (25, z25), (28, z28), (32, z32), (33, z33), (36, z36)] := zc y7 <| zc y8 <| zc y9 <| zc y11 <| zc y14 <| zc y15 <| zc y17 <| zc y18 <| zc y20 <| zc y21 <| zc y24 <| zc y25 <| zc y28 <| zc y32 <| zc y33 <| zc y36 <| zn
theorem zo1 : ZOk [(37, z37), (39, z39), (40, z40), (41, z41), (42, z42), (43, z43), (44, z44), (46, z46), (48, z48), (49, z49), (50, z50), (51, z51), (52, z52), (59, z59), (60, z60), (62, z62)] := zc y37 <| zc y39 <| zc y40 <| zc y41 <| zc y42 <| zc y43 <| zc y44 <| zc y46 <| zc y48 <| zc y49 <| zc y50 <| zc y51 <| zc y52 <| zc y59 <| zc y60 <| zc y62 <| zn
theorem zo2 : ZOk [(66, z66), (71, z71), (72, z72), (73, z73), (74, z74), (75, z75), (76, z76), (77, z77), (78, z78), (79, z79), (80, z80), (81, z81), (82, z82), (83, z83), (84, z84), (86, z86)] := zc y66 <| zc y71 <| zc y72 <| zc y73 <| zc y74 <| zc y75 <| zc y76 <| zc y77 <| zc y78 <| zc y79 <| zc y80 <| zc y81 <| zc y82 <| zc y83 <| zc y84 <| zc y86 <| zn
theorem zo3 : ZOk [(87, z87), (93, z93), (94, z94), (95, z95), (96, z96), (97, z97), (98, z98), (99, z99), (100, z100), (101, z101), (102, z102), (103, z103), (104, z104), (107, z107), (108, z108), (109, z109)] := zc y87 <| zc y93 <| zc y94 <| zc y95 <| zc y96 <| zc y97 <| zc y98 <| zc y99 <| zc y100 <| zc y101 <| zc y102 <| zc y103 <| zc y104 <| zc y107 <| zc y108 <| zc y109 <| zn
theorem zo4 : ZOk [(111, z111), (112, z112), (113, z113), (118, z118), (119, z119), (120, z120), (121, z121), (122, z122), (124, z124), (127, z127), (133, z133), (135, z135), (136, z136), (137, z137), (138, z138), (139, z139)] := zc y111 <| zc y112 <| zc y113 <| zc y118 <| zc y119 <| zc y120 <| zc y121 <| zc y122 <| zc y124 <| zc y127 <| zc y133 <| zc y135 <| zc y136 <| zc y137 <| zc y138 <| zc y139 <| zn
theorem zo5 : ZOk [(140, z140), (141, z141), (144, z144), (148, z148), (156, z156), (157, z157), (158, z158), (159, z159), (160, z160), (161, z161), (162, z162), (163, z163), (164, z164), (166, z166), (167, z167), (169, z169)] := zc y140 <| zc y141 <| zc y144 <| zc y148 <| zc y156 <| zc y157 <| zc y158 <| zc y159 <| zc y160 <| zc y161 <| zc y162 <| zc y163 <| zc y164 <| zc y166 <| zc y167 <| zc y169 <| zn
theorem zo6 : ZOk [(170, z170), (171, z171), (174, z174), (177, z177), (180, z180), (182, z182), (185, z185), (189, z189), (191, z191), (193, z193), (195, z195), (196, z196), (198, z198), (199, z199), (200, z200), (202, z202)] := zc y170 <| zc y171 <| zc y174 <| zc y177 <| zc y180 <| zc y182 <| zc y185 <| zc y189 <| zc y191 <| zc y193 <| zc y195 <| zc y196 <| zc y198 <| zc y199 <| zc y200 <| zc y202 <| zn
theorem zo7 : ZOk [(203, z203), (204, z204), (207, z207), (216, z216), (217, z217), (221, z221), (222, z222), (223, z223), (224, z224), (225, z225), (228, z228), (232, z232), (233, z233), (237, z237), (238, z238), (243, z243)] := zc y203 <| zc y204 <| zc y207 <| zc y216 <| zc y217 <| zc y221 <| zc y222 <| zc y223 <| zc y224 <| zc y225 <| zc y228 <| zc y232 <| zc y233 <| zc y237 <| zc y238 <| zc y243 <| zn
theorem zo8 : ZOk [(244, z244), (245, z245), (248, z248), (254, z254), (255, z255), (260, z260), (270, z270), (279, z279), (281, z281), (282, z282), (283, z283), (286, z286), (290, z290), (307, z307), (319, z319), (321, z321)] := zc y244 <| zc y245 <| zc y248 <| zc y254 <| zc y255 <| zc y260 <| zc y270 <| zc y279 <| zc y281 <| zc y282 <| zc y283 <| zc y286 <| zc y290 <| zc y307 <| zc y319 <| zc y321 <| zn
theorem za {l m : List (Nat × KF)} (h : ZOk l) (k : ZOk m) : ZOk (l ++ m) := fun p q => (List.mem_append.1 q).elim (h p) (k p)
theorem kt_ok : KOk Go.Proofs.Tryz.prog kt := by
  refine mkT_ok (fun p hp => Nat.le_of_ble_eq_true (List.all_eq_true.1 zL_lt p hp)) ?_
  exact za zo0 <| za zo1 <| za zo2 <| za zo3 <| za zo4 <| za zo5 <| za zo6 <| za zo7 <| za zo8 <| zn
end
end Ev
end Go.Proofs.YtcchekmejnhlmaaGreat
