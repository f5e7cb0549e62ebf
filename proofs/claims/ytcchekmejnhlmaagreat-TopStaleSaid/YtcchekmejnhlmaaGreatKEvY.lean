/- The table of made functions is so. -/
import Derived.Test.YtcchekmejnhlmaaGreatKEvY1
import Derived.Test.YtcchekmejnhlmaaGreatKEvY2
import Derived.Test.YtcchekmejnhlmaaGreatKEvY3
import Derived.Test.YtcchekmejnhlmaaGreatKEvY4
namespace Go.Proofs.YtcchekmejnhlmaaGreat
namespace Ev
noncomputable section
open Go
set_option maxRecDepth 1000000
theorem zL_lt : zL.all (fun p => Nat.blt p.1 512) = true := by kernel_rfl
def ZOk (l : List (Nat × KF)) : Prop := ∀ p ∈ l, ∃ wt : WT, compF Go.Proofs.Tryz.prog wt p.1 = some p.2
theorem zn : ZOk [] := fun p h => by cases h
theorem zc {i : Nat} {f : KF} {l : List (Nat × KF)} (h : compF Go.Proofs.Tryz.prog wt i = some f) (k : ZOk l) : ZOk ((i, f) :: l) := fun p q => by
  rcases List.mem_cons.1 q with rfl | q
  · exact ⟨wt, h⟩
  · exact k p q
theorem zo0 : ZOk [(3, z3), (8, z8), (9, z9), (10, z10), (11, z11), (12, z12), (13, z13), (14, z14), (15, z15), (17, z17), (18, z18), (21, z21), (22, z22), (23, z23), (24, z24), (25, z25)] := zc y3 <| zc y8 <| zc y9 <| zc y10 <| zc y11 <| zc y12 <| zc y13 <| zc y14 <| zc y15 <| zc y17 <| zc y18 <| zc y21 <| zc y22 <| zc y23 <| zc y24 <| zc y25 <| zn
theorem zo1 : ZOk [(26, z26), (28, z28), (29, z29), (32, z32), (33, z33), (36, z36), (37, z37), (40, z40), (41, z41), (42, z42), (43, z43), (44, z44), (48, z48), (49, z49), (50, z50), (51, z51)] := zc y26 <| zc y28 <| zc y29 <| zc y32 <| zc y33 <| zc y36 <| zc y37 <| zc y40 <| zc y41 <| zc y42 <| zc y43 <| zc y44 <| zc y48 <| zc y49 <| zc y50 <| zc y51 <| zn
theorem zo2 : ZOk [(52, z52), (53, z53), (54, z54), (59, z59), (60, z60), (62, z62), (66, z66), (71, z71), (73, z73), (74, z74), (75, z75), (76, z76), (77, z77), (78, z78), (79, z79), (80, z80)] := zc y52 <| zc y53 <| zc y54 <| zc y59 <| zc y60 <| zc y62 <| zc y66 <| zc y71 <| zc y73 <| zc y74 <| zc y75 <| zc y76 <| zc y77 <| zc y78 <| zc y79 <| zc y80 <| zn
theorem zo3 : ZOk [(81, z81), (93, z93), (94, z94), (95, z95), (96, z96), (97, z97), (98, z98), (99, z99), (100, z100), (101, z101), (102, z102), (103, z103), (104, z104), (105, z105), (106, z106), (107, z107)] := zc y81 <| zc y93 <| zc y94 <| zc y95 <| zc y96 <| zc y97 <| zc y98 <| zc y99 <| zc y100 <| zc y101 <| zc y102 <| zc y103 <| zc y104 <| zc y105 <| zc y106 <| zc y107 <| zn
theorem zo4 : ZOk [(108, z108), (109, z109), (110, z110), (111, z111), (112, z112), (113, z113), (114, z114), (118, z118), (119, z119), (120, z120), (121, z121), (122, z122), (124, z124), (127, z127), (136, z136), (137, z137)] := zc y108 <| zc y109 <| zc y110 <| zc y111 <| zc y112 <| zc y113 <| zc y114 <| zc y118 <| zc y119 <| zc y120 <| zc y121 <| zc y122 <| zc y124 <| zc y127 <| zc y136 <| zc y137 <| zn
theorem zo5 : ZOk [(138, z138), (139, z139), (148, z148), (149, z149), (150, z150), (156, z156), (157, z157), (158, z158), (159, z159), (160, z160), (161, z161), (162, z162), (163, z163), (164, z164), (166, z166), (169, z169)] := zc y138 <| zc y139 <| zc y148 <| zc y149 <| zc y150 <| zc y156 <| zc y157 <| zc y158 <| zc y159 <| zc y160 <| zc y161 <| zc y162 <| zc y163 <| zc y164 <| zc y166 <| zc y169 <| zn
theorem zo6 : ZOk [(170, z170), (171, z171), (172, z172), (173, z173), (174, z174), (175, z175), (176, z176), (177, z177), (180, z180), (182, z182), (185, z185), (189, z189), (191, z191), (193, z193), (196, z196), (198, z198)] := zc y170 <| zc y171 <| zc y172 <| zc y173 <| zc y174 <| zc y175 <| zc y176 <| zc y177 <| zc y180 <| zc y182 <| zc y185 <| zc y189 <| zc y191 <| zc y193 <| zc y196 <| zc y198 <| zn
theorem zo7 : ZOk [(203, z203), (204, z204), (205, z205), (206, z206), (207, z207), (209, z209), (211, z211), (212, z212), (216, z216), (217, z217), (218, z218), (219, z219), (220, z220), (221, z221), (222, z222), (223, z223)] := zc y203 <| zc y204 <| zc y205 <| zc y206 <| zc y207 <| zc y209 <| zc y211 <| zc y212 <| zc y216 <| zc y217 <| zc y218 <| zc y219 <| zc y220 <| zc y221 <| zc y222 <| zc y223 <| zn
theorem zo8 : ZOk [(224, z224), (225, z225), (226, z226), (228, z228), (232, z232), (233, z233), (234, z234), (235, z235), (237, z237), (238, z238), (243, z243), (244, z244), (245, z245), (246, z246), (248, z248), (254, z254)] := zc y224 <| zc y225 <| zc y226 <| zc y228 <| zc y232 <| zc y233 <| zc y234 <| zc y235 <| zc y237 <| zc y238 <| zc y243 <| zc y244 <| zc y245 <| zc y246 <| zc y248 <| zc y254 <| zn
theorem zo9 : ZOk [(255, z255), (256, z256), (258, z258), (259, z259), (260, z260), (270, z270), (279, z279), (281, z281), (282, z282), (283, z283), (284, z284), (285, z285), (286, z286), (290, z290), (291, z291), (307, z307)] := zc y255 <| zc y256 <| zc y258 <| zc y259 <| zc y260 <| zc y270 <| zc y279 <| zc y281 <| zc y282 <| zc y283 <| zc y284 <| zc y285 <| zc y286 <| zc y290 <| zc y291 <| zc y307 <| zn
theorem zo10 : ZOk [(308, z308), (309, z309), (310, z310), (319, z319), (320, z320), (321, z321), (323, z323)] := zc y308 <| zc y309 <| zc y310 <| zc y319 <| zc y320 <| zc y321 <| zc y323 <| zn
theorem za {l m : List (Nat × KF)} (h : ZOk l) (k : ZOk m) : ZOk (l ++ m) := fun p q => (List.mem_append.1 q).elim (h p) (k p)
theorem kt_ok : KOk Go.Proofs.Tryz.prog kt := by
  refine mkT_ok (fun p hp => Nat.le_of_ble_eq_true (List.all_eq_true.1 zL_lt p hp)) ?_
  exact za zo0 <| za zo1 <| za zo2 <| za zo3 <| za zo4 <| za zo5 <| za zo6 <| za zo7 <| za zo8 <| za zo9 <| za zo10 <| zn
end
end Ev
end Go.Proofs.YtcchekmejnhlmaaGreat
