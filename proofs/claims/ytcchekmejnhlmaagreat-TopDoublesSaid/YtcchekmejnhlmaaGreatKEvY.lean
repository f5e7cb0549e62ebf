/- The table of made functions is so. -/
import Derived.Test.YtcchekmejnhlmaaGreatKEvY1
import Derived.Test.YtcchekmejnhlmaaGreatKEvY2
import Derived.Test.YtcchekmejnhlmaaGreatKEvY3
import Derived.Test.YtcchekmejnhlmaaGreatKEvY4
namespace Go.Proofs.YtcchekmejnhlmaaGreat
namespace Ev
noncomputable section
open Go
set_option maxRecDepth 1000000
theorem zL_lt:zL.all (fun p=>Nat.blt p.1 512)=true:=by kernel_rfl
def ZOk (l:List (Nat×KF)):Prop:=∀ p∈l,∃ wt:WT,jac Go.Proofs.Tryz.prog wt p.1=some p.2
theorem zn:ZOk []:=fun p h=>by cases h
theorem zc {i:Nat} {f:KF} {l:List (Nat×KF)} (h:jac Go.Proofs.Tryz.prog wt i=some f) (k:ZOk l):ZOk ((i,f)::l):=fun p q=>by
 rcases List.mem_cons.1 q with rfl | q
 ·exact ⟨wt,h⟩
 ·exact k p q
theorem zo0:ZOk [(8,z8),(9,z9),(11,z11),(14,z14),(15,z15),(17,z17),(18,z18),(21,z21),(24,z24),(25,z25),(28,z28),(30,z30),(32,z32),(33,z33),(36,z36),(37,z37)]:=zc y8 <| zc y9 <| zc y11 <| zc y14 <| zc y15 <| zc y17 <| zc y18 <| zc y21 <| zc y24 <| zc y25 <| zc y28 <| zc y30 <| zc y32 <| zc y33 <| zc y36 <| zc y37 <| zn
theorem zo1:ZOk [(40,z40),(41,z41),(42,z42),(43,z43),(44,z44),(48,z48),(49,z49),(50,z50),(51,z51),(52,z52),(55,z55),(56,z56),(57,z57),(58,z58),(59,z59),(60,z60)]:=zc y40 <| zc y41 <| zc y42 <| zc y43 <| zc y44 <| zc y48 <| zc y49 <| zc y50 <| zc y51 <| zc y52 <| zc y55 <| zc y56 <| zc y57 <| zc y58 <| zc y59 <| zc y60 <| zn
theorem zo2:ZOk [(61,z61),(62,z62),(63,z63),(66,z66),(69,z69),(71,z71),(73,z73),(74,z74),(75,z75),(76,z76),(77,z77),(78,z78),(79,z79),(80,z80),(81,z81),(85,z85)]:=zc y61 <| zc y62 <| zc y63 <| zc y66 <| zc y69 <| zc y71 <| zc y73 <| zc y74 <| zc y75 <| zc y76 <| zc y77 <| zc y78 <| zc y79 <| zc y80 <| zc y81 <| zc y85 <| zn
theorem zo3:ZOk [(88,z88),(89,z89),(92,z92),(93,z93),(94,z94),(95,z95),(96,z96),(97,z97),(98,z98),(99,z99),(100,z100),(101,z101),(102,z102),(103,z103),(104,z104),(107,z107)]:=zc y88 <| zc y89 <| zc y92 <| zc y93 <| zc y94 <| zc y95 <| zc y96 <| zc y97 <| zc y98 <| zc y99 <| zc y100 <| zc y101 <| zc y102 <| zc y103 <| zc y104 <| zc y107 <| zn
theorem zo4:ZOk [(108,z108),(109,z109),(111,z111),(112,z112),(113,z113),(116,z116),(118,z118),(119,z119),(120,z120),(121,z121),(122,z122),(124,z124),(127,z127),(129,z129),(131,z131),(136,z136)]:=zc y108 <| zc y109 <| zc y111 <| zc y112 <| zc y113 <| zc y116 <| zc y118 <| zc y119 <| zc y120 <| zc y121 <| zc y122 <| zc y124 <| zc y127 <| zc y129 <| zc y131 <| zc y136 <| zn
theorem zo5:ZOk [(137,z137),(138,z138),(139,z139),(143,z143),(145,z145),(146,z146),(148,z148),(149,z149),(150,z150),(151,z151),(155,z155),(156,z156),(157,z157),(158,z158),(159,z159),(160,z160)]:=zc y137 <| zc y138 <| zc y139 <| zc y143 <| zc y145 <| zc y146 <| zc y148 <| zc y149 <| zc y150 <| zc y151 <| zc y155 <| zc y156 <| zc y157 <| zc y158 <| zc y159 <| zc y160 <| zn
theorem zo6:ZOk [(161,z161),(162,z162),(163,z163),(164,z164),(165,z165),(166,z166),(169,z169),(170,z170),(171,z171),(174,z174),(177,z177),(178,z178),(180,z180),(182,z182),(183,z183),(185,z185)]:=zc y161 <| zc y162 <| zc y163 <| zc y164 <| zc y165 <| zc y166 <| zc y169 <| zc y170 <| zc y171 <| zc y174 <| zc y177 <| zc y178 <| zc y180 <| zc y182 <| zc y183 <| zc y185 <| zn
theorem zo7:ZOk [(187,z187),(188,z188),(189,z189),(190,z190),(191,z191),(193,z193),(196,z196),(197,z197),(198,z198),(199,z199),(201,z201),(202,z202),(203,z203),(204,z204),(205,z205),(206,z206)]:=zc y187 <| zc y188 <| zc y189 <| zc y190 <| zc y191 <| zc y193 <| zc y196 <| zc y197 <| zc y198 <| zc y199 <| zc y201 <| zc y202 <| zc y203 <| zc y204 <| zc y205 <| zc y206 <| zn
theorem zo8:ZOk [(207,z207),(209,z209),(210,z210),(211,z211),(212,z212),(215,z215),(216,z216),(217,z217),(221,z221),(222,z222),(223,z223),(224,z224),(225,z225),(226,z226),(227,z227),(228,z228)]:=zc y207 <| zc y209 <| zc y210 <| zc y211 <| zc y212 <| zc y215 <| zc y216 <| zc y217 <| zc y221 <| zc y222 <| zc y223 <| zc y224 <| zc y225 <| zc y226 <| zc y227 <| zc y228 <| zn
theorem zo9:ZOk [(229,z229),(230,z230),(231,z231),(232,z232),(233,z233),(237,z237),(238,z238),(241,z241),(243,z243),(244,z244),(245,z245),(246,z246),(247,z247),(248,z248),(254,z254),(255,z255)]:=zc y229 <| zc y230 <| zc y231 <| zc y232 <| zc y233 <| zc y237 <| zc y238 <| zc y241 <| zc y243 <| zc y244 <| zc y245 <| zc y246 <| zc y247 <| zc y248 <| zc y254 <| zc y255 <| zn
theorem zo10:ZOk [(258,z258),(260,z260),(261,z261),(262,z262),(263,z263),(265,z265),(267,z267),(268,z268),(270,z270),(279,z279),(280,z280),(281,z281),(282,z282),(283,z283),(284,z284),(285,z285)]:=zc y258 <| zc y260 <| zc y261 <| zc y262 <| zc y263 <| zc y265 <| zc y267 <| zc y268 <| zc y270 <| zc y279 <| zc y280 <| zc y281 <| zc y282 <| zc y283 <| zc y284 <| zc y285 <| zn
theorem zo11:ZOk [(286,z286),(290,z290),(291,z291),(292,z292),(293,z293),(294,z294),(296,z296),(307,z307),(308,z308),(309,z309),(310,z310),(311,z311),(314,z314),(319,z319),(321,z321),(323,z323)]:=zc y286 <| zc y290 <| zc y291 <| zc y292 <| zc y293 <| zc y294 <| zc y296 <| zc y307 <| zc y308 <| zc y309 <| zc y310 <| zc y311 <| zc y314 <| zc y319 <| zc y321 <| zc y323 <| zn
theorem zo12:ZOk [(329,z329),(336,z336),(337,z337),(343,z343),(346,z346)]:=zc y329 <| zc y336 <| zc y337 <| zc y343 <| zc y346 <| zn
theorem za {l m:List (Nat×KF)} (h:ZOk l) (k:ZOk m):ZOk (l++m):=fun p q=>(List.mem_append.1 q).elim (h p) (k p)
theorem kt_ok:KOk Go.Proofs.Tryz.prog kt:=by
 refine mkT_ok (fun p hp=>Nat.le_of_ble_eq_true (List.all_eq_true.1 zL_lt p hp)) ?_
 exact za zo0 <| za zo1 <| za zo2 <| za zo3 <| za zo4 <| za zo5 <| za zo6 <| za zo7 <| za zo8 <| za zo9 <| za zo10 <| za zo11 <| za zo12 <| zn
end
end Ev
end Go.Proofs.YtcchekmejnhlmaaGreat
