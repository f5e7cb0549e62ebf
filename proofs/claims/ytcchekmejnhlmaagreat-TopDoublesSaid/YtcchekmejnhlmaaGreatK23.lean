/- Joined texts. -/
import Derived.Test.YtcchekmejnhlmaaGreatK18
import Derived.KernelRfl
namespace Go.Proofs.YtcchekmejnhlmaaGreat
set_option linter.unusedVariables false
set_option maxHeartbeats 4000000
section
namespace Db
open Ev
noncomputable section
set_option maxRecDepth 1000000
theorem q258:RcI 1 19 78 20 [80,72,73]:=rci (l:=[0,4133]++rg 2 8++[4222,4514,4224,4236,4140,4170,4239]++rg 4535 4) (by kernel_rfl) rfl rfl (by decide)
theorem q259:RcI 1 19 75 19 []:=rci (l:=rg 0 21) (by kernel_rfl) rfl rfl (by decide)
theorem q260:RcI 2 18 79 18 [81]:=rci (l:=[0,4053]++rg 2 9++[4051,12,13,4049,15,16]++rg 4112 4) (by kernel_rfl) rfl rfl (by decide)
theorem q261:RcI 2 19 79 19 [81]:=rci (l:=[0,4053]++rg 2 9++[4051,12,13,4049,15,16]++rg 4112 4) (by kernel_rfl) rfl rfl (by decide)
theorem q262:RcI 2 15 73 20 []:=rci (l:=rg 0 21) (by kernel_rfl) rfl rfl (by decide)
theorem q263:RcI 2 20 79 19 [81,74,75]:=rci (l:=[0,4133]++rg 2 8++[4222,4514,4224,4236,4140,4170,4239]++rg 4535 4) (by kernel_rfl) rfl rfl (by decide)
theorem q264:RcI 2 20 73 20 []:=rci (l:=rg 0 21) (by kernel_rfl) rfl rfl (by decide)
theorem q265:RcI 0 46 77 46 []:=rci (l:=rg 0 24) (by kernel_rfl) rfl rfl (by decide)
theorem q266:RcI 0 48 77 48 []:=rci (l:=rg 0 13++[4086,14]++rg 4087 6++[21,22,23]) (by kernel_rfl) rfl rfl (by decide)
theorem q267:RcI 0 53 77 53 []:=rci (l:=rg 0 13++[4086,14]++rg 4087 6++[21,22,23]) (by kernel_rfl) rfl rfl (by decide)
theorem q268:RcI 0 55 77 55 [82]:=rci (l:=rg 0 15++rg 4087 6++[21,22,23]) (by kernel_rfl) rfl rfl (by decide)
theorem q269:RcI 0 56 77 56 [82]:=rci (l:=rg 0 15++rg 4087 6++[21,22,23]) (by kernel_rfl) rfl rfl (by decide)
theorem q270:RcI 0 54 77 54 [82]:=rci (l:=rg 0 15++rg 4087 6++[21,22,23]) (by kernel_rfl) rfl rfl (by decide)
theorem q271:RcI 0 52 77 52 [82]:=rci (l:=rg 0 15++rg 4087 6++[21,22,23]) (by kernel_rfl) rfl rfl (by decide)
theorem q272:RcI 0 57 77 57 [82]:=rci (l:=rg 0 15++rg 4087 6++[21,22,23]) (by kernel_rfl) rfl rfl (by decide)
theorem q273:RcI 0 51 77 51 [82]:=rci (l:=rg 0 15++rg 4087 6++[21,22,23]) (by kernel_rfl) rfl rfl (by decide)
theorem q274:RcI 0 50 77 50 []:=rci (l:=rg 0 13++[4086,14]++rg 4087 6++[21,22,23]) (by kernel_rfl) rfl rfl (by decide)
theorem q275:RcI 0 59 77 59 [82]:=rci (l:=rg 0 15++rg 4087 6++[21,22,23]) (by kernel_rfl) rfl rfl (by decide)
theorem q276:RcI 0 60 77 60 [82]:=rci (l:=rg 0 15++rg 4087 6++[21,22,23]) (by kernel_rfl) rfl rfl (by decide)
theorem q277:RcI 0 58 77 58 [82]:=rci (l:=rg 0 15++rg 4087 6++[21,22,23]) (by kernel_rfl) rfl rfl (by decide)
theorem q278:RcI 0 47 77 47 [82]:=rci (l:=rg 0 25) (by kernel_rfl) rfl rfl (by decide)
theorem q279:RcI 0 61 77 61 [82]:=rci (l:=rg 0 25) (by kernel_rfl) rfl rfl (by decide)
theorem q280:RcI 0 49 77 49 [82]:=rci (l:=rg 0 25) (by kernel_rfl) rfl rfl (by decide)
theorem q281:BtI 56 56 [83,84,68,69]:=bti (l:=[0,4044]++rg 2 9++[4042,12,13,14]++rg 4135 6++[21,22,4040]) (by kernel_rfl) rfl rfl
end
end Db
end
section
namespace Db
open Ev
noncomputable section
set_option maxRecDepth 1000000
theorem q282:RcI 1 20 83 21 []:=rci (l:=[0,4052]++rg 2 9++[4050,12,13,4048,4072,16,4078,4122,4123,4124]) (by kernel_rfl) rfl rfl (by decide)
theorem q283:RcI 2 19 84 21 []:=rci (l:=[0,4052]++rg 2 9++[4050,12,13,4048,4072,16,4078,4122,4123,4124]) (by kernel_rfl) rfl rfl (by decide)
theorem q284:RcI 1 21 68 21 []:=rci (l:=rg 0 18++[4077,4078,4079]) (by kernel_rfl) rfl rfl (by decide)
theorem q285:RcI 2 21 69 21 []:=rci (l:=rg 0 18++[4077,4078,4079]) (by kernel_rfl) rfl rfl (by decide)
theorem q286:RcI 0 56 20 62 [21,22]:=rci (l:=rg 0 15++[4070]++rg 4110 5++[21,22,23]) (by kernel_rfl) rfl rfl (by decide)
theorem q287:RcI 1 21 21 21 [23]:=rci (l:=rg 0 18++[4082,4083,4084]) (by kernel_rfl) rfl rfl (by decide)
theorem q288:RcI 2 21 22 21 [24]:=rci (l:=rg 0 18++[4082,4083,4084]) (by kernel_rfl) rfl rfl (by decide)
theorem q289:RcI 0 62 23 63 [85]:=rci (l:=rg 0 15++rg 4189 6++[21,22,23]) (by kernel_rfl) rfl rfl (by decide)
theorem q290:RcI 0 63 24 63 []:=rci (l:=rg 0 15++rg 4077 6++[21,22,23]) (by kernel_rfl) rfl rfl (by decide)
theorem q291:BtI 63 63 [83,84,68,69]:=bti (l:=[0,4044]++rg 2 9++[4042,12,13,14]++rg 4135 6++[21,22,4040]) (by kernel_rfl) rfl rfl
theorem q292:RcI 0 56 86 64 [87,88]:=rci (l:=[0,4062]++rg 2 9++[4070,12,13,14,4072]++rg 4150 5++[21,22,4058]) (by kernel_rfl) rfl rfl (by decide)
theorem q293:RcI 2 19 88 22 [89]:=rci (l:=[0,4053]++rg 2 9++[4060,12,13,4049,4090,16,4062,4096,4154,4155]) (by kernel_rfl) rfl rfl (by decide)
theorem q294:RcI 1 20 87 22 [90]:=rci (l:=[0,4053]++rg 2 9++[4060,12,13,4049,4090,16,4062,4096,4154,4155]) (by kernel_rfl) rfl rfl (by decide)
theorem q295:RcI 0 64 90 65 [91]:=rci (l:=[0,4066]++rg 2 9++[4062,12,13,4090,4064]++rg 4160 5++[21,22,4056]) (by kernel_rfl) rfl rfl (by decide)
theorem q296:RcI 0 65 89 66 []:=rci (l:=[0,4066]++rg 2 9++[4062,12,13,14,4064]++rg 4130 5++[21,22,4056]) (by kernel_rfl) rfl rfl (by decide)
theorem q297:RcI 0 66 89 66 []:=rci (l:=[0,4066]++rg 2 9++[4062,12,13,14,4064]++rg 4130 5++[21,22,4056]) (by kernel_rfl) rfl rfl (by decide)
theorem q298:RcI 2 22 88 22 [89]:=rci (l:=[0,4067]++rg 2 9++[4063,12,13,4057,15,16,4065,18,4138,4139]) (by kernel_rfl) rfl rfl (by decide)
theorem q299:RcI 0 65 90 65 []:=rci (l:=[0,4066]++rg 2 9++[4062,12,13,14,4064]++rg 4130 5++[21,22,4056]) (by kernel_rfl) rfl rfl (by decide)
theorem q300:RcI 0 66 90 66 []:=rci (l:=[0,4066]++rg 2 9++[4062,12,13,14,4064]++rg 4130 5++[21,22,4056]) (by kernel_rfl) rfl rfl (by decide)
theorem q301:RcI 0 64 89 67 [91]:=rci (l:=[0,4066]++rg 2 9++[4062,12,13,4090,4064]++rg 4160 5++[21,22,4056]) (by kernel_rfl) rfl rfl (by decide)
theorem q302:RcI 0 67 90 66 []:=rci (l:=[0,4066]++rg 2 9++[4062,12,13,14,4064]++rg 4130 5++[21,22,4056]) (by kernel_rfl) rfl rfl (by decide)
theorem q303:RcI 0 67 89 67 []:=rci (l:=[0,4066]++rg 2 9++[4062,12,13,14,4064]++rg 4130 5++[21,22,4056]) (by kernel_rfl) rfl rfl (by decide)
theorem q304:RcI 1 22 87 22 [90]:=rci (l:=[0,4067]++rg 2 9++[4063,12,13,4057,15,16,4065,18,4138,4139]) (by kernel_rfl) rfl rfl (by decide)
theorem q305:RcI 0 64 86 64 []:=rci (l:=rg 0 16++rg 4106 5++[21,22,23]) (by kernel_rfl) rfl rfl (by decide)
theorem q306:RcI 0 65 86 65 [91]:=rci (l:=rg 0 16++rg 4105 5++[21,22,23]) (by kernel_rfl) rfl rfl (by decide)
theorem q307:RcI 0 66 86 66 [91]:=rci (l:=rg 0 16++rg 4105 5++[21,22,23]) (by kernel_rfl) rfl rfl (by decide)
theorem q308:RcI 0 67 86 67 [91]:=rci (l:=rg 0 16++rg 4105 5++[21,22,23]) (by kernel_rfl) rfl rfl (by decide)
end
end Db
end
section
namespace Db
open Ev
noncomputable section
set_option maxRecDepth 1000000
theorem q309:BtI 66 66 [92,93,68,69]:=bti (l:=[0,4056]++rg 2 9++[4052,12,13,14,4054]++rg 4159 5++[21,22,4046]) (by kernel_rfl) rfl rfl
theorem q310:RcI 1 22 92 23 []:=rci (l:=[0,4066]++rg 2 9++[4062,12,13,4056,4086,16,4064,18,4152,4153]) (by kernel_rfl) rfl rfl (by decide)
theorem q311:RcI 2 22 93 23 []:=rci (l:=[0,4066]++rg 2 9++[4062,12,13,4056,4086,16,4064,18,4152,4153]) (by kernel_rfl) rfl rfl (by decide)
theorem q312:RcI 1 23 68 23 []:=rci (l:=rg 0 19++[4095,4096]) (by kernel_rfl) rfl rfl (by decide)
theorem q313:RcI 2 23 69 23 []:=rci (l:=rg 0 19++[4095,4096]) (by kernel_rfl) rfl rfl (by decide)
theorem q314:RcI 0 66 20 68 [21,22]:=rci (l:=rg 0 16++[4076]++rg 4128 4++[21,22,23]) (by kernel_rfl) rfl rfl (by decide)
theorem q315:RcI 1 23 21 23 [23]:=rci (l:=rg 0 19++[4100,4101]) (by kernel_rfl) rfl rfl (by decide)
theorem q316:RcI 2 23 22 23 [24]:=rci (l:=rg 0 19++[4100,4101]) (by kernel_rfl) rfl rfl (by decide)
theorem q317:RcI 0 68 23 69 [94]:=rci (l:=rg 0 16++rg 4231 5++[21,22,23]) (by kernel_rfl) rfl rfl (by decide)
theorem q318:RcI 0 69 24 69 []:=rci (l:=rg 0 16++rg 4095 5++[21,22,23]) (by kernel_rfl) rfl rfl (by decide)
theorem q319:BtI 69 69 [92,93,68,69]:=bti (l:=[0,4056]++rg 2 9++[4052,12,13,14,4054]++rg 4159 5++[21,22,4046]) (by kernel_rfl) rfl rfl
end
end Db
end
end Go.Proofs.YtcchekmejnhlmaaGreat
