/- Joined texts. -/
import Derived.Test.YtcchekmejnhlmaaGreatK18
import Derived.KernelRfl
namespace Go.Proofs.YtcchekmejnhlmaaGreat
set_option linter.unusedVariables false
set_option maxHeartbeats 4000000
section
namespace Db
open Ev
noncomputable section
set_option maxRecDepth 1000000
theorem q188:RcI 0 46 74 48 []:=rci (l:=rg 0 11++[4351,12,4371,14]++rg 4372 6++[21,22,23]) (by kernel_rfl) rfl rfl (by decide)
theorem q189:RcI 1 14 75 19 []:=rci (l:=rg 0 21) (by kernel_rfl) rfl rfl (by decide)
theorem q190:RcI 0 46 80 49 [82]:=rci (l:=[0,4146]++rg 2 9++[4100,12,4144,4170,4106,4112,4118,4124,4130,4136,21,22,4142,4176]) (by kernel_rfl) rfl rfl (by decide)
theorem q191:RcI 0 46 72 50 []:=rci (l:=rg 0 11++[4351,12,4371,14]++rg 4372 6++[21,22,23]) (by kernel_rfl) rfl rfl (by decide)
theorem q192:RcI 2 18 73 19 []:=rci (l:=rg 0 17++rg 4075 4) (by kernel_rfl) rfl rfl (by decide)
theorem q193:RcI 1 18 75 20 []:=rci (l:=rg 0 17++rg 4075 4) (by kernel_rfl) rfl rfl (by decide)
theorem q194:RcI 0 48 80 51 [82]:=rci (l:=[0,4052]++rg 2 9++[4050,12,4082,4076]++rg 4130 6++[21,22,4048]) (by kernel_rfl) rfl rfl (by decide)
theorem q195:RcI 0 48 81 52 [82]:=rci (l:=[0,4052]++rg 2 9++[4050,12,4082,4076]++rg 4130 6++[21,22,4048]) (by kernel_rfl) rfl rfl (by decide)
theorem q196:RcI 0 48 72 53 []:=rci (l:=rg 0 13++[4075,14]++rg 4076 6++[21,22,23]) (by kernel_rfl) rfl rfl (by decide)
theorem q197:RcI 0 53 80 54 [82]:=rci (l:=[0,4052]++rg 2 9++[4050,12,4082,4076]++rg 4130 6++[21,22,4048]) (by kernel_rfl) rfl rfl (by decide)
theorem q198:RcI 0 53 81 55 [82]:=rci (l:=[0,4052]++rg 2 9++[4050,12,4082,4076]++rg 4130 6++[21,22,4048]) (by kernel_rfl) rfl rfl (by decide)
theorem q199:RcI 0 55 80 56 []:=rci (l:=[0,4054]++rg 2 9++[4052,12,13,14]++rg 4106 6++[21,22,4050]) (by kernel_rfl) rfl rfl (by decide)
theorem q200:RcI 0 56 80 56 []:=rci (l:=[0,4054]++rg 2 9++[4052,12,13,14]++rg 4106 6++[21,22,4050]) (by kernel_rfl) rfl rfl (by decide)
theorem q201:RcI 0 55 81 55 []:=rci (l:=[0,4054]++rg 2 9++[4052,12,13,14]++rg 4106 6++[21,22,4050]) (by kernel_rfl) rfl rfl (by decide)
theorem q202:RcI 0 56 81 56 []:=rci (l:=[0,4054]++rg 2 9++[4052,12,13,14]++rg 4106 6++[21,22,4050]) (by kernel_rfl) rfl rfl (by decide)
theorem q203:RcI 0 54 81 56 []:=rci (l:=[0,4054]++rg 2 9++[4052,12,13,14]++rg 4106 6++[21,22,4050]) (by kernel_rfl) rfl rfl (by decide)
theorem q204:RcI 0 54 80 54 []:=rci (l:=[0,4054]++rg 2 9++[4052,12,13,14]++rg 4106 6++[21,22,4050]) (by kernel_rfl) rfl rfl (by decide)
theorem q205:RcI 0 53 72 53 []:=rci (l:=rg 0 13++[4075,14]++rg 4076 6++[21,22,23]) (by kernel_rfl) rfl rfl (by decide)
theorem q206:RcI 0 55 72 55 []:=rci (l:=rg 0 15++rg 4077 6++[21,22,23]) (by kernel_rfl) rfl rfl (by decide)
theorem q207:RcI 0 56 72 56 []:=rci (l:=rg 0 15++rg 4077 6++[21,22,23]) (by kernel_rfl) rfl rfl (by decide)
theorem q208:RcI 0 54 72 54 []:=rci (l:=rg 0 15++rg 4077 6++[21,22,23]) (by kernel_rfl) rfl rfl (by decide)
theorem q209:RcI 0 52 80 57 []:=rci (l:=[0,4054]++rg 2 9++[4052,12,13,14]++rg 4106 6++[21,22,4050]) (by kernel_rfl) rfl rfl (by decide)
theorem q210:RcI 0 52 72 55 []:=rci (l:=rg 0 15++rg 4077 6++[21,22,23]) (by kernel_rfl) rfl rfl (by decide)
theorem q211:RcI 0 57 72 56 []:=rci (l:=rg 0 15++rg 4077 6++[21,22,23]) (by kernel_rfl) rfl rfl (by decide)
theorem q212:RcI 0 57 80 57 []:=rci (l:=[0,4054]++rg 2 9++[4052,12,13,14]++rg 4106 6++[21,22,4050]) (by kernel_rfl) rfl rfl (by decide)
theorem q213:RcI 0 52 81 52 []:=rci (l:=[0,4054]++rg 2 9++[4052,12,13,14]++rg 4106 6++[21,22,4050]) (by kernel_rfl) rfl rfl (by decide)
end
end Db
end
section
namespace Db
open Ev
noncomputable section
set_option maxRecDepth 1000000
theorem q214:RcI 0 57 81 57 []:=rci (l:=[0,4054]++rg 2 9++[4052,12,13,14]++rg 4106 6++[21,22,4050]) (by kernel_rfl) rfl rfl (by decide)
theorem q215:RcI 0 51 72 54 []:=rci (l:=rg 0 15++rg 4077 6++[21,22,23]) (by kernel_rfl) rfl rfl (by decide)
theorem q216:RcI 0 51 81 57 []:=rci (l:=[0,4054]++rg 2 9++[4052,12,13,14]++rg 4106 6++[21,22,4050]) (by kernel_rfl) rfl rfl (by decide)
theorem q217:RcI 0 51 80 51 []:=rci (l:=[0,4054]++rg 2 9++[4052,12,13,14]++rg 4106 6++[21,22,4050]) (by kernel_rfl) rfl rfl (by decide)
theorem q218:RcI 2 19 73 19 []:=rci (l:=rg 0 17++rg 4075 4) (by kernel_rfl) rfl rfl (by decide)
theorem q219:RcI 0 48 74 48 []:=rci (l:=rg 0 13++[4075,14]++rg 4076 6++[21,22,23]) (by kernel_rfl) rfl rfl (by decide)
theorem q220:RcI 0 53 74 53 []:=rci (l:=rg 0 13++[4075,14]++rg 4076 6++[21,22,23]) (by kernel_rfl) rfl rfl (by decide)
theorem q221:RcI 0 55 74 55 []:=rci (l:=rg 0 15++rg 4077 6++[21,22,23]) (by kernel_rfl) rfl rfl (by decide)
theorem q222:RcI 0 56 74 56 []:=rci (l:=rg 0 15++rg 4077 6++[21,22,23]) (by kernel_rfl) rfl rfl (by decide)
theorem q223:RcI 0 54 74 54 []:=rci (l:=rg 0 15++rg 4077 6++[21,22,23]) (by kernel_rfl) rfl rfl (by decide)
theorem q224:RcI 0 52 74 52 []:=rci (l:=rg 0 15++rg 4077 6++[21,22,23]) (by kernel_rfl) rfl rfl (by decide)
theorem q225:RcI 0 57 74 57 []:=rci (l:=rg 0 15++rg 4077 6++[21,22,23]) (by kernel_rfl) rfl rfl (by decide)
theorem q226:RcI 0 51 74 51 []:=rci (l:=rg 0 15++rg 4077 6++[21,22,23]) (by kernel_rfl) rfl rfl (by decide)
theorem q227:RcI 0 50 80 58 [82]:=rci (l:=[0,4052]++rg 2 9++[4050,12,4082,4076]++rg 4130 6++[21,22,4048]) (by kernel_rfl) rfl rfl (by decide)
theorem q228:RcI 0 50 81 59 [82]:=rci (l:=[0,4052]++rg 2 9++[4050,12,4082,4076]++rg 4130 6++[21,22,4048]) (by kernel_rfl) rfl rfl (by decide)
theorem q229:RcI 0 50 74 53 []:=rci (l:=rg 0 13++[4075,14]++rg 4076 6++[21,22,23]) (by kernel_rfl) rfl rfl (by decide)
theorem q230:RcI 0 59 80 60 []:=rci (l:=[0,4054]++rg 2 9++[4052,12,13,14]++rg 4106 6++[21,22,4050]) (by kernel_rfl) rfl rfl (by decide)
theorem q231:RcI 0 59 74 55 []:=rci (l:=rg 0 15++rg 4077 6++[21,22,23]) (by kernel_rfl) rfl rfl (by decide)
theorem q232:RcI 0 60 74 56 []:=rci (l:=rg 0 15++rg 4077 6++[21,22,23]) (by kernel_rfl) rfl rfl (by decide)
theorem q233:RcI 0 60 80 60 []:=rci (l:=[0,4054]++rg 2 9++[4052,12,13,14]++rg 4106 6++[21,22,4050]) (by kernel_rfl) rfl rfl (by decide)
theorem q234:RcI 0 59 81 59 []:=rci (l:=[0,4054]++rg 2 9++[4052,12,13,14]++rg 4106 6++[21,22,4050]) (by kernel_rfl) rfl rfl (by decide)
theorem q235:RcI 0 60 81 60 []:=rci (l:=[0,4054]++rg 2 9++[4052,12,13,14]++rg 4106 6++[21,22,4050]) (by kernel_rfl) rfl rfl (by decide)
theorem q236:RcI 0 58 81 60 []:=rci (l:=[0,4054]++rg 2 9++[4052,12,13,14]++rg 4106 6++[21,22,4050]) (by kernel_rfl) rfl rfl (by decide)
theorem q237:RcI 0 58 74 54 []:=rci (l:=rg 0 15++rg 4077 6++[21,22,23]) (by kernel_rfl) rfl rfl (by decide)
theorem q238:RcI 0 58 80 58 []:=rci (l:=[0,4054]++rg 2 9++[4052,12,13,14]++rg 4106 6++[21,22,4050]) (by kernel_rfl) rfl rfl (by decide)
theorem q239:RcI 0 50 72 50 []:=rci (l:=rg 0 13++[4075,14]++rg 4076 6++[21,22,23]) (by kernel_rfl) rfl rfl (by decide)
theorem q240:RcI 0 59 72 59 []:=rci (l:=rg 0 15++rg 4077 6++[21,22,23]) (by kernel_rfl) rfl rfl (by decide)
theorem q241:RcI 0 60 72 60 []:=rci (l:=rg 0 15++rg 4077 6++[21,22,23]) (by kernel_rfl) rfl rfl (by decide)
theorem q242:RcI 0 58 72 58 []:=rci (l:=rg 0 15++rg 4077 6++[21,22,23]) (by kernel_rfl) rfl rfl (by decide)
theorem q243:RcI 0 47 80 61 []:=rci (l:=[0,4148]++rg 2 9++[4102,12,4146,14,4108,4114,4120,4126,4132,4138,21,22,4144,24]) (by kernel_rfl) rfl rfl (by decide)
theorem q244:RcI 0 47 74 52 []:=rci (l:=rg 0 11++[4353,12,24,14]++rg 4373 6++[21,22,23]) (by kernel_rfl) rfl rfl (by decide)
end
end Db
end
section
namespace Db
open Ev
noncomputable section
set_option maxRecDepth 1000000
theorem q245:RcI 0 47 72 59 []:=rci (l:=rg 0 11++[4353,12,24,14]++rg 4373 6++[21,22,23]) (by kernel_rfl) rfl rfl (by decide)
theorem q246:RcI 0 61 72 60 []:=rci (l:=rg 0 11++[4353,12,24,14]++rg 4373 6++[21,22,23]) (by kernel_rfl) rfl rfl (by decide)
theorem q247:RcI 0 61 74 57 []:=rci (l:=rg 0 11++[4353,12,24,14]++rg 4373 6++[21,22,23]) (by kernel_rfl) rfl rfl (by decide)
theorem q248:RcI 0 61 80 61 []:=rci (l:=[0,4148]++rg 2 9++[4102,12,4146,14,4108,4114,4120,4126,4132,4138,21,22,4144,24]) (by kernel_rfl) rfl rfl (by decide)
theorem q249:RcI 0 47 81 47 []:=rci (l:=[0,4148]++rg 2 9++[4102,12,4146,14,4108,4114,4120,4126,4132,4138,21,22,4144,24]) (by kernel_rfl) rfl rfl (by decide)
theorem q250:RcI 0 61 81 61 []:=rci (l:=[0,4148]++rg 2 9++[4102,12,4146,14,4108,4114,4120,4126,4132,4138,21,22,4144,24]) (by kernel_rfl) rfl rfl (by decide)
theorem q251:RcI 0 49 72 58 []:=rci (l:=rg 0 11++[4353,12,24,14]++rg 4373 6++[21,22,23]) (by kernel_rfl) rfl rfl (by decide)
theorem q252:RcI 0 49 81 61 []:=rci (l:=[0,4148]++rg 2 9++[4102,12,4146,14,4108,4114,4120,4126,4132,4138,21,22,4144,24]) (by kernel_rfl) rfl rfl (by decide)
theorem q253:RcI 0 49 74 51 []:=rci (l:=rg 0 11++[4353,12,24,14]++rg 4373 6++[21,22,23]) (by kernel_rfl) rfl rfl (by decide)
theorem q254:RcI 0 49 80 49 []:=rci (l:=[0,4148]++rg 2 9++[4102,12,4146,14,4108,4114,4120,4126,4132,4138,21,22,4144,24]) (by kernel_rfl) rfl rfl (by decide)
theorem q255:RcI 1 20 75 20 []:=rci (l:=rg 0 17++rg 4075 4) (by kernel_rfl) rfl rfl (by decide)
theorem q256:RcI 1 18 78 18 [80]:=rci (l:=[0,4053]++rg 2 9++[4051,12,13,4049,15,16]++rg 4112 4) (by kernel_rfl) rfl rfl (by decide)
theorem q257:RcI 1 20 78 20 [80]:=rci (l:=[0,4053]++rg 2 9++[4051,12,13,4049,15,16]++rg 4112 4) (by kernel_rfl) rfl rfl (by decide)
end
end Db
end
end Go.Proofs.YtcchekmejnhlmaaGreat
