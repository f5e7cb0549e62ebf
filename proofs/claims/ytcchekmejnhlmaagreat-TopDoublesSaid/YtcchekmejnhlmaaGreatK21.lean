/- Joined texts. -/
import Derived.Test.YtcchekmejnhlmaaGreatK18
import Derived.KernelRfl
namespace Go.Proofs.YtcchekmejnhlmaaGreat
set_option linter.unusedVariables false
set_option maxHeartbeats 4000000
section
namespace Db
open Ev
noncomputable section
set_option maxRecDepth 1000000
theorem q109:RcI 1 10 21 10 [23]:=rci (l:=rg 0 19) (by kernel_rfl) rfl rfl (by decide)
theorem q110:RcI 2 10 22 10 [24]:=rci (l:=rg 0 19) (by kernel_rfl) rfl rfl (by decide)
theorem q111:RcI 0 29 23 30 [52]:=rci (l:=rg 0 19++[4318]) (by kernel_rfl) rfl rfl (by decide)
theorem q112:RcI 0 30 24 30 []:=rci (l:=rg 0 19++[4141]) (by kernel_rfl) rfl rfl (by decide)
theorem q113:BtI 30 30 [50,51]:=bti (l:=[0,4098]++rg 2 9++[4070,12,4096,14,4076,4082,4088,4094,4205]) (by kernel_rfl) rfl rfl
theorem q114:RcI 0 28 53 31 [54,55]:=rci (l:=[0,4116]++rg 2 9++[4088,12,4126,14,4094,4100,4106,4112,4124]) (by kernel_rfl) rfl rfl (by decide)
theorem q115:RcI 1 9 54 11 [56]:=rci (l:=[0,4109]++rg 2 9++[4081,12,4118,4087,4146,4093,4099,4105,4116]) (by kernel_rfl) rfl rfl (by decide)
theorem q116:RcI 2 9 55 11 [57]:=rci (l:=[0,4109]++rg 2 9++[4081,12,4118,4087,4146,4093,4099,4105,4116]) (by kernel_rfl) rfl rfl (by decide)
theorem q117:RcI 0 31 57 32 [58]:=rci (l:=[0,4120]++rg 2 9++[4086,12,4118,4144,4092,4098,4104,4110,4116]) (by kernel_rfl) rfl rfl (by decide)
theorem q118:RcI 0 31 56 33 [58]:=rci (l:=[0,4120]++rg 2 9++[4086,12,4118,4144,4092,4098,4104,4110,4116]) (by kernel_rfl) rfl rfl (by decide)
theorem q119:RcI 0 32 56 34 []:=rci (l:=[0,4120]++rg 2 9++[4086,12,4118,14,4092,4098,4104,4110,4116]) (by kernel_rfl) rfl rfl (by decide)
theorem q120:RcI 0 34 56 34 []:=rci (l:=[0,4120]++rg 2 9++[4086,12,4118,14,4092,4098,4104,4110,4116]) (by kernel_rfl) rfl rfl (by decide)
theorem q121:RcI 0 32 57 32 []:=rci (l:=[0,4120]++rg 2 9++[4086,12,4118,14,4092,4098,4104,4110,4116]) (by kernel_rfl) rfl rfl (by decide)
theorem q122:RcI 0 34 57 34 []:=rci (l:=[0,4120]++rg 2 9++[4086,12,4118,14,4092,4098,4104,4110,4116]) (by kernel_rfl) rfl rfl (by decide)
theorem q123:RcI 0 33 57 34 []:=rci (l:=[0,4120]++rg 2 9++[4086,12,4118,14,4092,4098,4104,4110,4116]) (by kernel_rfl) rfl rfl (by decide)
theorem q124:RcI 0 33 56 33 []:=rci (l:=[0,4120]++rg 2 9++[4086,12,4118,14,4092,4098,4104,4110,4116]) (by kernel_rfl) rfl rfl (by decide)
theorem q125:RcI 1 11 54 11 [56]:=rci (l:=[0,4121]++rg 2 9++[4087,12,4119,4093,15,4099,4105,4111,4117]) (by kernel_rfl) rfl rfl (by decide)
theorem q126:RcI 2 11 55 11 [57]:=rci (l:=[0,4121]++rg 2 9++[4087,12,4119,4093,15,4099,4105,4111,4117]) (by kernel_rfl) rfl rfl (by decide)
theorem q127:RcI 0 31 53 31 []:=rci (l:=rg 0 20) (by kernel_rfl) rfl rfl (by decide)
theorem q128:RcI 0 32 53 32 [58]:=rci (l:=rg 0 20) (by kernel_rfl) rfl rfl (by decide)
theorem q129:RcI 0 34 53 34 [58]:=rci (l:=rg 0 20) (by kernel_rfl) rfl rfl (by decide)
theorem q130:RcI 0 33 53 33 [58]:=rci (l:=rg 0 20) (by kernel_rfl) rfl rfl (by decide)
theorem q131:BtI 34 34 [59,60]:=bti (l:=[0,4110]++rg 2 9++[4076,12,4108,14,4082,4088,4094,4100,4106]) (by kernel_rfl) rfl rfl
end
end Db
end
section
namespace Db
open Ev
noncomputable section
set_option maxRecDepth 1000000
theorem q132:RcI 1 11 59 12 []:=rci (l:=[0,4120]++rg 2 9++[4086,12,4118,4092,4140,4098,4104,4110,4116]) (by kernel_rfl) rfl rfl (by decide)
theorem q133:RcI 2 11 60 12 []:=rci (l:=[0,4120]++rg 2 9++[4086,12,4118,4092,4140,4098,4104,4110,4116]) (by kernel_rfl) rfl rfl (by decide)
theorem q134:RcI 0 34 20 35 [21,22]:=rci (l:=rg 0 20++[4101]) (by kernel_rfl) rfl rfl (by decide)
theorem q135:RcI 1 12 21 12 [23]:=rci (l:=rg 0 20) (by kernel_rfl) rfl rfl (by decide)
theorem q136:RcI 2 12 22 12 [24]:=rci (l:=rg 0 20) (by kernel_rfl) rfl rfl (by decide)
theorem q137:RcI 0 35 23 36 [61]:=rci (l:=rg 0 20++[4363]) (by kernel_rfl) rfl rfl (by decide)
theorem q138:RcI 0 36 24 36 []:=rci (l:=rg 0 20++[4159]) (by kernel_rfl) rfl rfl (by decide)
theorem q139:BtI 36 36 [59,60]:=bti (l:=[0,4110]++rg 2 9++[4076,12,4108,14,4082,4088,4094,4100,4106,4229]) (by kernel_rfl) rfl rfl
theorem q140:RcI 0 34 62 37 [63,64]:=rci (l:=[0,4128]++rg 2 9++[4094,12,4138,14,4100,4106,4112,4118,4124,4136]) (by kernel_rfl) rfl rfl (by decide)
theorem q141:RcI 2 11 64 13 [65]:=rci (l:=[0,4121]++rg 2 9++[4087,12,4130,4093,4158,4099,4105,4111,4117,4128]) (by kernel_rfl) rfl rfl (by decide)
theorem q142:RcI 1 11 63 13 [66]:=rci (l:=[0,4121]++rg 2 9++[4087,12,4130,4093,4158,4099,4105,4111,4117,4128]) (by kernel_rfl) rfl rfl (by decide)
theorem q143:RcI 0 37 66 38 [67,68,69]:=rci (l:=[0,4132]++rg 2 8++[4208,4092,4210,4130,4156,4098,4104,4110,4116,4122,4128,4225,4228]) (by kernel_rfl) rfl rfl (by decide)
theorem q144:RcI 1 13 68 14 []:=rci (l:=rg 0 21) (by kernel_rfl) rfl rfl (by decide)
theorem q145:RcI 2 11 69 14 []:=rci (l:=rg 0 20) (by kernel_rfl) rfl rfl (by decide)
theorem q146:RcI 2 14 64 15 [65]:=rci (l:=[0,4121]++rg 2 9++[4087,12,4130,4093,4158,4099,4105,4111,4117,4128]) (by kernel_rfl) rfl rfl (by decide)
theorem q147:RcI 0 38 65 39 []:=rci (l:=[0,4134]++rg 2 9++[4094,12,4132,14,4100,4106,4112,4118,4124,4130,21,22]) (by kernel_rfl) rfl rfl (by decide)
theorem q148:RcI 0 39 65 39 []:=rci (l:=[0,4134]++rg 2 9++[4094,12,4132,14,4100,4106,4112,4118,4124,4130,21,22]) (by kernel_rfl) rfl rfl (by decide)
theorem q149:RcI 2 15 64 15 [65]:=rci (l:=[0,4133]++rg 2 9++[4093,12,4131,4099,15,4105,4111,4117,4123,4129]) (by kernel_rfl) rfl rfl (by decide)
theorem q150:RcI 1 14 68 14 []:=rci (l:=rg 0 21) (by kernel_rfl) rfl rfl (by decide)
theorem q151:RcI 2 14 69 14 []:=rci (l:=rg 0 20) (by kernel_rfl) rfl rfl (by decide)
theorem q152:RcI 2 15 69 15 []:=rci (l:=rg 0 21) (by kernel_rfl) rfl rfl (by decide)
end
end Db
end
section
namespace Db
open Ev
noncomputable section
set_option maxRecDepth 1000000
theorem q153:RcI 2 13 69 15 []:=rci (l:=rg 0 21) (by kernel_rfl) rfl rfl (by decide)
theorem q154:RcI 2 13 64 13 [65]:=rci (l:=[0,4133]++rg 2 9++[4093,12,4131,4099,15,4105,4111,4117,4123,4129]) (by kernel_rfl) rfl rfl (by decide)
theorem q155:RcI 0 38 66 38 []:=rci (l:=[0,4134]++rg 2 9++[4094,12,4132,14,4100,4106,4112,4118,4124,4130,21,22]) (by kernel_rfl) rfl rfl (by decide)
theorem q156:RcI 0 39 66 39 []:=rci (l:=[0,4134]++rg 2 9++[4094,12,4132,14,4100,4106,4112,4118,4124,4130,21,22]) (by kernel_rfl) rfl rfl (by decide)
theorem q157:RcI 0 37 65 40 [67,68,69]:=rci (l:=[0,4132]++rg 2 8++[4208,4092,4210,4130,4156,4098,4104,4110,4116,4122,4128,4225,4228]) (by kernel_rfl) rfl rfl (by decide)
theorem q158:RcI 0 40 66 39 []:=rci (l:=[0,4134]++rg 2 9++[4094,12,4132,14,4100,4106,4112,4118,4124,4130,21,22]) (by kernel_rfl) rfl rfl (by decide)
theorem q159:RcI 0 40 65 40 []:=rci (l:=[0,4134]++rg 2 9++[4094,12,4132,14,4100,4106,4112,4118,4124,4130,21,22]) (by kernel_rfl) rfl rfl (by decide)
theorem q160:RcI 1 13 63 13 [66]:=rci (l:=[0,4133]++rg 2 9++[4093,12,4131,4099,15,4105,4111,4117,4123,4129]) (by kernel_rfl) rfl rfl (by decide)
theorem q161:RcI 1 14 63 14 [66]:=rci (l:=[0,4133]++rg 2 9++[4093,12,4131,4099,15,4105,4111,4117,4123,4129]) (by kernel_rfl) rfl rfl (by decide)
theorem q162:RcI 1 11 68 15 []:=rci (l:=rg 0 20) (by kernel_rfl) rfl rfl (by decide)
theorem q163:RcI 1 15 63 14 [66]:=rci (l:=[0,4121]++rg 2 9++[4087,12,4130,4093,4158,4099,4105,4111,4117,4128]) (by kernel_rfl) rfl rfl (by decide)
theorem q164:RcI 1 15 68 15 []:=rci (l:=rg 0 20) (by kernel_rfl) rfl rfl (by decide)
theorem q165:RcI 0 37 62 37 []:=rci (l:=rg 0 21) (by kernel_rfl) rfl rfl (by decide)
theorem q166:RcI 0 38 62 38 [67]:=rci (l:=rg 0 23) (by kernel_rfl) rfl rfl (by decide)
theorem q167:RcI 0 39 62 39 [67]:=rci (l:=rg 0 23) (by kernel_rfl) rfl rfl (by decide)
theorem q168:RcI 0 40 62 40 [67]:=rci (l:=rg 0 23) (by kernel_rfl) rfl rfl (by decide)
theorem q169:BtI 39 39 [70,71,68,69]:=bti (l:=[0,4124]++rg 2 9++[4084,12,4122,14,4090,4096,4102,4108,4114,4120,21,22]) (by kernel_rfl) rfl rfl
theorem q170:RcI 1 14 70 16 [72,73]:=rci (l:=[0,4132]++rg 2 8++[4204,4206,4218,4221,4495,4152]++rg 4504 5) (by kernel_rfl) rfl rfl (by decide)
end
end Db
end
section
namespace Db
open Ev
noncomputable section
set_option maxRecDepth 1000000
theorem q171:RcI 2 15 71 16 [74,75]:=rci (l:=[0,4132]++rg 2 8++[4204,4206,4218,4221,4495,4152]++rg 4504 5) (by kernel_rfl) rfl rfl (by decide)
theorem q172:RcI 1 16 68 16 []:=rci (l:=rg 0 16++rg 4057 5) (by kernel_rfl) rfl rfl (by decide)
theorem q173:RcI 2 16 69 16 []:=rci (l:=rg 0 16++rg 4057 5) (by kernel_rfl) rfl rfl (by decide)
theorem q174:RcI 0 39 72 41 []:=rci (l:=rg 0 11++[4344,12,4352,14]++rg 4353 6++[21,22]) (by kernel_rfl) rfl rfl (by decide)
theorem q175:RcI 2 16 73 17 []:=rci (l:=rg 0 16++rg 4057 5) (by kernel_rfl) rfl rfl (by decide)
theorem q176:RcI 0 41 74 42 []:=rci (l:=rg 0 13++[4057,14]++rg 4058 6++[21,22]) (by kernel_rfl) rfl rfl (by decide)
theorem q177:RcI 1 16 75 17 []:=rci (l:=rg 0 16++rg 4057 5) (by kernel_rfl) rfl rfl (by decide)
theorem q178:RcI 0 42 20 43 [21,22]:=rci (l:=rg 0 13++[4062,14]++rg 4090 6++[21,22]) (by kernel_rfl) rfl rfl (by decide)
theorem q179:RcI 1 17 21 17 [23]:=rci (l:=rg 0 16++rg 4062 5) (by kernel_rfl) rfl rfl (by decide)
theorem q180:RcI 2 17 22 17 [24]:=rci (l:=rg 0 16++rg 4062 5) (by kernel_rfl) rfl rfl (by decide)
theorem q181:RcI 0 43 23 44 [76]:=rci (l:=rg 0 13++[4147,14]++rg 4148 6++[21,22]) (by kernel_rfl) rfl rfl (by decide)
theorem q182:RcI 0 44 24 44 []:=rci (l:=rg 0 13++[4057,14]++rg 4058 6++[21,22]) (by kernel_rfl) rfl rfl (by decide)
theorem q183:BtI 44 45 [70,71,68,69]:=bti (l:=[0,4030]++rg 2 9++[4109,12,4110,14]++rg 4111 6++[21,22]) (by kernel_rfl) rfl rfl
theorem q184:RcI 0 39 77 46 [78,79]:=rci (l:=[0,4142]++rg 2 9++[4102,12,4152,14,4108,4114,4120,4126,4132,4138,21,22,4150]) (by kernel_rfl) rfl rfl (by decide)
theorem q185:RcI 1 14 78 18 [80,72,73]:=rci (l:=[0,4133]++rg 2 8++[4222,4514,4224,4236,4140,4170,4239]++rg 4535 4) (by kernel_rfl) rfl rfl (by decide)
theorem q186:RcI 2 15 79 18 [81,74,75]:=rci (l:=[0,4133]++rg 2 8++[4222,4514,4224,4236,4140,4170,4239]++rg 4535 4) (by kernel_rfl) rfl rfl (by decide)
theorem q187:RcI 0 46 81 47 [82]:=rci (l:=[0,4146]++rg 2 9++[4100,12,4144,4170,4106,4112,4118,4124,4130,4136,21,22,4142,4176]) (by kernel_rfl) rfl rfl (by decide)
end
end Db
end
end Go.Proofs.YtcchekmejnhlmaaGreat
