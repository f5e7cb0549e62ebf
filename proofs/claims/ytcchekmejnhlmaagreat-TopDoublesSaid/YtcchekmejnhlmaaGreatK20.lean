/- Joined texts. -/
import Derived.Test.YtcchekmejnhlmaaGreatK18
import Derived.KernelRfl
namespace Go.Proofs.YtcchekmejnhlmaaGreat
set_option linter.unusedVariables false
set_option maxHeartbeats 4000000
section
namespace Db
open Ev
noncomputable section
set_option maxRecDepth 1000000
theorem q0:RcI 0 0 0 1 [2,3]:=rci (l:=[0,4036]++rg 2 9++[4045]) (by kernel_rfl) rfl rfl (by decide)
theorem q1:RcI 1 0 2 1 [4]:=rci (l:=[0,4034]++rg 2 9++[4042]) (by kernel_rfl) rfl rfl (by decide)
theorem q2:RcI 2 0 3 1 [5]:=rci (l:=[0,4034]++rg 2 9++[4042]) (by kernel_rfl) rfl rfl (by decide)
theorem q3:RcI 0 1 4 2 [6]:=rci (l:=[0,4044]++rg 2 9++[4042,4067]) (by kernel_rfl) rfl rfl (by decide)
theorem q4:RcI 0 2 5 3 []:=rci (l:=[0,4046]++rg 2 9++[4044,12]) (by kernel_rfl) rfl rfl (by decide)
theorem q5:RcI 0 3 1 4 [7,8]:=rci (l:=[0,4054]++rg 2 9++[4062,12,4064]) (by kernel_rfl) rfl rfl (by decide)
theorem q6:RcI 1 1 7 2 [9]:=rci (l:=[0,4045]++rg 2 9++[4081,4052,4054]) (by kernel_rfl) rfl rfl (by decide)
theorem q7:RcI 2 1 8 2 [10]:=rci (l:=[0,4045]++rg 2 9++[4081,4052,4054]) (by kernel_rfl) rfl rfl (by decide)
theorem q8:RcI 0 4 9 5 [11]:=rci (l:=[0,4058]++rg 2 9++[4054,4088,4056,4082]) (by kernel_rfl) rfl rfl (by decide)
theorem q9:RcI 0 5 10 6 []:=rci (l:=[0,4060]++rg 2 9++[4056,12,4058,14]) (by kernel_rfl) rfl rfl (by decide)
theorem q10:RcI 0 6 12 7 [13,14]:=rci (l:=[0,4068]++rg 2 9++[4064,12,4078,14,4076]) (by kernel_rfl) rfl rfl (by decide)
theorem q11:RcI 1 2 13 3 [15]:=rci (l:=[0,4059]++rg 2 9++[4102,4055,4068,4066,4096]) (by kernel_rfl) rfl rfl (by decide)
theorem q12:RcI 2 2 14 3 [16]:=rci (l:=[0,4059]++rg 2 9++[4102,4055,4068,4066,4096]) (by kernel_rfl) rfl rfl (by decide)
theorem q13:RcI 0 7 16 8 [17]:=rci (l:=[0,4072]++rg 2 9++[4062,4105,4070,4096,4068]) (by kernel_rfl) rfl rfl (by decide)
theorem q14:RcI 0 7 15 9 [17]:=rci (l:=[0,4072]++rg 2 9++[4062,4105,4070,4096,4068]) (by kernel_rfl) rfl rfl (by decide)
theorem q15:RcI 0 9 16 10 []:=rci (l:=[0,4072]++rg 2 9++[4062,12,4070,14,4068]) (by kernel_rfl) rfl rfl (by decide)
theorem q16:RcI 0 10 16 10 []:=rci (l:=[0,4072]++rg 2 9++[4062,12,4070,14,4068]) (by kernel_rfl) rfl rfl (by decide)
theorem q17:RcI 0 9 15 9 []:=rci (l:=[0,4072]++rg 2 9++[4062,12,4070,14,4068]) (by kernel_rfl) rfl rfl (by decide)
theorem q18:RcI 0 10 15 10 []:=rci (l:=[0,4072]++rg 2 9++[4062,12,4070,14,4068]) (by kernel_rfl) rfl rfl (by decide)
theorem q19:RcI 0 8 15 10 []:=rci (l:=[0,4072]++rg 2 9++[4062,12,4070,14,4068]) (by kernel_rfl) rfl rfl (by decide)
theorem q20:RcI 0 8 16 8 []:=rci (l:=[0,4072]++rg 2 9++[4062,12,4070,14,4068]) (by kernel_rfl) rfl rfl (by decide)
theorem q21:RcI 1 3 13 3 [15]:=rci (l:=[0,4073]++rg 2 10++[4063,4071,4069,15]) (by kernel_rfl) rfl rfl (by decide)
theorem q22:RcI 2 3 14 3 [16]:=rci (l:=[0,4073]++rg 2 10++[4063,4071,4069,15]) (by kernel_rfl) rfl rfl (by decide)
theorem q23:RcI 0 7 12 7 []:=rci (l:=rg 0 16) (by kernel_rfl) rfl rfl (by decide)
theorem q24:RcI 0 9 12 9 [17]:=rci (l:=rg 0 16) (by kernel_rfl) rfl rfl (by decide)
theorem q25:RcI 0 10 12 10 [17]:=rci (l:=rg 0 16) (by kernel_rfl) rfl rfl (by decide)
theorem q26:RcI 0 8 12 8 [17]:=rci (l:=rg 0 16) (by kernel_rfl) rfl rfl (by decide)
theorem q27:BtI 10 10 [18,19]:=bti (l:=[0,4062]++rg 2 9++[4052,12,4060,14,4058]) (by kernel_rfl) rfl rfl
theorem q28:RcI 1 3 18 4 []:=rci (l:=[0,4072]++rg 2 9++[4062,4101,4070,4068,4092]) (by kernel_rfl) rfl rfl (by decide)
theorem q29:RcI 2 3 19 4 []:=rci (l:=[0,4072]++rg 2 9++[4062,4101,4070,4068,4092]) (by kernel_rfl) rfl rfl (by decide)
end
end Db
end
section
namespace Db
open Ev
noncomputable section
set_option maxRecDepth 1000000
theorem q30:RcI 0 10 20 11 [21,22]:=rci (l:=rg 0 16++[4077]) (by kernel_rfl) rfl rfl (by decide)
theorem q31:RcI 1 4 21 4 [23]:=rci (l:=rg 0 16) (by kernel_rfl) rfl rfl (by decide)
theorem q32:RcI 2 4 22 4 [24]:=rci (l:=rg 0 16) (by kernel_rfl) rfl rfl (by decide)
theorem q33:RcI 0 11 23 12 [25]:=rci (l:=rg 0 16++[4183]) (by kernel_rfl) rfl rfl (by decide)
theorem q34:RcI 0 12 24 12 []:=rci (l:=rg 0 16++[4087]) (by kernel_rfl) rfl rfl (by decide)
theorem q35:BtI 12 12 [18,19]:=bti (l:=[0,4062]++rg 2 9++[4052,12,4060,14,4058,4133]) (by kernel_rfl) rfl rfl
theorem q36:RcI 0 10 26 13 [27,28]:=rci (l:=[0,4080]++rg 2 9++[4070,12,4090,14,4076,4088]) (by kernel_rfl) rfl rfl (by decide)
theorem q37:RcI 1 3 27 5 [29]:=rci (l:=[0,4073]++rg 2 9++[4063,4119,4082,4069,4110,4080]) (by kernel_rfl) rfl rfl (by decide)
theorem q38:RcI 2 3 28 5 [30]:=rci (l:=[0,4073]++rg 2 9++[4063,4119,4082,4069,4110,4080]) (by kernel_rfl) rfl rfl (by decide)
theorem q39:RcI 0 13 30 14 [31]:=rci (l:=[0,4084]++rg 2 9++[4068,12,4082,4108,4074,4080]) (by kernel_rfl) rfl rfl (by decide)
theorem q40:RcI 0 14 29 15 []:=rci (l:=[0,4084]++rg 2 9++[4068,12,4082,14,4074,4080]) (by kernel_rfl) rfl rfl (by decide)
theorem q41:RcI 0 15 29 15 []:=rci (l:=[0,4084]++rg 2 9++[4068,12,4082,14,4074,4080]) (by kernel_rfl) rfl rfl (by decide)
theorem q42:RcI 1 5 27 5 [29]:=rci (l:=[0,4085]++rg 2 9++[4069,12,4083,4075,15,4081]) (by kernel_rfl) rfl rfl (by decide)
theorem q43:RcI 0 14 30 14 []:=rci (l:=[0,4084]++rg 2 9++[4068,12,4082,14,4074,4080]) (by kernel_rfl) rfl rfl (by decide)
theorem q44:RcI 0 15 30 15 []:=rci (l:=[0,4084]++rg 2 9++[4068,12,4082,14,4074,4080]) (by kernel_rfl) rfl rfl (by decide)
theorem q45:RcI 0 13 29 16 [31]:=rci (l:=[0,4084]++rg 2 9++[4068,12,4082,4108,4074,4080]) (by kernel_rfl) rfl rfl (by decide)
theorem q46:RcI 0 16 30 15 []:=rci (l:=[0,4084]++rg 2 9++[4068,12,4082,14,4074,4080]) (by kernel_rfl) rfl rfl (by decide)
theorem q47:RcI 0 16 29 16 []:=rci (l:=[0,4084]++rg 2 9++[4068,12,4082,14,4074,4080]) (by kernel_rfl) rfl rfl (by decide)
theorem q48:RcI 2 5 28 5 [30]:=rci (l:=[0,4085]++rg 2 9++[4069,12,4083,4075,15,4081]) (by kernel_rfl) rfl rfl (by decide)
theorem q49:RcI 0 13 26 13 []:=rci (l:=rg 0 17) (by kernel_rfl) rfl rfl (by decide)
theorem q50:RcI 0 14 26 14 [31]:=rci (l:=rg 0 17) (by kernel_rfl) rfl rfl (by decide)
theorem q51:RcI 0 15 26 15 [31]:=rci (l:=rg 0 17) (by kernel_rfl) rfl rfl (by decide)
theorem q52:RcI 0 16 26 16 [31]:=rci (l:=rg 0 17) (by kernel_rfl) rfl rfl (by decide)
theorem q53:BtI 15 15 [32,33]:=bti (l:=[0,4074]++rg 2 9++[4058,12,4072,14,4064,4070]) (by kernel_rfl) rfl rfl
theorem q54:RcI 1 5 32 6 []:=rci (l:=[0,4084]++rg 2 9++[4068,12,4082,4074,4104,4080]) (by kernel_rfl) rfl rfl (by decide)
theorem q55:RcI 2 5 33 6 []:=rci (l:=[0,4084]++rg 2 9++[4068,12,4082,4074,4104,4080]) (by kernel_rfl) rfl rfl (by decide)
theorem q56:RcI 0 15 20 17 [21,22]:=rci (l:=rg 0 17++[4083]) (by kernel_rfl) rfl rfl (by decide)
theorem q57:RcI 1 6 21 6 [23]:=rci (l:=rg 0 17) (by kernel_rfl) rfl rfl (by decide)
theorem q58:RcI 2 6 22 6 [24]:=rci (l:=rg 0 17) (by kernel_rfl) rfl rfl (by decide)
end
end Db
end
section
namespace Db
open Ev
noncomputable section
set_option maxRecDepth 1000000
theorem q59:RcI 0 17 23 18 [34]:=rci (l:=rg 0 17++[4228]) (by kernel_rfl) rfl rfl (by decide)
theorem q60:RcI 0 18 24 18 []:=rci (l:=rg 0 17++[4105]) (by kernel_rfl) rfl rfl (by decide)
theorem q61:BtI 18 18 [32,33]:=bti (l:=[0,4074]++rg 2 9++[4058,12,4072,14,4064,4070,4157]) (by kernel_rfl) rfl rfl
theorem q62:RcI 0 15 35 19 [36,37]:=rci (l:=[0,4092]++rg 2 9++[4076,12,4102,14,4082,4088,4100]) (by kernel_rfl) rfl rfl (by decide)
theorem q63:RcI 1 5 36 7 [38]:=rci (l:=[0,4085]++rg 2 9++[4069,12,4094,4075,4122,4081,4092]) (by kernel_rfl) rfl rfl (by decide)
theorem q64:RcI 2 5 37 7 [39]:=rci (l:=[0,4085]++rg 2 9++[4069,12,4094,4075,4122,4081,4092]) (by kernel_rfl) rfl rfl (by decide)
theorem q65:RcI 0 19 39 20 [40]:=rci (l:=[0,4096]++rg 2 9++[4074,12,4094,4120,4080,4086,4092]) (by kernel_rfl) rfl rfl (by decide)
theorem q66:RcI 0 20 38 21 []:=rci (l:=[0,4096]++rg 2 9++[4074,12,4094,14,4080,4086,4092]) (by kernel_rfl) rfl rfl (by decide)
theorem q67:RcI 0 21 38 21 []:=rci (l:=[0,4096]++rg 2 9++[4074,12,4094,14,4080,4086,4092]) (by kernel_rfl) rfl rfl (by decide)
theorem q68:RcI 1 7 36 7 [38]:=rci (l:=[0,4097]++rg 2 9++[4075,12,4095,4081,15,4087,4093]) (by kernel_rfl) rfl rfl (by decide)
theorem q69:RcI 0 20 39 20 []:=rci (l:=[0,4096]++rg 2 9++[4074,12,4094,14,4080,4086,4092]) (by kernel_rfl) rfl rfl (by decide)
theorem q70:RcI 0 21 39 21 []:=rci (l:=[0,4096]++rg 2 9++[4074,12,4094,14,4080,4086,4092]) (by kernel_rfl) rfl rfl (by decide)
theorem q71:RcI 0 19 38 22 [40]:=rci (l:=[0,4096]++rg 2 9++[4074,12,4094,4120,4080,4086,4092]) (by kernel_rfl) rfl rfl (by decide)
theorem q72:RcI 0 22 39 21 []:=rci (l:=[0,4096]++rg 2 9++[4074,12,4094,14,4080,4086,4092]) (by kernel_rfl) rfl rfl (by decide)
theorem q73:RcI 0 22 38 22 []:=rci (l:=[0,4096]++rg 2 9++[4074,12,4094,14,4080,4086,4092]) (by kernel_rfl) rfl rfl (by decide)
theorem q74:RcI 2 7 37 7 [39]:=rci (l:=[0,4097]++rg 2 9++[4075,12,4095,4081,15,4087,4093]) (by kernel_rfl) rfl rfl (by decide)
theorem q75:RcI 0 19 35 19 []:=rci (l:=rg 0 18) (by kernel_rfl) rfl rfl (by decide)
theorem q76:RcI 0 20 35 20 [40]:=rci (l:=rg 0 18) (by kernel_rfl) rfl rfl (by decide)
theorem q77:RcI 0 21 35 21 [40]:=rci (l:=rg 0 18) (by kernel_rfl) rfl rfl (by decide)
theorem q78:RcI 0 22 35 22 [40]:=rci (l:=rg 0 18) (by kernel_rfl) rfl rfl (by decide)
theorem q79:BtI 21 21 [41,42]:=bti (l:=[0,4086]++rg 2 9++[4064,12,4084,14,4070,4076,4082]) (by kernel_rfl) rfl rfl
theorem q80:RcI 1 7 41 8 []:=rci (l:=[0,4096]++rg 2 9++[4074,12,4094,4080,4116,4086,4092]) (by kernel_rfl) rfl rfl (by decide)
theorem q81:RcI 2 7 42 8 []:=rci (l:=[0,4096]++rg 2 9++[4074,12,4094,4080,4116,4086,4092]) (by kernel_rfl) rfl rfl (by decide)
theorem q82:RcI 0 21 20 23 [21,22]:=rci (l:=rg 0 18++[4089]) (by kernel_rfl) rfl rfl (by decide)
theorem q83:RcI 1 8 21 8 [23]:=rci (l:=rg 0 18) (by kernel_rfl) rfl rfl (by decide)
theorem q84:RcI 2 8 22 8 [24]:=rci (l:=rg 0 18) (by kernel_rfl) rfl rfl (by decide)
end
end Db
end
section
namespace Db
open Ev
noncomputable section
set_option maxRecDepth 1000000
theorem q85:RcI 0 23 23 24 [43]:=rci (l:=rg 0 18++[4273]) (by kernel_rfl) rfl rfl (by decide)
theorem q86:RcI 0 24 24 24 []:=rci (l:=rg 0 18++[4123]) (by kernel_rfl) rfl rfl (by decide)
theorem q87:BtI 24 24 [41,42]:=bti (l:=[0,4086]++rg 2 9++[4064,12,4084,14,4070,4076,4082,4181]) (by kernel_rfl) rfl rfl
theorem q88:RcI 0 21 44 25 [45,46]:=rci (l:=[0,4104]++rg 2 9++[4082,12,4114,14,4088,4094,4100,4112]) (by kernel_rfl) rfl rfl (by decide)
theorem q89:RcI 1 7 45 9 [47]:=rci (l:=[0,4097]++rg 2 9++[4075,12,4106,4081,4134,4087,4093,4104]) (by kernel_rfl) rfl rfl (by decide)
theorem q90:RcI 2 7 46 9 [48]:=rci (l:=[0,4097]++rg 2 9++[4075,12,4106,4081,4134,4087,4093,4104]) (by kernel_rfl) rfl rfl (by decide)
theorem q91:RcI 0 25 48 26 [49]:=rci (l:=[0,4108]++rg 2 9++[4080,12,4106,4132,4086,4092,4098,4104]) (by kernel_rfl) rfl rfl (by decide)
theorem q92:RcI 0 25 47 27 [49]:=rci (l:=[0,4108]++rg 2 9++[4080,12,4106,4132,4086,4092,4098,4104]) (by kernel_rfl) rfl rfl (by decide)
theorem q93:RcI 0 27 48 28 []:=rci (l:=[0,4108]++rg 2 9++[4080,12,4106,14,4086,4092,4098,4104]) (by kernel_rfl) rfl rfl (by decide)
theorem q94:RcI 0 28 48 28 []:=rci (l:=[0,4108]++rg 2 9++[4080,12,4106,14,4086,4092,4098,4104]) (by kernel_rfl) rfl rfl (by decide)
theorem q95:RcI 0 27 47 27 []:=rci (l:=[0,4108]++rg 2 9++[4080,12,4106,14,4086,4092,4098,4104]) (by kernel_rfl) rfl rfl (by decide)
theorem q96:RcI 0 28 47 28 []:=rci (l:=[0,4108]++rg 2 9++[4080,12,4106,14,4086,4092,4098,4104]) (by kernel_rfl) rfl rfl (by decide)
theorem q97:RcI 0 26 47 28 []:=rci (l:=[0,4108]++rg 2 9++[4080,12,4106,14,4086,4092,4098,4104]) (by kernel_rfl) rfl rfl (by decide)
theorem q98:RcI 0 26 48 26 []:=rci (l:=[0,4108]++rg 2 9++[4080,12,4106,14,4086,4092,4098,4104]) (by kernel_rfl) rfl rfl (by decide)
theorem q99:RcI 1 9 45 9 [47]:=rci (l:=[0,4109]++rg 2 9++[4081,12,4107,4087,15,4093,4099,4105]) (by kernel_rfl) rfl rfl (by decide)
theorem q100:RcI 2 9 46 9 [48]:=rci (l:=[0,4109]++rg 2 9++[4081,12,4107,4087,15,4093,4099,4105]) (by kernel_rfl) rfl rfl (by decide)
theorem q101:RcI 0 25 44 25 []:=rci (l:=rg 0 19) (by kernel_rfl) rfl rfl (by decide)
theorem q102:RcI 0 27 44 27 [49]:=rci (l:=rg 0 19) (by kernel_rfl) rfl rfl (by decide)
theorem q103:RcI 0 28 44 28 [49]:=rci (l:=rg 0 19) (by kernel_rfl) rfl rfl (by decide)
theorem q104:RcI 0 26 44 26 [49]:=rci (l:=rg 0 19) (by kernel_rfl) rfl rfl (by decide)
theorem q105:BtI 28 28 [50,51]:=bti (l:=[0,4098]++rg 2 9++[4070,12,4096,14,4076,4082,4088,4094]) (by kernel_rfl) rfl rfl
theorem q106:RcI 1 9 50 10 []:=rci (l:=[0,4108]++rg 2 9++[4080,12,4106,4086,4128,4092,4098,4104]) (by kernel_rfl) rfl rfl (by decide)
theorem q107:RcI 2 9 51 10 []:=rci (l:=[0,4108]++rg 2 9++[4080,12,4106,4086,4128,4092,4098,4104]) (by kernel_rfl) rfl rfl (by decide)
theorem q108:RcI 0 28 20 29 [21,22]:=rci (l:=rg 0 19++[4095]) (by kernel_rfl) rfl rfl (by decide)
end
end Db
end
end Go.Proofs.YtcchekmejnhlmaaGreat
