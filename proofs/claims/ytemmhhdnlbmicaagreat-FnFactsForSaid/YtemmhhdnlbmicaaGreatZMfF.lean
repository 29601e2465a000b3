/- Made by program: names for the numbers of functions and types, and closed facts on them. -/
import Derived.Test.YtemmhhdnlbmicaaGreatZMfS
import Derived.Test.YtemmhhdnlbmicaaGreatProg
import Derived.KernelRfl
namespace Go.Proofs.YtemmhhdnlbmicaaGreat
open Go
abbrev ir:Nat:=3
theorem bj:ma Tryz.prog 3=true:=by kernel_rfl
theorem Gr:li Tryz.prog 3=some (.int .i64 0):=by kernel_rfl
theorem gJ:Tryz.prog.underlying 3=some (.int .i64):=by kernel_rfl
abbrev F3:Nat:=4
theorem Cw:Tryz.prog.underlying 4=some .bool:=by kernel_rfl
abbrev yp:Nat:=5
theorem tr:ma Tryz.prog 5=true:=by kernel_rfl
theorem eM:Tryz.prog.underlying 5=some (.int .u8):=by kernel_rfl
abbrev gv:Nat:=9
theorem bi:ma Tryz.prog 9=true:=by kernel_rfl
theorem a7:Tryz.prog.underlying 9=some .string:=by kernel_rfl
abbrev Aa:Nat:=22
theorem fK:ma Tryz.prog 22=true:=by kernel_rfl
theorem p7:l1 Tryz.prog 22=some (5,1,1,(.int .u8 0)):=by kernel_rfl
theorem dJ:c8 Tryz.prog 22=some (5,1):=by kernel_rfl
abbrev dc:Nat:=23
theorem aS:ma Tryz.prog 23=true:=by kernel_rfl
theorem bn:l1 Tryz.prog 23=some (25,4,56,(.agg #[(.int .i64 0),(.int .i64 0),(.string ⟨#[]⟩),(.slice none 0 0)])):=by kernel_rfl
theorem ay:c8 Tryz.prog 23=some (25,4):=by kernel_rfl
abbrev ad:Nat:=25
theorem ai:qf Tryz.prog 25=some 4:=by kernel_rfl
theorem bu:li Tryz.prog 25=some (.agg #[(.int .i64 0),(.int .i64 0),(.string ⟨#[]⟩),(.slice none 0 0)]):=by kernel_rfl
theorem bt:ei Tryz.prog 25 0=some 0:=by kernel_rfl
theorem bv:ei Tryz.prog 25 1=some 1:=by kernel_rfl
theorem bk:ei Tryz.prog 25 2=some 2:=by kernel_rfl
theorem aT:ei Tryz.prog 25 3=some 3:=by kernel_rfl
theorem qK:l1 Tryz.prog 32=some (39,5,80,(.agg #[(.int .i64 0),(.int .i64 0),(.string ⟨#[]⟩),(.slice none 0 0),(.slice none 0 0)])):=by kernel_rfl
theorem e9:c8 Tryz.prog 32=some (39,5):=by kernel_rfl
abbrev bb:Nat:=39
theorem cL:qf Tryz.prog 39=some 5:=by kernel_rfl
theorem ib:li Tryz.prog 39=some (.agg #[(.int .i64 0),(.int .i64 0),(.string ⟨#[]⟩),(.slice none 0 0),(.slice none 0 0)]):=by kernel_rfl
theorem eJ:ei Tryz.prog 39 0=some 0:=by kernel_rfl
theorem cj:ei Tryz.prog 39 1=some 4:=by kernel_rfl
theorem iW:Tryz.prog.underlying 59=some (.map 3 25):=by kernel_rfl
abbrev wM:Nat:=67
theorem ua:l1 Tryz.prog 67=some (9,1,16,(.string ⟨#[]⟩)):=by kernel_rfl
theorem cg:c8 Tryz.prog 67=some (9,1):=by kernel_rfl
abbrev DI:Nat:=71
theorem yf:l1 Tryz.prog 71=some (3,1,8,(.int .i64 0)):=by kernel_rfl
theorem iR:c8 Tryz.prog 71=some (3,1):=by kernel_rfl
abbrev z2:Nat:=78
theorem ew:ei Tryz.prog 78 0=some 0:=by kernel_rfl
theorem ly:ei Tryz.prog 78 1=some 1:=by kernel_rfl
abbrev jH:Nat:=91
theorem yb:ma Tryz.prog 91=true:=by kernel_rfl
abbrev di:Nat:=3
abbrev qn:Nat:=9
theorem ow:Tryz.prog.funcs[9]?=some Tryz.f9:=Tryz.func9
theorem nG:(Tryz.f9.name == "runtime.NumGoroutine" || Tryz.f9.body.isNone)=false:=by kernel_rfl
abbrev pE:Nat:=10
theorem mx:Tryz.prog.funcs[10]?=some Tryz.f10:=Tryz.func10
theorem mw:(Tryz.f10.name == "runtime.NumGoroutine" || Tryz.f10.body.isNone)=false:=by kernel_rfl
abbrev zG:Nat:=11
theorem pa:Tryz.prog.funcs[11]?=some Tryz.f11:=Tryz.func11
theorem nU:(Tryz.f11.name == "runtime.NumGoroutine" || Tryz.f11.body.isNone)=false:=by kernel_rfl
abbrev yq:Nat:=12
theorem v9:Tryz.prog.funcs[12]?=some Tryz.f12:=Tryz.func12
theorem vV:(Tryz.f12.name == "runtime.NumGoroutine" || Tryz.f12.body.isNone)=false:=by kernel_rfl
abbrev sZ:Nat:=13
theorem ku:Tryz.prog.funcs[13]?=some Tryz.f13:=Tryz.func13
theorem ki:(Tryz.f13.name == "runtime.NumGoroutine" || Tryz.f13.body.isNone)=false:=by kernel_rfl
abbrev rV:Nat:=18
theorem pJ:Tryz.prog.funcs[18]?=some Tryz.f18:=Tryz.func18
theorem qA:(Tryz.f18.name == "runtime.NumGoroutine" || Tryz.f18.body.isNone)=false:=by kernel_rfl
abbrev tL:Nat:=22
theorem sy:Tryz.prog.funcs[22]?=some Tryz.f22:=Tryz.func22
theorem sB:(Tryz.f22.name == "runtime.NumGoroutine" || Tryz.f22.body.isNone)=false:=by kernel_rfl
abbrev uD:Nat:=26
theorem sE:Tryz.prog.funcs[26]?=some Tryz.f26:=Tryz.func26
theorem sw:(Tryz.f26.name == "runtime.NumGoroutine" || Tryz.f26.body.isNone)=false:=by kernel_rfl
abbrev zf:Nat:=32
theorem ya:Tryz.prog.funcs[32]?=some Tryz.f32:=Tryz.func32
theorem yA:(Tryz.f32.name == "runtime.NumGoroutine" || Tryz.f32.body.isNone)=false:=by kernel_rfl
abbrev tD:Nat:=33
theorem rY:Tryz.prog.funcs[33]?=some Tryz.f33:=Tryz.func33
theorem rW:(Tryz.f33.name == "runtime.NumGoroutine" || Tryz.f33.body.isNone)=false:=by kernel_rfl
abbrev yv:Nat:=34
theorem uV:Tryz.prog.funcs[34]?=some Tryz.f34:=Tryz.func34
theorem uT:(Tryz.f34.name == "runtime.NumGoroutine" || Tryz.f34.body.isNone)=false:=by kernel_rfl
abbrev zC:Nat:=35
theorem yG:Tryz.prog.funcs[35]?=some Tryz.f35:=Tryz.func35
theorem xR:(Tryz.f35.name == "runtime.NumGoroutine" || Tryz.f35.body.isNone)=false:=by kernel_rfl
abbrev rL:Nat:=36
theorem nE:Tryz.prog.funcs[36]?=some Tryz.f36:=Tryz.func36
theorem ph:(Tryz.f36.name == "runtime.NumGoroutine" || Tryz.f36.body.isNone)=false:=by kernel_rfl
abbrev mc:Nat:=37
theorem l3:Tryz.prog.funcs[37]?=some Tryz.f37:=Tryz.func37
theorem kM:(Tryz.f37.name == "runtime.NumGoroutine" || Tryz.f37.body.isNone)=false:=by kernel_rfl
abbrev s9:Nat:=38
theorem r4:Tryz.prog.funcs[38]?=some Tryz.f38:=Tryz.func38
theorem rQ:(Tryz.f38.name == "runtime.NumGoroutine" || Tryz.f38.body.isNone)=false:=by kernel_rfl
abbrev tO:Nat:=39
theorem rT:Tryz.prog.funcs[39]?=some Tryz.f39:=Tryz.func39
theorem sJ:(Tryz.f39.name == "runtime.NumGoroutine" || Tryz.f39.body.isNone)=false:=by kernel_rfl
abbrev gU:Nat:=40
theorem iX:Tryz.prog.funcs[40]?=some Tryz.f40:=Tryz.func40
theorem ja:(Tryz.f40.name == "runtime.NumGoroutine" || Tryz.f40.body.isNone)=false:=by kernel_rfl
abbrev uO:Nat:=41
theorem sF:Tryz.prog.funcs[41]?=some Tryz.f41:=Tryz.func41
theorem sK:(Tryz.f41.name == "runtime.NumGoroutine" || Tryz.f41.body.isNone)=false:=by kernel_rfl
abbrev na:Nat:=42
theorem er:Tryz.prog.funcs[42]?=some Tryz.f42:=Tryz.func42
theorem eG:(Tryz.f42.name == "runtime.NumGoroutine" || Tryz.f42.body.isNone)=false:=by kernel_rfl
abbrev vC:Nat:=43
theorem lm:Tryz.prog.funcs[43]?=some Tryz.f43:=Tryz.func43
theorem l4:(Tryz.f43.name == "runtime.NumGoroutine" || Tryz.f43.body.isNone)=false:=by kernel_rfl
abbrev yj:Nat:=44
theorem mz:Tryz.prog.funcs[44]?=some Tryz.f44:=Tryz.func44
theorem mH:(Tryz.f44.name == "runtime.NumGoroutine" || Tryz.f44.body.isNone)=false:=by kernel_rfl
abbrev qb:Nat:=50
theorem iO:Tryz.prog.funcs[50]?=some Tryz.f50:=Tryz.func50
theorem iS:(Tryz.f50.name == "runtime.NumGoroutine" || Tryz.f50.body.isNone)=false:=by kernel_rfl
abbrev vA:Nat:=51
theorem uu:Tryz.prog.funcs[51]?=some Tryz.f51:=Tryz.func51
theorem tt:(Tryz.f51.name == "runtime.NumGoroutine" || Tryz.f51.body.isNone)=false:=by kernel_rfl
abbrev xy:Nat:=52
theorem vB:Tryz.prog.funcs[52]?=some Tryz.f52:=Tryz.func52
theorem vh:(Tryz.f52.name == "runtime.NumGoroutine" || Tryz.f52.body.isNone)=false:=by kernel_rfl
abbrev mi:Nat:=55
theorem lf:Tryz.prog.funcs[55]?=some Tryz.f55:=Tryz.func55
theorem lF:(Tryz.f55.name == "runtime.NumGoroutine" || Tryz.f55.body.isNone)=false:=by kernel_rfl
abbrev kI:Nat:=57
theorem jR:Tryz.prog.funcs[57]?=some Tryz.f57:=Tryz.func57
theorem jS:(Tryz.f57.name == "runtime.NumGoroutine" || Tryz.f57.body.isNone)=false:=by kernel_rfl
abbrev u1:Nat:=61
theorem l6:Tryz.prog.funcs[61]?=some Tryz.f61:=Tryz.func61
theorem ll:(Tryz.f61.name == "runtime.NumGoroutine" || Tryz.f61.body.isNone)=false:=by kernel_rfl
abbrev zR:Nat:=62
theorem xS:Tryz.prog.funcs[62]?=some Tryz.f62:=Tryz.func62
theorem xe:(Tryz.f62.name == "runtime.NumGoroutine" || Tryz.f62.body.isNone)=false:=by kernel_rfl
abbrev tS:Nat:=69
theorem dD:Tryz.prog.funcs[69]?=some Tryz.f69:=Tryz.func69
theorem dB:(Tryz.f69.name == "runtime.NumGoroutine" || Tryz.f69.body.isNone)=false:=by kernel_rfl
abbrev zA:Nat:=71
theorem oS:Tryz.prog.funcs[71]?=some Tryz.f71:=Tryz.func71
theorem nN:(Tryz.f71.name == "runtime.NumGoroutine" || Tryz.f71.body.isNone)=false:=by kernel_rfl
abbrev xo:Nat:=73
theorem vd:Tryz.prog.funcs[73]?=some Tryz.f73:=Tryz.func73
theorem wa:(Tryz.f73.name == "runtime.NumGoroutine" || Tryz.f73.body.isNone)=false:=by kernel_rfl
abbrev jE:Nat:=74
theorem iN:Tryz.prog.funcs[74]?=some Tryz.f74:=Tryz.func74
theorem iT:(Tryz.f74.name == "runtime.NumGoroutine" || Tryz.f74.body.isNone)=false:=by kernel_rfl
abbrev vI:Nat:=75
theorem tf:Tryz.prog.funcs[75]?=some Tryz.f75:=Tryz.func75
theorem uC:(Tryz.f75.name == "runtime.NumGoroutine" || Tryz.f75.body.isNone)=false:=by kernel_rfl
abbrev ym:Nat:=76
theorem uZ:Tryz.prog.funcs[76]?=some Tryz.f76:=Tryz.func76
theorem vY:(Tryz.f76.name == "runtime.NumGoroutine" || Tryz.f76.body.isNone)=false:=by kernel_rfl
abbrev C6:Nat:=77
theorem tj:Tryz.prog.funcs[77]?=some Tryz.f77:=Tryz.func77
theorem tP:(Tryz.f77.name == "runtime.NumGoroutine" || Tryz.f77.body.isNone)=false:=by kernel_rfl
abbrev o4:Nat:=78
theorem eO:Tryz.prog.funcs[78]?=some Tryz.f78:=Tryz.func78
theorem eN:(Tryz.f78.name == "runtime.NumGoroutine" || Tryz.f78.body.isNone)=false:=by kernel_rfl
abbrev xw:Nat:=79
theorem vq:Tryz.prog.funcs[79]?=some Tryz.f79:=Tryz.func79
theorem vM:(Tryz.f79.name == "runtime.NumGoroutine" || Tryz.f79.body.isNone)=false:=by kernel_rfl
abbrev vH:Nat:=80
theorem ti:Tryz.prog.funcs[80]?=some Tryz.f80:=Tryz.func80
theorem tM:(Tryz.f80.name == "runtime.NumGoroutine" || Tryz.f80.body.isNone)=false:=by kernel_rfl
abbrev CK:Nat:=81
theorem Eq:Tryz.prog.funcs[81]?=some Tryz.f81:=Tryz.func81
theorem EY:(Tryz.f81.name == "runtime.NumGoroutine" || Tryz.f81.body.isNone)=false:=by kernel_rfl
abbrev ny:Nat:=82
theorem fp:Tryz.prog.funcs[82]?=some Tryz.f82:=Tryz.func82
theorem fk:(Tryz.f82.name == "runtime.NumGoroutine" || Tryz.f82.body.isNone)=false:=by kernel_rfl
abbrev mX:Nat:=83
theorem mm:Tryz.prog.funcs[83]?=some Tryz.f83:=Tryz.func83
theorem mf:(Tryz.f83.name == "runtime.NumGoroutine" || Tryz.f83.body.isNone)=false:=by kernel_rfl
abbrev vQ:Nat:=84
theorem fa:Tryz.prog.funcs[84]?=some Tryz.f84:=Tryz.func84
theorem eV:(Tryz.f84.name == "runtime.NumGoroutine" || Tryz.f84.body.isNone)=false:=by kernel_rfl
abbrev zX:Nat:=85
theorem jP:Tryz.prog.funcs[85]?=some Tryz.f85:=Tryz.func85
theorem j5:(Tryz.f85.name == "runtime.NumGoroutine" || Tryz.f85.body.isNone)=false:=by kernel_rfl
abbrev E6:Nat:=86
theorem wQ:Tryz.prog.funcs[86]?=some Tryz.f86:=Tryz.func86
theorem wY:(Tryz.f86.name == "runtime.NumGoroutine" || Tryz.f86.body.isNone)=false:=by kernel_rfl
abbrev r7:Nat:=96
theorem jB:Tryz.prog.funcs[96]?=some Tryz.f96:=Tryz.func96
theorem jj:(Tryz.f96.name == "runtime.NumGoroutine" || Tryz.f96.body.isNone)=false:=by kernel_rfl
abbrev y0:Nat:=97
theorem pf:Tryz.prog.funcs[97]?=some Tryz.f97:=Tryz.func97
theorem oy:(Tryz.f97.name == "runtime.NumGoroutine" || Tryz.f97.body.isNone)=false:=by kernel_rfl
abbrev BN:Nat:=98
theorem lg:Tryz.prog.funcs[98]?=some Tryz.f98:=Tryz.func98
theorem lb:(Tryz.f98.name == "runtime.NumGoroutine" || Tryz.f98.body.isNone)=false:=by kernel_rfl
abbrev Du:Nat:=99
theorem A8:Tryz.prog.funcs[99]?=some Tryz.f99:=Tryz.func99
theorem Bo:(Tryz.f99.name == "runtime.NumGoroutine" || Tryz.f99.body.isNone)=false:=by kernel_rfl
abbrev yz:Nat:=100
theorem vm:Tryz.prog.funcs[100]?=some Tryz.f100:=Tryz.func100
theorem vU:(Tryz.f100.name == "runtime.NumGoroutine" || Tryz.f100.body.isNone)=false:=by kernel_rfl
abbrev vG:Nat:=101
theorem tc:Tryz.prog.funcs[101]?=some Tryz.f101:=Tryz.func101
theorem ta:(Tryz.f101.name == "runtime.NumGoroutine" || Tryz.f101.body.isNone)=false:=by kernel_rfl
abbrev pQ:Nat:=104
theorem oo:Tryz.prog.funcs[104]?=some Tryz.f104:=Tryz.func104
theorem pd:(Tryz.f104.name == "runtime.NumGoroutine" || Tryz.f104.body.isNone)=false:=by kernel_rfl
abbrev Ca:Nat:=115
theorem z1:Tryz.prog.funcs[115]?=some Tryz.f115:=Tryz.func115
theorem y6:(Tryz.f115.name == "runtime.NumGoroutine" || Tryz.f115.body.isNone)=false:=by kernel_rfl
abbrev yP:Nat:=116
theorem yF:Tryz.prog.funcs[116]?=some Tryz.f116:=Tryz.func116
theorem xh:(Tryz.f116.name == "runtime.NumGoroutine" || Tryz.f116.body.isNone)=false:=by kernel_rfl
abbrev xN:Nat:=117
theorem uU:Tryz.prog.funcs[117]?=some Tryz.f117:=Tryz.func117
theorem vS:(Tryz.f117.name == "runtime.NumGoroutine" || Tryz.f117.body.isNone)=false:=by kernel_rfl
abbrev xl:Nat:=118
theorem je:Tryz.prog.funcs[118]?=some Tryz.f118:=Tryz.func118
theorem jf:(Tryz.f118.name == "runtime.NumGoroutine" || Tryz.f118.body.isNone)=false:=by kernel_rfl
abbrev BS:Nat:=119
theorem z8:Tryz.prog.funcs[119]?=some Tryz.f119:=Tryz.func119
theorem z4:(Tryz.f119.name == "runtime.NumGoroutine" || Tryz.f119.body.isNone)=false:=by kernel_rfl
abbrev rX:Nat:=120
theorem qd:Tryz.prog.funcs[120]?=some Tryz.f120:=Tryz.func120
theorem qj:(Tryz.f120.name == "runtime.NumGoroutine" || Tryz.f120.body.isNone)=false:=by kernel_rfl
abbrev Av:Nat:=121
theorem xM:Tryz.prog.funcs[121]?=some Tryz.f121:=Tryz.func121
theorem xz:(Tryz.f121.name == "runtime.NumGoroutine" || Tryz.f121.body.isNone)=false:=by kernel_rfl
abbrev lC:Nat:=122
theorem nI:Tryz.prog.funcs[122]?=some Tryz.f122:=Tryz.func122
theorem om:(Tryz.f122.name == "runtime.NumGoroutine" || Tryz.f122.body.isNone)=false:=by kernel_rfl
abbrev sS:Nat:=123
theorem sx:Tryz.prog.funcs[123]?=some Tryz.f123:=Tryz.func123
theorem sv:(Tryz.f123.name == "runtime.NumGoroutine" || Tryz.f123.body.isNone)=false:=by kernel_rfl
abbrev z7:Nat:=124
theorem o0:Tryz.prog.funcs[124]?=some Tryz.f124:=Tryz.func124
theorem n3:(Tryz.f124.name == "runtime.NumGoroutine" || Tryz.f124.body.isNone)=false:=by kernel_rfl
abbrev AK:Nat:=125
theorem pj:Tryz.prog.funcs[125]?=some Tryz.f125:=Tryz.func125
theorem o7:(Tryz.f125.name == "runtime.NumGoroutine" || Tryz.f125.body.isNone)=false:=by kernel_rfl
abbrev BB:Nat:=126
theorem lW:Tryz.prog.funcs[126]?=some Tryz.f126:=Tryz.func126
theorem l5:(Tryz.f126.name == "runtime.NumGoroutine" || Tryz.f126.body.isNone)=false:=by kernel_rfl
abbrev vL:Nat:=127
theorem uJ:Tryz.prog.funcs[127]?=some Tryz.f127:=Tryz.func127
theorem sV:(Tryz.f127.name == "runtime.NumGoroutine" || Tryz.f127.body.isNone)=false:=by kernel_rfl
abbrev AX:Nat:=128
theorem zx:Tryz.prog.funcs[128]?=some Tryz.f128:=Tryz.func128
theorem Ad:(Tryz.f128.name == "runtime.NumGoroutine" || Tryz.f128.body.isNone)=false:=by kernel_rfl
abbrev vR:Nat:=134
theorem uw:Tryz.prog.funcs[134]?=some Tryz.f134:=Tryz.func134
theorem tz:(Tryz.f134.name == "runtime.NumGoroutine" || Tryz.f134.body.isNone)=false:=by kernel_rfl
abbrev yV:Nat:=135
theorem jY:Tryz.prog.funcs[135]?=some Tryz.f135:=Tryz.func135
theorem jI:(Tryz.f135.name == "runtime.NumGoroutine" || Tryz.f135.body.isNone)=false:=by kernel_rfl
abbrev Bx:Nat:=140
theorem y5:Tryz.prog.funcs[140]?=some Tryz.f140:=Tryz.func140
theorem zc:(Tryz.f140.name == "runtime.NumGoroutine" || Tryz.f140.body.isNone)=false:=by kernel_rfl
abbrev wb:Nat:=145
theorem kN:Tryz.prog.funcs[145]?=some Tryz.f145:=Tryz.func145
theorem kU:(Tryz.f145.name == "runtime.NumGoroutine" || Tryz.f145.body.isNone)=false:=by kernel_rfl
abbrev Bf:Nat:=146
theorem eW:Tryz.prog.funcs[146]?=some Tryz.f146:=Tryz.func146
theorem fb:(Tryz.f146.name == "runtime.NumGoroutine" || Tryz.f146.body.isNone)=false:=by kernel_rfl
abbrev BW:Nat:=147
theorem cm:Tryz.prog.funcs[147]?=some Tryz.f147:=Tryz.func147
theorem cn:(Tryz.f147.name == "runtime.NumGoroutine" || Tryz.f147.body.isNone)=false:=by kernel_rfl
abbrev Ab:Nat:=148
theorem yD:Tryz.prog.funcs[148]?=some Tryz.f148:=Tryz.func148
theorem xE:(Tryz.f148.name == "runtime.NumGoroutine" || Tryz.f148.body.isNone)=false:=by kernel_rfl
abbrev qG:Nat:=149
theorem nK:Tryz.prog.funcs[149]?=some Tryz.f149:=Tryz.func149
theorem ov:(Tryz.f149.name == "runtime.NumGoroutine" || Tryz.f149.body.isNone)=false:=by kernel_rfl
abbrev CZ:Nat:=150
theorem uM:Tryz.prog.funcs[150]?=some Tryz.f150:=Tryz.func150
theorem tF:(Tryz.f150.name == "runtime.NumGoroutine" || Tryz.f150.body.isNone)=false:=by kernel_rfl
abbrev Aj:Nat:=151
theorem fg:Tryz.prog.funcs[151]?=some Tryz.f151:=Tryz.func151
theorem fc:(Tryz.f151.name == "runtime.NumGoroutine" || Tryz.f151.body.isNone)=false:=by kernel_rfl
abbrev yc:Nat:=152
theorem u9:Tryz.prog.funcs[152]?=some Tryz.f152:=Tryz.func152
theorem vp:(Tryz.f152.name == "runtime.NumGoroutine" || Tryz.f152.body.isNone)=false:=by kernel_rfl
abbrev Bq:Nat:=154
theorem lE:Tryz.prog.funcs[154]?=some Tryz.f154:=Tryz.func154
theorem l2:(Tryz.f154.name == "runtime.NumGoroutine" || Tryz.f154.body.isNone)=false:=by kernel_rfl
abbrev ub:Nat:=155
theorem yX:Tryz.prog.funcs[155]?=some Tryz.f155:=Tryz.func155
theorem zD:(Tryz.f155.name == "runtime.NumGoroutine" || Tryz.f155.body.isNone)=false:=by kernel_rfl
abbrev tk:Nat:=156
theorem kL:Tryz.prog.funcs[156]?=some Tryz.f156:=Tryz.func156
theorem lx:(Tryz.f156.name == "runtime.NumGoroutine" || Tryz.f156.body.isNone)=false:=by kernel_rfl
abbrev Dy:Nat:=157
theorem BO:Tryz.prog.funcs[157]?=some Tryz.f157:=Tryz.func157
theorem BV:(Tryz.f157.name == "runtime.NumGoroutine" || Tryz.f157.body.isNone)=false:=by kernel_rfl
abbrev AA:Nat:=158
theorem xX:Tryz.prog.funcs[158]?=some Tryz.f158:=Tryz.func158
theorem yo:(Tryz.f158.name == "runtime.NumGoroutine" || Tryz.f158.body.isNone)=false:=by kernel_rfl
abbrev B5:Nat:=161
theorem zq:Tryz.prog.funcs[161]?=some Tryz.f161:=Tryz.func161
theorem zk:(Tryz.f161.name == "runtime.NumGoroutine" || Tryz.f161.body.isNone)=false:=by kernel_rfl
abbrev B8:Nat:=162
theorem qN:Tryz.prog.funcs[162]?=some Tryz.f162:=Tryz.func162
theorem rb:(Tryz.f162.name == "runtime.NumGoroutine" || Tryz.f162.body.isNone)=false:=by kernel_rfl
abbrev vy:Nat:=163
theorem lo:Tryz.prog.funcs[163]?=some Tryz.f163:=Tryz.func163
theorem kZ:(Tryz.f163.name == "runtime.NumGoroutine" || Tryz.f163.body.isNone)=false:=by kernel_rfl
abbrev AJ:Nat:=164
theorem eI:Tryz.prog.funcs[164]?=some Tryz.f164:=Tryz.func164
theorem eK:(Tryz.f164.name == "runtime.NumGoroutine" || Tryz.f164.body.isNone)=false:=by kernel_rfl
abbrev BL:Nat:=167
theorem iJ:Tryz.prog.funcs[167]?=some Tryz.f167:=Tryz.func167
theorem iH:(Tryz.f167.name == "runtime.NumGoroutine" || Tryz.f167.body.isNone)=false:=by kernel_rfl
abbrev Cl:Nat:=168
theorem lS:Tryz.prog.funcs[168]?=some Tryz.f168:=Tryz.func168
theorem lr:(Tryz.f168.name == "runtime.NumGoroutine" || Tryz.f168.body.isNone)=false:=by kernel_rfl
abbrev xT:Nat:=169
theorem vv:Tryz.prog.funcs[169]?=some Tryz.f169:=Tryz.func169
theorem uY:(Tryz.f169.name == "runtime.NumGoroutine" || Tryz.f169.body.isNone)=false:=by kernel_rfl
abbrev zN:Nat:=170
theorem xd:Tryz.prog.funcs[170]?=some Tryz.f170:=Tryz.func170
theorem yC:(Tryz.f170.name == "runtime.NumGoroutine" || Tryz.f170.body.isNone)=false:=by kernel_rfl
abbrev EG:Nat:=171
theorem C7:Tryz.prog.funcs[171]?=some Tryz.f171:=Tryz.func171
theorem Di:(Tryz.f171.name == "runtime.NumGoroutine" || Tryz.f171.body.isNone)=false:=by kernel_rfl
abbrev A5:Nat:=172
theorem yT:Tryz.prog.funcs[172]?=some Tryz.f172:=Tryz.func172
theorem Au:(Tryz.f172.name == "runtime.NumGoroutine" || Tryz.f172.body.isNone)=false:=by kernel_rfl
abbrev Bc:Nat:=173
theorem Ax:Tryz.prog.funcs[173]?=some Tryz.f173:=Tryz.func173
theorem Ak:(Tryz.f173.name == "runtime.NumGoroutine" || Tryz.f173.body.isNone)=false:=by kernel_rfl
abbrev Ac:Nat:=174
theorem oF:Tryz.prog.funcs[174]?=some Tryz.f174:=Tryz.func174
theorem oT:(Tryz.f174.name == "runtime.NumGoroutine" || Tryz.f174.body.isNone)=false:=by kernel_rfl
abbrev zW:Nat:=175
theorem oi:Tryz.prog.funcs[175]?=some Tryz.f175:=Tryz.func175
theorem o3:(Tryz.f175.name == "runtime.NumGoroutine" || Tryz.f175.body.isNone)=false:=by kernel_rfl
abbrev z9:Nat:=176
theorem oO:Tryz.prog.funcs[176]?=some Tryz.f176:=Tryz.func176
theorem nV:(Tryz.f176.name == "runtime.NumGoroutine" || Tryz.f176.body.isNone)=false:=by kernel_rfl
abbrev yl:Nat:=177
theorem vk:Tryz.prog.funcs[177]?=some Tryz.f177:=Tryz.func177
theorem v8:(Tryz.f177.name == "runtime.NumGoroutine" || Tryz.f177.body.isNone)=false:=by kernel_rfl
abbrev CX:Nat:=178
theorem Bn:Tryz.prog.funcs[178]?=some Tryz.f178:=Tryz.func178
theorem Bw:(Tryz.f178.name == "runtime.NumGoroutine" || Tryz.f178.body.isNone)=false:=by kernel_rfl
abbrev Cj:Nat:=179
theorem iP:Tryz.prog.funcs[179]?=some Tryz.f179:=Tryz.func179
theorem iL:(Tryz.f179.name == "runtime.NumGoroutine" || Tryz.f179.body.isNone)=false:=by kernel_rfl
abbrev vD:Nat:=181
theorem s8:Tryz.prog.funcs[181]?=some Tryz.f181:=Tryz.func181
theorem s6:(Tryz.f181.name == "runtime.NumGoroutine" || Tryz.f181.body.isNone)=false:=by kernel_rfl
abbrev C4:Nat:=184
theorem Bi:Tryz.prog.funcs[184]?=some Tryz.f184:=Tryz.func184
theorem Be:(Tryz.f184.name == "runtime.NumGoroutine" || Tryz.f184.body.isNone)=false:=by kernel_rfl
abbrev Ah:Nat:=187
theorem xK:Tryz.prog.funcs[187]?=some Tryz.f187:=Tryz.func187
theorem yL:(Tryz.f187.name == "runtime.NumGoroutine" || Tryz.f187.body.isNone)=false:=by kernel_rfl
abbrev zp:Nat:=188
theorem oB:Tryz.prog.funcs[188]?=some Tryz.f188:=Tryz.func188
theorem nX:(Tryz.f188.name == "runtime.NumGoroutine" || Tryz.f188.body.isNone)=false:=by kernel_rfl
abbrev Cd:Nat:=189
theorem eY:Tryz.prog.funcs[189]?=some Tryz.f189:=Tryz.func189
theorem eT:(Tryz.f189.name == "runtime.NumGoroutine" || Tryz.f189.body.isNone)=false:=by kernel_rfl
abbrev Bj:Nat:=190
theorem rC:Tryz.prog.funcs[190]?=some Tryz.f190:=Tryz.func190
theorem qS:(Tryz.f190.name == "runtime.NumGoroutine" || Tryz.f190.body.isNone)=false:=by kernel_rfl
abbrev Dq:Nat:=191
theorem BT:Tryz.prog.funcs[191]?=some Tryz.f191:=Tryz.func191
theorem BI:(Tryz.f191.name == "runtime.NumGoroutine" || Tryz.f191.body.isNone)=false:=by kernel_rfl
abbrev Dp:Nat:=192
theorem Bt:Tryz.prog.funcs[192]?=some Tryz.f192:=Tryz.func192
theorem Bp:(Tryz.f192.name == "runtime.NumGoroutine" || Tryz.f192.body.isNone)=false:=by kernel_rfl
abbrev A0:Nat:=194
theorem zM:Tryz.prog.funcs[194]?=some Tryz.f194:=Tryz.func194
theorem zJ:(Tryz.f194.name == "runtime.NumGoroutine" || Tryz.f194.body.isNone)=false:=by kernel_rfl
abbrev zB:Nat:=195
theorem nH:Tryz.prog.funcs[195]?=some Tryz.f195:=Tryz.func195
theorem ox:(Tryz.f195.name == "runtime.NumGoroutine" || Tryz.f195.body.isNone)=false:=by kernel_rfl
abbrev Cg:Nat:=196
theorem AL:Tryz.prog.funcs[196]?=some Tryz.f196:=Tryz.func196
theorem Ao:(Tryz.f196.name == "runtime.NumGoroutine" || Tryz.f196.body.isNone)=false:=by kernel_rfl
abbrev xP:Nat:=197
theorem uX:Tryz.prog.funcs[197]?=some Tryz.f197:=Tryz.func197
theorem vN:(Tryz.f197.name == "runtime.NumGoroutine" || Tryz.f197.body.isNone)=false:=by kernel_rfl
abbrev zh:Nat:=198
theorem x3:Tryz.prog.funcs[198]?=some Tryz.f198:=Tryz.func198
theorem xp:(Tryz.f198.name == "runtime.NumGoroutine" || Tryz.f198.body.isNone)=false:=by kernel_rfl
abbrev B6:Nat:=199
theorem lT:Tryz.prog.funcs[199]?=some Tryz.f199:=Tryz.func199
theorem lN:(Tryz.f199.name == "runtime.NumGoroutine" || Tryz.f199.body.isNone)=false:=by kernel_rfl
abbrev Bl:Nat:=201
theorem rc:Tryz.prog.funcs[201]?=some Tryz.f201:=Tryz.func201
theorem qY:(Tryz.f201.name == "runtime.NumGoroutine" || Tryz.f201.body.isNone)=false:=by kernel_rfl
abbrev vZ:Nat:=202
theorem lV:Tryz.prog.funcs[202]?=some Tryz.f202:=Tryz.func202
theorem lU:(Tryz.f202.name == "runtime.NumGoroutine" || Tryz.f202.body.isNone)=false:=by kernel_rfl
abbrev Af:Nat:=203
theorem yu:Tryz.prog.funcs[203]?=some Tryz.f203:=Tryz.func203
theorem yM:(Tryz.f203.name == "runtime.NumGoroutine" || Tryz.f203.body.isNone)=false:=by kernel_rfl

end Go.Proofs.YtemmhhdnlbmicaaGreat
