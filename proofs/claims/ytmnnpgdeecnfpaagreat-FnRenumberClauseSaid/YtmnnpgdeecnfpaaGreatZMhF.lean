/- Made by program: names for the numbers of functions and types, and closed facts on them. -/
import Derived.Test.YtmnnpgdeecnfpaaGreatZMhS
import Derived.Test.YtmnnpgdeecnfpaaGreatProg
import Derived.KernelRfl
namespace Go.Proofs.YtmnnpgdeecnfpaaGreat
open Go
abbrev gN:Nat:=3
theorem bw:md Tryz.prog 3=true:=by kernel_rfl
theorem FB:mQ Tryz.prog 3=some (.int .i64 0):=by kernel_rfl
theorem lT:Tryz.prog.underlying 3=some (.int .i64):=by kernel_rfl
abbrev Fx:Nat:=4
theorem sH:Tryz.prog.underlying 4=some .bool:=by kernel_rfl
abbrev xn:Nat:=5
theorem tl:md Tryz.prog 5=true:=by kernel_rfl
theorem fa:Tryz.prog.underlying 5=some (.int .u8):=by kernel_rfl
abbrev gz:Nat:=9
theorem bq:md Tryz.prog 9=true:=by kernel_rfl
theorem bf:Tryz.prog.underlying 9=some .string:=by kernel_rfl
abbrev yr:Nat:=22
theorem fy:md Tryz.prog 22=true:=by kernel_rfl
theorem qj:mX Tryz.prog 22=some (5,1,1,(.int .u8 0)):=by kernel_rfl
theorem dO:dC Tryz.prog 22=some (5,1):=by kernel_rfl
theorem qP:mX Tryz.prog 23=some (34,5,80,(.agg #[(.int .i64 0),(.int .i64 0),(.string ⟨#[]⟩),(.slice none 0 0),(.slice none 0 0)])):=by kernel_rfl
theorem rC:dC Tryz.prog 23=some (34,5):=by kernel_rfl
abbrev oU:Nat:=30
theorem aV:md Tryz.prog 30=true:=by kernel_rfl
theorem bt:mX Tryz.prog 30=some (32,4,56,(.agg #[(.int .i64 0),(.int .i64 0),(.string ⟨#[]⟩),(.slice none 0 0)])):=by kernel_rfl
theorem aS:dC Tryz.prog 30=some (32,4):=by kernel_rfl
abbrev ac:Nat:=32
theorem aj:qv Tryz.prog 32=some 4:=by kernel_rfl
theorem bx:mQ Tryz.prog 32=some (.agg #[(.int .i64 0),(.int .i64 0),(.string ⟨#[]⟩),(.slice none 0 0)]):=by kernel_rfl
theorem bF:eD Tryz.prog 32 0=some 0:=by kernel_rfl
theorem bE:eD Tryz.prog 32 1=some 1:=by kernel_rfl
theorem bu:eD Tryz.prog 32 2=some 2:=by kernel_rfl
theorem a9:eD Tryz.prog 32 3=some 3:=by kernel_rfl
abbrev ai:Nat:=34
theorem aW:qv Tryz.prog 34=some 5:=by kernel_rfl
theorem bI:mQ Tryz.prog 34=some (.agg #[(.int .i64 0),(.int .i64 0),(.string ⟨#[]⟩),(.slice none 0 0),(.slice none 0 0)]):=by kernel_rfl
theorem cm:eD Tryz.prog 34 0=some 0:=by kernel_rfl
theorem bi:eD Tryz.prog 34 1=some 4:=by kernel_rfl
abbrev lu:Nat:=63
theorem BZ:md Tryz.prog 63=true:=by kernel_rfl
theorem EH:mQ Tryz.prog 63=some (.slice none 0 0):=by kernel_rfl
theorem nw:mX Tryz.prog 63=some (3,1,8,(.int .i64 0)):=by kernel_rfl
theorem iZ:dC Tryz.prog 63=some (3,1):=by kernel_rfl
abbrev wk:Nat:=82
theorem tp:mX Tryz.prog 82=some (9,1,16,(.string ⟨#[]⟩)):=by kernel_rfl
theorem cJ:dC Tryz.prog 82=some (9,1):=by kernel_rfl
abbrev yo:Nat:=102
theorem ex:eD Tryz.prog 102 0=some 0:=by kernel_rfl
theorem lg:eD Tryz.prog 102 1=some 1:=by kernel_rfl
abbrev jP:Nat:=111
theorem xy:md Tryz.prog 111=true:=by kernel_rfl
abbrev cn:Nat:=8
abbrev rS:Nat:=22
theorem jB:Tryz.prog.funcs[22]?=some Tryz.f22:=Tryz.func22
theorem jJ:(Tryz.f22.name == "runtime.NumGoroutine" || Tryz.f22.body.isNone)=false:=by kernel_rfl
abbrev jR:Nat:=33
theorem jL:Tryz.prog.funcs[33]?=some Tryz.f33:=Tryz.func33
theorem jn:(Tryz.f33.name == "runtime.NumGoroutine" || Tryz.f33.body.isNone)=false:=by kernel_rfl
abbrev m0:Nat:=34
theorem gO:Tryz.prog.funcs[34]?=some Tryz.f34:=Tryz.func34
theorem gS:(Tryz.f34.name == "runtime.NumGoroutine" || Tryz.f34.body.isNone)=false:=by kernel_rfl
abbrev mO:Nat:=35
theorem l9:Tryz.prog.funcs[35]?=some Tryz.f35:=Tryz.func35
theorem l2:(Tryz.f35.name == "runtime.NumGoroutine" || Tryz.f35.body.isNone)=false:=by kernel_rfl
abbrev lD:Nat:=36
theorem gC:Tryz.prog.funcs[36]?=some Tryz.f36:=Tryz.func36
theorem gB:(Tryz.f36.name == "runtime.NumGoroutine" || Tryz.f36.body.isNone)=false:=by kernel_rfl
abbrev pI:Nat:=37
theorem n5:Tryz.prog.funcs[37]?=some Tryz.f37:=Tryz.func37
theorem nq:(Tryz.f37.name == "runtime.NumGoroutine" || Tryz.f37.body.isNone)=false:=by kernel_rfl
abbrev zv:Nat:=50
theorem xz:Tryz.prog.funcs[50]?=some Tryz.f50:=Tryz.func50
theorem xY:(Tryz.f50.name == "runtime.NumGoroutine" || Tryz.f50.body.isNone)=false:=by kernel_rfl
abbrev xf:Nat:=59
theorem uU:Tryz.prog.funcs[59]?=some Tryz.f59:=Tryz.func59
theorem vP:(Tryz.f59.name == "runtime.NumGoroutine" || Tryz.f59.body.isNone)=false:=by kernel_rfl
abbrev tb:Nat:=61
theorem ch:Tryz.prog.funcs[61]?=some Tryz.f61:=Tryz.func61
theorem ci:(Tryz.f61.name == "runtime.NumGoroutine" || Tryz.f61.body.isNone)=false:=by kernel_rfl
abbrev x0:Nat:=62
theorem vo:Tryz.prog.funcs[62]?=some Tryz.f62:=Tryz.func62
theorem vE:(Tryz.f62.name == "runtime.NumGoroutine" || Tryz.f62.body.isNone)=false:=by kernel_rfl
abbrev r3:Nat:=64
theorem jw:Tryz.prog.funcs[64]?=some Tryz.f64:=Tryz.func64
theorem jz:(Tryz.f64.name == "runtime.NumGoroutine" || Tryz.f64.body.isNone)=false:=by kernel_rfl
abbrev vB:Nat:=66
theorem fN:Tryz.prog.funcs[66]?=some Tryz.f66:=Tryz.func66
theorem fP:(Tryz.f66.name == "runtime.NumGoroutine" || Tryz.f66.body.isNone)=false:=by kernel_rfl
abbrev zr:Nat:=67
theorem nX:Tryz.prog.funcs[67]?=some Tryz.f67:=Tryz.func67
theorem pB:(Tryz.f67.name == "runtime.NumGoroutine" || Tryz.f67.body.isNone)=false:=by kernel_rfl
abbrev sP:Nat:=68
theorem r7:Tryz.prog.funcs[68]?=some Tryz.f68:=Tryz.func68
theorem r6:(Tryz.f68.name == "runtime.NumGoroutine" || Tryz.f68.body.isNone)=false:=by kernel_rfl
abbrev jt:Nat:=72
theorem oK:Tryz.prog.funcs[72]?=some Tryz.f72:=Tryz.func72
theorem oV:(Tryz.f72.name == "runtime.NumGoroutine" || Tryz.f72.body.isNone)=false:=by kernel_rfl
abbrev yA:Nat:=80
theorem jS:Tryz.prog.funcs[80]?=some Tryz.f80:=Tryz.func80
theorem jQ:(Tryz.f80.name == "runtime.NumGoroutine" || Tryz.f80.body.isNone)=false:=by kernel_rfl
abbrev vd:Nat:=81
theorem tY:Tryz.prog.funcs[81]?=some Tryz.f81:=Tryz.func81
theorem tS:(Tryz.f81.name == "runtime.NumGoroutine" || Tryz.f81.body.isNone)=false:=by kernel_rfl
abbrev ob:Nat:=82
theorem vt:Tryz.prog.funcs[82]?=some Tryz.f82:=Tryz.func82
theorem vJ:(Tryz.f82.name == "runtime.NumGoroutine" || Tryz.f82.body.isNone)=false:=by kernel_rfl
abbrev up:Nat:=83
theorem r2:Tryz.prog.funcs[83]?=some Tryz.f83:=Tryz.func83
theorem rQ:(Tryz.f83.name == "runtime.NumGoroutine" || Tryz.f83.body.isNone)=false:=by kernel_rfl
abbrev jU:Nat:=84
theorem jd:Tryz.prog.funcs[84]?=some Tryz.f84:=Tryz.func84
theorem jg:(Tryz.f84.name == "runtime.NumGoroutine" || Tryz.f84.body.isNone)=false:=by kernel_rfl
abbrev mV:Nat:=85
theorem gP:Tryz.prog.funcs[85]?=some Tryz.f85:=Tryz.func85
theorem gQ:(Tryz.f85.name == "runtime.NumGoroutine" || Tryz.f85.body.isNone)=false:=by kernel_rfl
abbrev sQ:Nat:=86
theorem gG:Tryz.prog.funcs[86]?=some Tryz.f86:=Tryz.func86
theorem gA:(Tryz.f86.name == "runtime.NumGoroutine" || Tryz.f86.body.isNone)=false:=by kernel_rfl
abbrev B5:Nat:=89
theorem yR:Tryz.prog.funcs[89]?=some Tryz.f89:=Tryz.func89
theorem yz:(Tryz.f89.name == "runtime.NumGoroutine" || Tryz.f89.body.isNone)=false:=by kernel_rfl
abbrev u4:Nat:=91
theorem uA:Tryz.prog.funcs[91]?=some Tryz.f91:=Tryz.func91
theorem tw:(Tryz.f91.name == "runtime.NumGoroutine" || Tryz.f91.body.isNone)=false:=by kernel_rfl
abbrev AV:Nat:=96
theorem la:Tryz.prog.funcs[96]?=some Tryz.f96:=Tryz.func96
theorem kN:(Tryz.f96.name == "runtime.NumGoroutine" || Tryz.f96.body.isNone)=false:=by kernel_rfl
abbrev qe:Nat:=99
theorem o7:Tryz.prog.funcs[99]?=some Tryz.f99:=Tryz.func99
theorem oj:(Tryz.f99.name == "runtime.NumGoroutine" || Tryz.f99.body.isNone)=false:=by kernel_rfl
abbrev pq:Nat:=106
theorem c9:Tryz.prog.funcs[106]?=some Tryz.f106:=Tryz.func106
theorem db:(Tryz.f106.name == "runtime.NumGoroutine" || Tryz.f106.body.isNone)=false:=by kernel_rfl
abbrev wW:Nat:=109
theorem eJ:Tryz.prog.funcs[109]?=some Tryz.f109:=Tryz.func109
theorem eH:(Tryz.f109.name == "runtime.NumGoroutine" || Tryz.f109.body.isNone)=false:=by kernel_rfl
abbrev AR:Nat:=110
theorem eU:Tryz.prog.funcs[110]?=some Tryz.f110:=Tryz.func110
theorem eZ:(Tryz.f110.name == "runtime.NumGoroutine" || Tryz.f110.body.isNone)=false:=by kernel_rfl
abbrev tr:Nat:=111
theorem rp:Tryz.prog.funcs[111]?=some Tryz.f111:=Tryz.func111
theorem qY:(Tryz.f111.name == "runtime.NumGoroutine" || Tryz.f111.body.isNone)=false:=by kernel_rfl
abbrev xl:Nat:=112
theorem mh:Tryz.prog.funcs[112]?=some Tryz.f112:=Tryz.func112
theorem mC:(Tryz.f112.name == "runtime.NumGoroutine" || Tryz.f112.body.isNone)=false:=by kernel_rfl
abbrev A0:Nat:=113
theorem rJ:Tryz.prog.funcs[113]?=some Tryz.f113:=Tryz.func113
theorem rn:(Tryz.f113.name == "runtime.NumGoroutine" || Tryz.f113.body.isNone)=false:=by kernel_rfl
abbrev vC:Nat:=114
theorem tI:Tryz.prog.funcs[114]?=some Tryz.f114:=Tryz.func114
theorem sN:(Tryz.f114.name == "runtime.NumGoroutine" || Tryz.f114.body.isNone)=false:=by kernel_rfl
abbrev vF:Nat:=115
theorem kP:Tryz.prog.funcs[115]?=some Tryz.f115:=Tryz.func115
theorem kJ:(Tryz.f115.name == "runtime.NumGoroutine" || Tryz.f115.body.isNone)=false:=by kernel_rfl
abbrev yQ:Nat:=116
theorem oh:Tryz.prog.funcs[116]?=some Tryz.f116:=Tryz.func116
theorem nn:(Tryz.f116.name == "runtime.NumGoroutine" || Tryz.f116.body.isNone)=false:=by kernel_rfl
abbrev DN:Nat:=118
theorem wv:Tryz.prog.funcs[118]?=some Tryz.f118:=Tryz.func118
theorem wD:(Tryz.f118.name == "runtime.NumGoroutine" || Tryz.f118.body.isNone)=false:=by kernel_rfl
abbrev uP:Nat:=119
theorem lB:Tryz.prog.funcs[119]?=some Tryz.f119:=Tryz.func119
theorem kW:(Tryz.f119.name == "runtime.NumGoroutine" || Tryz.f119.body.isNone)=false:=by kernel_rfl
abbrev Dj:Nat:=120
theorem Cg:Tryz.prog.funcs[120]?=some Tryz.f120:=Tryz.func120
theorem CD:(Tryz.f120.name == "runtime.NumGoroutine" || Tryz.f120.body.isNone)=false:=by kernel_rfl
abbrev yE:Nat:=121
theorem oP:Tryz.prog.funcs[121]?=some Tryz.f121:=Tryz.func121
theorem o8:(Tryz.f121.name == "runtime.NumGoroutine" || Tryz.f121.body.isNone)=false:=by kernel_rfl
abbrev kC:Nat:=122
theorem fL:Tryz.prog.funcs[122]?=some Tryz.f122:=Tryz.func122
theorem fE:(Tryz.f122.name == "runtime.NumGoroutine" || Tryz.f122.body.isNone)=false:=by kernel_rfl
abbrev jq:Nat:=123
theorem oQ:Tryz.prog.funcs[123]?=some Tryz.f123:=Tryz.func123
theorem oo:(Tryz.f123.name == "runtime.NumGoroutine" || Tryz.f123.body.isNone)=false:=by kernel_rfl
abbrev vQ:Nat:=124
theorem tG:Tryz.prog.funcs[124]?=some Tryz.f124:=Tryz.func124
theorem tf:(Tryz.f124.name == "runtime.NumGoroutine" || Tryz.f124.body.isNone)=false:=by kernel_rfl
abbrev Af:Nat:=125
theorem yY:Tryz.prog.funcs[125]?=some Tryz.f125:=Tryz.func125
theorem zL:(Tryz.f125.name == "runtime.NumGoroutine" || Tryz.f125.body.isNone)=false:=by kernel_rfl
abbrev sd:Nat:=126
theorem pJ:Tryz.prog.funcs[126]?=some Tryz.f126:=Tryz.func126
theorem pL:(Tryz.f126.name == "runtime.NumGoroutine" || Tryz.f126.body.isNone)=false:=by kernel_rfl
abbrev rm:Nat:=128
theorem o0:Tryz.prog.funcs[128]?=some Tryz.f128:=Tryz.func128
theorem oi:(Tryz.f128.name == "runtime.NumGoroutine" || Tryz.f128.body.isNone)=false:=by kernel_rfl
abbrev uO:Nat:=129
theorem uw:Tryz.prog.funcs[129]?=some Tryz.f129:=Tryz.func129
theorem uk:(Tryz.f129.name == "runtime.NumGoroutine" || Tryz.f129.body.isNone)=false:=by kernel_rfl
abbrev s5:Nat:=130
theorem r5:Tryz.prog.funcs[130]?=some Tryz.f130:=Tryz.func130
theorem sA:(Tryz.f130.name == "runtime.NumGoroutine" || Tryz.f130.body.isNone)=false:=by kernel_rfl
abbrev Ay:Nat:=131
theorem zg:Tryz.prog.funcs[131]?=some Tryz.f131:=Tryz.func131
theorem zp:(Tryz.f131.name == "runtime.NumGoroutine" || Tryz.f131.body.isNone)=false:=by kernel_rfl
abbrev rb:Nat:=132
theorem o4:Tryz.prog.funcs[132]?=some Tryz.f132:=Tryz.func132
theorem np:(Tryz.f132.name == "runtime.NumGoroutine" || Tryz.f132.body.isNone)=false:=by kernel_rfl
abbrev fe:Nat:=133
theorem nN:Tryz.prog.funcs[133]?=some Tryz.f133:=Tryz.func133
theorem oc:(Tryz.f133.name == "runtime.NumGoroutine" || Tryz.f133.body.isNone)=false:=by kernel_rfl
abbrev wY:Nat:=134
theorem uZ:Tryz.prog.funcs[134]?=some Tryz.f134:=Tryz.func134
theorem u3:(Tryz.f134.name == "runtime.NumGoroutine" || Tryz.f134.body.isNone)=false:=by kernel_rfl
abbrev vl:Nat:=135
theorem lO:Tryz.prog.funcs[135]?=some Tryz.f135:=Tryz.func135
theorem lQ:(Tryz.f135.name == "runtime.NumGoroutine" || Tryz.f135.body.isNone)=false:=by kernel_rfl
abbrev zN:Nat:=136
theorem xg:Tryz.prog.funcs[136]?=some Tryz.f136:=Tryz.func136
theorem xS:(Tryz.f136.name == "runtime.NumGoroutine" || Tryz.f136.body.isNone)=false:=by kernel_rfl
abbrev vr:Nat:=140
theorem eR:Tryz.prog.funcs[140]?=some Tryz.f140:=Tryz.func140
theorem fb:(Tryz.f140.name == "runtime.NumGoroutine" || Tryz.f140.body.isNone)=false:=by kernel_rfl
abbrev CS:Nat:=141
theorem A5:Tryz.prog.funcs[141]?=some Tryz.f141:=Tryz.func141
theorem Ap:(Tryz.f141.name == "runtime.NumGoroutine" || Tryz.f141.body.isNone)=false:=by kernel_rfl
abbrev CJ:Nat:=147
theorem Ar:Tryz.prog.funcs[147]?=some Tryz.f147:=Tryz.func147
theorem Bp:(Tryz.f147.name == "runtime.NumGoroutine" || Tryz.f147.body.isNone)=false:=by kernel_rfl
abbrev CY:Nat:=148
theorem tn:Tryz.prog.funcs[148]?=some Tryz.f148:=Tryz.func148
theorem uG:(Tryz.f148.name == "runtime.NumGoroutine" || Tryz.f148.body.isNone)=false:=by kernel_rfl
abbrev CX:Nat:=149
theorem mL:Tryz.prog.funcs[149]?=some Tryz.f149:=Tryz.func149
theorem mS:(Tryz.f149.name == "runtime.NumGoroutine" || Tryz.f149.body.isNone)=false:=by kernel_rfl
abbrev m7:Nat:=150
theorem eW:Tryz.prog.funcs[150]?=some Tryz.f150:=Tryz.func150
theorem eT:(Tryz.f150.name == "runtime.NumGoroutine" || Tryz.f150.body.isNone)=false:=by kernel_rfl
abbrev AU:Nat:=151
theorem zF:Tryz.prog.funcs[151]?=some Tryz.f151:=Tryz.func151
theorem zl:(Tryz.f151.name == "runtime.NumGoroutine" || Tryz.f151.body.isNone)=false:=by kernel_rfl
abbrev y5:Nat:=152
theorem nz:Tryz.prog.funcs[152]?=some Tryz.f152:=Tryz.func152
theorem pA:(Tryz.f152.name == "runtime.NumGoroutine" || Tryz.f152.body.isNone)=false:=by kernel_rfl
abbrev zq:Nat:=153
theorem oE:Tryz.prog.funcs[153]?=some Tryz.f153:=Tryz.func153
theorem ny:(Tryz.f153.name == "runtime.NumGoroutine" || Tryz.f153.body.isNone)=false:=by kernel_rfl
abbrev Bf:Nat:=154
theorem re:Tryz.prog.funcs[154]?=some Tryz.f154:=Tryz.func154
theorem rL:(Tryz.f154.name == "runtime.NumGoroutine" || Tryz.f154.body.isNone)=false:=by kernel_rfl
abbrev vj:Nat:=155
theorem lK:Tryz.prog.funcs[155]?=some Tryz.f155:=Tryz.func155
theorem lo:(Tryz.f155.name == "runtime.NumGoroutine" || Tryz.f155.body.isNone)=false:=by kernel_rfl
abbrev zM:Nat:=156
theorem eC:Tryz.prog.funcs[156]?=some Tryz.f156:=Tryz.func156
theorem ez:(Tryz.f156.name == "runtime.NumGoroutine" || Tryz.f156.body.isNone)=false:=by kernel_rfl
abbrev vg:Nat:=157
theorem sX:Tryz.prog.funcs[157]?=some Tryz.f157:=Tryz.func157
theorem s6:(Tryz.f157.name == "runtime.NumGoroutine" || Tryz.f157.body.isNone)=false:=by kernel_rfl
abbrev BD:Nat:=158
theorem yi:Tryz.prog.funcs[158]?=some Tryz.f158:=Tryz.func158
theorem zd:(Tryz.f158.name == "runtime.NumGoroutine" || Tryz.f158.body.isNone)=false:=by kernel_rfl
abbrev zi:Nat:=159
theorem wV:Tryz.prog.funcs[159]?=some Tryz.f159:=Tryz.func159
theorem xO:(Tryz.f159.name == "runtime.NumGoroutine" || Tryz.f159.body.isNone)=false:=by kernel_rfl
abbrev vA:Nat:=160
theorem s4:Tryz.prog.funcs[160]?=some Tryz.f160:=Tryz.func160
theorem ua:(Tryz.f160.name == "runtime.NumGoroutine" || Tryz.f160.body.isNone)=false:=by kernel_rfl
abbrev mY:Nat:=161
theorem l6:Tryz.prog.funcs[161]?=some Tryz.f161:=Tryz.func161
theorem mc:(Tryz.f161.name == "runtime.NumGoroutine" || Tryz.f161.body.isNone)=false:=by kernel_rfl
abbrev Aj:Nat:=162
theorem eP:Tryz.prog.funcs[162]?=some Tryz.f162:=Tryz.func162
theorem eQ:(Tryz.f162.name == "runtime.NumGoroutine" || Tryz.f162.body.isNone)=false:=by kernel_rfl
abbrev Bx:Nat:=163
theorem cZ:Tryz.prog.funcs[163]?=some Tryz.f163:=Tryz.func163
theorem c3:(Tryz.f163.name == "runtime.NumGoroutine" || Tryz.f163.body.isNone)=false:=by kernel_rfl
abbrev zW:Nat:=164
theorem xI:Tryz.prog.funcs[164]?=some Tryz.f164:=Tryz.func164
theorem wO:(Tryz.f164.name == "runtime.NumGoroutine" || Tryz.f164.body.isNone)=false:=by kernel_rfl
abbrev qA:Nat:=165
theorem o9:Tryz.prog.funcs[165]?=some Tryz.f165:=Tryz.func165
theorem pp:(Tryz.f165.name == "runtime.NumGoroutine" || Tryz.f165.body.isNone)=false:=by kernel_rfl
abbrev AP:Nat:=166
theorem qG:Tryz.prog.funcs[166]?=some Tryz.f166:=Tryz.func166
theorem rh:(Tryz.f166.name == "runtime.NumGoroutine" || Tryz.f166.body.isNone)=false:=by kernel_rfl
abbrev xZ:Nat:=167
theorem mp:Tryz.prog.funcs[167]?=some Tryz.f167:=Tryz.func167
theorem mq:(Tryz.f167.name == "runtime.NumGoroutine" || Tryz.f167.body.isNone)=false:=by kernel_rfl
abbrev zn:Nat:=168
theorem pk:Tryz.prog.funcs[168]?=some Tryz.f168:=Tryz.func168
theorem oa:(Tryz.f168.name == "runtime.NumGoroutine" || Tryz.f168.body.isNone)=false:=by kernel_rfl
abbrev Be:Nat:=172
theorem yZ:Tryz.prog.funcs[172]?=some Tryz.f172:=Tryz.func172
theorem zf:(Tryz.f172.name == "runtime.NumGoroutine" || Tryz.f172.body.isNone)=false:=by kernel_rfl
abbrev Ci:Nat:=176
theorem Bh:Tryz.prog.funcs[176]?=some Tryz.f176:=Tryz.func176
theorem BC:(Tryz.f176.name == "runtime.NumGoroutine" || Tryz.f176.body.isNone)=false:=by kernel_rfl
abbrev l3:Nat:=177
theorem lL:Tryz.prog.funcs[177]?=some Tryz.f177:=Tryz.func177
theorem kR:(Tryz.f177.name == "runtime.NumGoroutine" || Tryz.f177.body.isNone)=false:=by kernel_rfl
abbrev zj:Nat:=178
theorem xV:Tryz.prog.funcs[178]?=some Tryz.f178:=Tryz.func178
theorem wN:(Tryz.f178.name == "runtime.NumGoroutine" || Tryz.f178.body.isNone)=false:=by kernel_rfl
abbrev zA:Nat:=179
theorem xm:Tryz.prog.funcs[179]?=some Tryz.f179:=Tryz.func179
theorem xG:(Tryz.f179.name == "runtime.NumGoroutine" || Tryz.f179.body.isNone)=false:=by kernel_rfl
abbrev D1:Nat:=180
theorem CU:Tryz.prog.funcs[180]?=some Tryz.f180:=Tryz.func180
theorem Cj:(Tryz.f180.name == "runtime.NumGoroutine" || Tryz.f180.body.isNone)=false:=by kernel_rfl
abbrev Ba:Nat:=181
theorem yJ:Tryz.prog.funcs[181]?=some Tryz.f181:=Tryz.func181
theorem yf:(Tryz.f181.name == "runtime.NumGoroutine" || Tryz.f181.body.isNone)=false:=by kernel_rfl
abbrev vR:Nat:=183
theorem tq:Tryz.prog.funcs[183]?=some Tryz.f183:=Tryz.func183
theorem tA:(Tryz.f183.name == "runtime.NumGoroutine" || Tryz.f183.body.isNone)=false:=by kernel_rfl
abbrev pV:Nat:=184
theorem oZ:Tryz.prog.funcs[184]?=some Tryz.f184:=Tryz.func184
theorem nS:(Tryz.f184.name == "runtime.NumGoroutine" || Tryz.f184.body.isNone)=false:=by kernel_rfl
abbrev ze:Nat:=186
theorem xK:Tryz.prog.funcs[186]?=some Tryz.f186:=Tryz.func186
theorem wS:(Tryz.f186.name == "runtime.NumGoroutine" || Tryz.f186.body.isNone)=false:=by kernel_rfl
abbrev zz:Nat:=187
theorem gU:Tryz.prog.funcs[187]?=some Tryz.f187:=Tryz.func187
theorem gV:(Tryz.f187.name == "runtime.NumGoroutine" || Tryz.f187.body.isNone)=false:=by kernel_rfl
abbrev xb:Nat:=188
theorem uV:Tryz.prog.funcs[188]?=some Tryz.f188:=Tryz.func188
theorem u6:(Tryz.f188.name == "runtime.NumGoroutine" || Tryz.f188.body.isNone)=false:=by kernel_rfl
abbrev Bl:Nat:=189
theorem ro:Tryz.prog.funcs[189]?=some Tryz.f189:=Tryz.func189
theorem ru:(Tryz.f189.name == "runtime.NumGoroutine" || Tryz.f189.body.isNone)=false:=by kernel_rfl
abbrev yq:Nat:=190
theorem om:Tryz.prog.funcs[190]?=some Tryz.f190:=Tryz.func190
theorem n9:(Tryz.f190.name == "runtime.NumGoroutine" || Tryz.f190.body.isNone)=false:=by kernel_rfl
abbrev AQ:Nat:=191
theorem eV:Tryz.prog.funcs[191]?=some Tryz.f191:=Tryz.func191
theorem eS:(Tryz.f191.name == "runtime.NumGoroutine" || Tryz.f191.body.isNone)=false:=by kernel_rfl
abbrev Ck:Nat:=193
theorem BB:Tryz.prog.funcs[193]?=some Tryz.f193:=Tryz.func193
theorem AM:(Tryz.f193.name == "runtime.NumGoroutine" || Tryz.f193.body.isNone)=false:=by kernel_rfl
abbrev zb:Nat:=194
theorem nK:Tryz.prog.funcs[194]?=some Tryz.f194:=Tryz.func194
theorem pl:(Tryz.f194.name == "runtime.NumGoroutine" || Tryz.f194.body.isNone)=false:=by kernel_rfl
abbrev zE:Nat:=195
theorem pj:Tryz.prog.funcs[195]?=some Tryz.f195:=Tryz.func195
theorem o6:(Tryz.f195.name == "runtime.NumGoroutine" || Tryz.f195.body.isNone)=false:=by kernel_rfl
abbrev Ak:Nat:=196
theorem yG:Tryz.prog.funcs[196]?=some Tryz.f196:=Tryz.func196
theorem zS:(Tryz.f196.name == "runtime.NumGoroutine" || Tryz.f196.body.isNone)=false:=by kernel_rfl
abbrev zG:Nat:=197
theorem ot:Tryz.prog.funcs[197]?=some Tryz.f197:=Tryz.func197
theorem nZ:(Tryz.f197.name == "runtime.NumGoroutine" || Tryz.f197.body.isNone)=false:=by kernel_rfl
abbrev Bj:Nat:=198
theorem kL:Tryz.prog.funcs[198]?=some Tryz.f198:=Tryz.func198
theorem kX:(Tryz.f198.name == "runtime.NumGoroutine" || Tryz.f198.body.isNone)=false:=by kernel_rfl
abbrev Bc:Nat:=199
theorem zZ:Tryz.prog.funcs[199]?=some Tryz.f199:=Tryz.func199
theorem yt:(Tryz.f199.name == "runtime.NumGoroutine" || Tryz.f199.body.isNone)=false:=by kernel_rfl
abbrev z0:Nat:=200
theorem oB:Tryz.prog.funcs[200]?=some Tryz.f200:=Tryz.func200
theorem oe:(Tryz.f200.name == "runtime.NumGoroutine" || Tryz.f200.body.isNone)=false:=by kernel_rfl
abbrev Bg:Nat:=201
theorem zI:Tryz.prog.funcs[201]?=some Tryz.f201:=Tryz.func201
theorem yh:(Tryz.f201.name == "runtime.NumGoroutine" || Tryz.f201.body.isNone)=false:=by kernel_rfl
abbrev xH:Nat:=202
theorem vm:Tryz.prog.funcs[202]?=some Tryz.f202:=Tryz.func202
theorem uX:(Tryz.f202.name == "runtime.NumGoroutine" || Tryz.f202.body.isNone)=false:=by kernel_rfl
abbrev yW:Nat:=203
theorem wM:Tryz.prog.funcs[203]?=some Tryz.f203:=Tryz.func203
theorem xu:(Tryz.f203.name == "runtime.NumGoroutine" || Tryz.f203.body.isNone)=false:=by kernel_rfl
abbrev Ad:Nat:=204
theorem kM:Tryz.prog.funcs[204]?=some Tryz.f204:=Tryz.func204
theorem lq:(Tryz.f204.name == "runtime.NumGoroutine" || Tryz.f204.body.isNone)=false:=by kernel_rfl
abbrev Bt:Nat:=205
theorem zH:Tryz.prog.funcs[205]?=some Tryz.f205:=Tryz.func205
theorem zX:(Tryz.f205.name == "runtime.NumGoroutine" || Tryz.f205.body.isNone)=false:=by kernel_rfl
abbrev Cv:Nat:=206
theorem Ai:Tryz.prog.funcs[206]?=some Tryz.f206:=Tryz.func206
theorem Bu:(Tryz.f206.name == "runtime.NumGoroutine" || Tryz.f206.body.isNone)=false:=by kernel_rfl
abbrev Ah:Nat:=207
theorem qT:Tryz.prog.funcs[207]?=some Tryz.f207:=Tryz.func207
theorem rc:(Tryz.f207.name == "runtime.NumGoroutine" || Tryz.f207.body.isNone)=false:=by kernel_rfl
abbrev vz:Nat:=208
theorem li:Tryz.prog.funcs[208]?=some Tryz.f208:=Tryz.func208
theorem lc:(Tryz.f208.name == "runtime.NumGoroutine" || Tryz.f208.body.isNone)=false:=by kernel_rfl
abbrev z3:Nat:=209
theorem ya:Tryz.prog.funcs[209]?=some Tryz.f209:=Tryz.func209
theorem xi:(Tryz.f209.name == "runtime.NumGoroutine" || Tryz.f209.body.isNone)=false:=by kernel_rfl
abbrev xr:Nat:=210
theorem uY:Tryz.prog.funcs[210]?=some Tryz.f210:=Tryz.func210
theorem vD:(Tryz.f210.name == "runtime.NumGoroutine" || Tryz.f210.body.isNone)=false:=by kernel_rfl
abbrev CW:Nat:=211
theorem AL:Tryz.prog.funcs[211]?=some Tryz.f211:=Tryz.func211
theorem A1:(Tryz.f211.name == "runtime.NumGoroutine" || Tryz.f211.body.isNone)=false:=by kernel_rfl
abbrev Aw:Nat:=213
theorem rv:Tryz.prog.funcs[213]?=some Tryz.f213:=Tryz.func213
theorem rG:(Tryz.f213.name == "runtime.NumGoroutine" || Tryz.f213.body.isNone)=false:=by kernel_rfl

end Go.Proofs.YtmnnpgdeecnfpaaGreat
