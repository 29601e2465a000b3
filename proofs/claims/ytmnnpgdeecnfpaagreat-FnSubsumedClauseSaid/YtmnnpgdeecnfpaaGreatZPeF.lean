/- Made by program: names for the numbers of functions and types, and closed facts on them. -/
import Derived.Test.YtmnnpgdeecnfpaaGreatRules2
import Derived.Test.YtmnnpgdeecnfpaaGreatProg
import Derived.KernelRfl
namespace Go.Proofs.YtmnnpgdeecnfpaaGreat
open Go
abbrev eT:Nat:=3
theorem aC:isSc Tryz.prog 3=true:=by kernel_rfl
theorem yf:zeroOf Tryz.prog 3=some (.int .i64 0):=by kernel_rfl
theorem dw:Tryz.prog.underlying 3=some (.int .i64):=by kernel_rfl
abbrev xS:Nat:=4
theorem dp:Tryz.prog.underlying 4=some .bool:=by kernel_rfl
abbrev ql:Nat:=5
theorem oC:isSc Tryz.prog 5=true:=by kernel_rfl
theorem bX:Tryz.prog.underlying 5=some (.int .u8):=by kernel_rfl
abbrev cW:Nat:=9
theorem az:isSc Tryz.prog 9=true:=by kernel_rfl
theorem av:Tryz.prog.underlying 9=some .string:=by kernel_rfl
abbrev r2:Nat:=22
theorem cw:isSc Tryz.prog 22=true:=by kernel_rfl
theorem lk:mkOf Tryz.prog 22=some (5,1,1,(.int .u8 0)):=by kernel_rfl
theorem bi:sliceOf Tryz.prog 22=some (5,1):=by kernel_rfl
theorem lq:mkOf Tryz.prog 23=some (34,5,80,(.agg #[(.int .i64 0),(.int .i64 0),(.string ⟨#[]⟩),(.slice none 0 0),(.slice none 0 0)])):=by kernel_rfl
theorem mg:sliceOf Tryz.prog 23=some (34,5):=by kernel_rfl
abbrev jd:Nat:=30
theorem ao:isSc Tryz.prog 30=true:=by kernel_rfl
theorem aR:mkOf Tryz.prog 30=some (32,4,56,(.agg #[(.int .i64 0),(.int .i64 0),(.string ⟨#[]⟩),(.slice none 0 0)])):=by kernel_rfl
theorem aq:sliceOf Tryz.prog 30=some (32,4):=by kernel_rfl
abbrev ad:Nat:=32
theorem aj:aggN Tryz.prog 32=some 4:=by kernel_rfl
theorem aK:zeroOf Tryz.prog 32=some (.agg #[(.int .i64 0),(.int .i64 0),(.string ⟨#[]⟩),(.slice none 0 0)]):=by kernel_rfl
theorem aI:fieldOff Tryz.prog 32 0=some 0:=by kernel_rfl
theorem aJ:fieldOff Tryz.prog 32 1=some 1:=by kernel_rfl
theorem aA:fieldOff Tryz.prog 32 2=some 2:=by kernel_rfl
theorem ar:fieldOff Tryz.prog 32 3=some 3:=by kernel_rfl
abbrev af:Nat:=34
theorem al:aggN Tryz.prog 34=some 5:=by kernel_rfl
theorem aP:zeroOf Tryz.prog 34=some (.agg #[(.int .i64 0),(.int .i64 0),(.string ⟨#[]⟩),(.slice none 0 0),(.slice none 0 0)]):=by kernel_rfl
theorem aQ:fieldOff Tryz.prog 34 0=some 0:=by kernel_rfl
theorem aw:fieldOff Tryz.prog 34 1=some 4:=by kernel_rfl
abbrev xu:Nat:=63
theorem ud:sliceOf Tryz.prog 63=some (3,1):=by kernel_rfl
theorem dQ:Tryz.prog.underlying 77=some (.map 3 32):=by kernel_rfl
abbrev pG:Nat:=82
theorem mX:mkOf Tryz.prog 82=some (9,1,16,(.string ⟨#[]⟩)):=by kernel_rfl
theorem aZ:sliceOf Tryz.prog 82=some (9,1):=by kernel_rfl
abbrev sd:Nat:=102
theorem bH:fieldOff Tryz.prog 102 0=some 0:=by kernel_rfl
theorem fQ:fieldOff Tryz.prog 102 1=some 1:=by kernel_rfl
abbrev ex:Nat:=111
theorem p9:isSc Tryz.prog 111=true:=by kernel_rfl
abbrev aT:Nat:=4
abbrev aW:Nat:=5
abbrev eD:Nat:=19
theorem bF:Tryz.prog.funcs[19]?=some Tryz.f19:=Tryz.func19
theorem bD:(Tryz.f19.name == "runtime.NumGoroutine" || Tryz.f19.body.isNone)=false:=by kernel_rfl
abbrev iD:Nat:=20
theorem aY:Tryz.prog.funcs[20]?=some Tryz.f20:=Tryz.func20
theorem aX:(Tryz.f20.name == "runtime.NumGoroutine" || Tryz.f20.body.isNone)=false:=by kernel_rfl
abbrev io:Nat:=21
theorem bC:Tryz.prog.funcs[21]?=some Tryz.f21:=Tryz.func21
theorem bB:(Tryz.f21.name == "runtime.NumGoroutine" || Tryz.f21.body.isNone)=false:=by kernel_rfl
abbrev mu:Nat:=22
theorem bq:Tryz.prog.funcs[22]?=some Tryz.f22:=Tryz.func22
theorem bt:(Tryz.f22.name == "runtime.NumGoroutine" || Tryz.f22.body.isNone)=false:=by kernel_rfl
abbrev fw:Nat:=23
theorem eZ:Tryz.prog.funcs[23]?=some Tryz.f23:=Tryz.func23
theorem fa:(Tryz.f23.name == "runtime.NumGoroutine" || Tryz.f23.body.isNone)=false:=by kernel_rfl
abbrev sB:Nat:=50
theorem rg:Tryz.prog.funcs[50]?=some Tryz.f50:=Tryz.func50
theorem qQ:(Tryz.f50.name == "runtime.NumGoroutine" || Tryz.f50.body.isNone)=false:=by kernel_rfl
abbrev qE:Nat:=59
theorem gK:Tryz.prog.funcs[59]?=some Tryz.f59:=Tryz.func59
theorem ic:(Tryz.f59.name == "runtime.NumGoroutine" || Tryz.f59.body.isNone)=false:=by kernel_rfl
abbrev qO:Nat:=60
theorem oQ:Tryz.prog.funcs[60]?=some Tryz.f60:=Tryz.func60
theorem oO:(Tryz.f60.name == "runtime.NumGoroutine" || Tryz.f60.body.isNone)=false:=by kernel_rfl
abbrev nj:Nat:=61
theorem aM:Tryz.prog.funcs[61]?=some Tryz.f61:=Tryz.func61
theorem aL:(Tryz.f61.name == "runtime.NumGoroutine" || Tryz.f61.body.isNone)=false:=by kernel_rfl
abbrev rc:Nat:=62
theorem gW:Tryz.prog.funcs[62]?=some Tryz.f62:=Tryz.func62
theorem gM:(Tryz.f62.name == "runtime.NumGoroutine" || Tryz.f62.body.isNone)=false:=by kernel_rfl
abbrev qC:Nat:=63
theorem cS:Tryz.prog.funcs[63]?=some Tryz.f63:=Tryz.func63
theorem cR:(Tryz.f63.name == "runtime.NumGoroutine" || Tryz.f63.body.isNone)=false:=by kernel_rfl
abbrev mx:Nat:=64
theorem cN:Tryz.prog.funcs[64]?=some Tryz.f64:=Tryz.func64
theorem cP:(Tryz.f64.name == "runtime.NumGoroutine" || Tryz.f64.body.isNone)=false:=by kernel_rfl
abbrev sF:Nat:=65
theorem eH:Tryz.prog.funcs[65]?=some Tryz.f65:=Tryz.func65
theorem eN:(Tryz.f65.name == "runtime.NumGoroutine" || Tryz.f65.body.isNone)=false:=by kernel_rfl
abbrev oS:Nat:=66
theorem cG:Tryz.prog.funcs[66]?=some Tryz.f66:=Tryz.func66
theorem cI:(Tryz.f66.name == "runtime.NumGoroutine" || Tryz.f66.body.isNone)=false:=by kernel_rfl
abbrev rQ:Nat:=67
theorem kF:Tryz.prog.funcs[67]?=some Tryz.f67:=Tryz.func67
theorem jt:(Tryz.f67.name == "runtime.NumGoroutine" || Tryz.f67.body.isNone)=false:=by kernel_rfl
abbrev ny:Nat:=68
theorem mE:Tryz.prog.funcs[68]?=some Tryz.f68:=Tryz.func68
theorem mP:(Tryz.f68.name == "runtime.NumGoroutine" || Tryz.f68.body.isNone)=false:=by kernel_rfl
abbrev dV:Nat:=72
theorem jz:Tryz.prog.funcs[72]?=some Tryz.f72:=Tryz.func72
theorem jj:(Tryz.f72.name == "runtime.NumGoroutine" || Tryz.f72.body.isNone)=false:=by kernel_rfl
abbrev rt:Nat:=80
theorem eO:Tryz.prog.funcs[80]?=some Tryz.f80:=Tryz.func80
theorem eF:(Tryz.f80.name == "runtime.NumGoroutine" || Tryz.f80.body.isNone)=false:=by kernel_rfl
abbrev ez:Nat:=84
theorem gV:Tryz.prog.funcs[84]?=some Tryz.f84:=Tryz.func84
theorem gY:(Tryz.f84.name == "runtime.NumGoroutine" || Tryz.f84.body.isNone)=false:=by kernel_rfl
abbrev ii:Nat:=85
theorem gB:Tryz.prog.funcs[85]?=some Tryz.f85:=Tryz.func85
theorem gC:(Tryz.f85.name == "runtime.NumGoroutine" || Tryz.f85.body.isNone)=false:=by kernel_rfl
abbrev pi:Nat:=91
theorem nl:Tryz.prog.funcs[91]?=some Tryz.f91:=Tryz.func91
theorem mY:(Tryz.f91.name == "runtime.NumGoroutine" || Tryz.f91.body.isNone)=false:=by kernel_rfl
abbrev tF:Nat:=96
theorem fG:Tryz.prog.funcs[96]?=some Tryz.f96:=Tryz.func96
theorem fU:(Tryz.f96.name == "runtime.NumGoroutine" || Tryz.f96.body.isNone)=false:=by kernel_rfl
abbrev jH:Nat:=106
theorem be:Tryz.prog.funcs[106]?=some Tryz.f106:=Tryz.func106
theorem bf:(Tryz.f106.name == "runtime.NumGoroutine" || Tryz.f106.body.isNone)=false:=by kernel_rfl
abbrev qL:Nat:=109
theorem bO:Tryz.prog.funcs[109]?=some Tryz.f109:=Tryz.func109
theorem bP:(Tryz.f109.name == "runtime.NumGoroutine" || Tryz.f109.body.isNone)=false:=by kernel_rfl
abbrev tT:Nat:=110
theorem cc:Tryz.prog.funcs[110]?=some Tryz.f110:=Tryz.func110
theorem cd:(Tryz.f110.name == "runtime.NumGoroutine" || Tryz.f110.body.isNone)=false:=by kernel_rfl
abbrev nJ:Nat:=111
theorem lK:Tryz.prog.funcs[111]?=some Tryz.f111:=Tryz.func111
theorem lS:(Tryz.f111.name == "runtime.NumGoroutine" || Tryz.f111.body.isNone)=false:=by kernel_rfl
abbrev qz:Nat:=112
theorem gN:Tryz.prog.funcs[112]?=some Tryz.f112:=Tryz.func112
theorem gZ:(Tryz.f112.name == "runtime.NumGoroutine" || Tryz.f112.body.isNone)=false:=by kernel_rfl
abbrev tw:Nat:=113
theorem lM:Tryz.prog.funcs[113]?=some Tryz.f113:=Tryz.func113
theorem lw:(Tryz.f113.name == "runtime.NumGoroutine" || Tryz.f113.body.isNone)=false:=by kernel_rfl
abbrev pa:Nat:=114
theorem nZ:Tryz.prog.funcs[114]?=some Tryz.f114:=Tryz.func114
theorem nu:(Tryz.f114.name == "runtime.NumGoroutine" || Tryz.f114.body.isNone)=false:=by kernel_rfl
abbrev oI:Nat:=115
theorem fJ:Tryz.prog.funcs[115]?=some Tryz.f115:=Tryz.func115
theorem fp:(Tryz.f115.name == "runtime.NumGoroutine" || Tryz.f115.body.isNone)=false:=by kernel_rfl
abbrev rV:Nat:=116
theorem kz:Tryz.prog.funcs[116]?=some Tryz.f116:=Tryz.func116
theorem jP:(Tryz.f116.name == "runtime.NumGoroutine" || Tryz.f116.body.isNone)=false:=by kernel_rfl
abbrev rn:Nat:=117
theorem gE:Tryz.prog.funcs[117]?=some Tryz.f117:=Tryz.func117
theorem gI:(Tryz.f117.name == "runtime.NumGoroutine" || Tryz.f117.body.isNone)=false:=by kernel_rfl
abbrev wR:Nat:=118
theorem pH:Tryz.prog.funcs[118]?=some Tryz.f118:=Tryz.func118
theorem pI:(Tryz.f118.name == "runtime.NumGoroutine" || Tryz.f118.body.isNone)=false:=by kernel_rfl
abbrev pg:Nat:=119
theorem fL:Tryz.prog.funcs[119]?=some Tryz.f119:=Tryz.func119
theorem fV:(Tryz.f119.name == "runtime.NumGoroutine" || Tryz.f119.body.isNone)=false:=by kernel_rfl
abbrev xe:Nat:=120
theorem vF:Tryz.prog.funcs[120]?=some Tryz.f120:=Tryz.func120
theorem vp:(Tryz.f120.name == "runtime.NumGoroutine" || Tryz.f120.body.isNone)=false:=by kernel_rfl
abbrev rF:Nat:=121
theorem jY:Tryz.prog.funcs[121]?=some Tryz.f121:=Tryz.func121
theorem jU:(Tryz.f121.name == "runtime.NumGoroutine" || Tryz.f121.body.isNone)=false:=by kernel_rfl
abbrev fe:Nat:=122
theorem cB:Tryz.prog.funcs[122]?=some Tryz.f122:=Tryz.func122
theorem cD:(Tryz.f122.name == "runtime.NumGoroutine" || Tryz.f122.body.isNone)=false:=by kernel_rfl
abbrev ef:Nat:=123
theorem js:Tryz.prog.funcs[123]?=some Tryz.f123:=Tryz.func123
theorem jQ:(Tryz.f123.name == "runtime.NumGoroutine" || Tryz.f123.body.isNone)=false:=by kernel_rfl
abbrev oG:Nat:=124
theorem nX:Tryz.prog.funcs[124]?=some Tryz.f124:=Tryz.func124
theorem oz:(Tryz.f124.name == "runtime.NumGoroutine" || Tryz.f124.body.isNone)=false:=by kernel_rfl
abbrev tp:Nat:=125
theorem sc:Tryz.prog.funcs[125]?=some Tryz.f125:=Tryz.func125
theorem rH:(Tryz.f125.name == "runtime.NumGoroutine" || Tryz.f125.body.isNone)=false:=by kernel_rfl
abbrev my:Nat:=126
theorem kH:Tryz.prog.funcs[126]?=some Tryz.f126:=Tryz.func126
theorem kR:(Tryz.f126.name == "runtime.NumGoroutine" || Tryz.f126.body.isNone)=false:=by kernel_rfl
abbrev sx:Nat:=136
theorem qF:Tryz.prog.funcs[136]?=some Tryz.f136:=Tryz.func136
theorem qK:(Tryz.f136.name == "runtime.NumGoroutine" || Tryz.f136.body.isNone)=false:=by kernel_rfl
abbrev oJ:Nat:=140
theorem ce:Tryz.prog.funcs[140]?=some Tryz.f140:=Tryz.func140
theorem bZ:(Tryz.f140.name == "runtime.NumGoroutine" || Tryz.f140.body.isNone)=false:=by kernel_rfl
abbrev vu:Nat:=141
theorem tR:Tryz.prog.funcs[141]?=some Tryz.f141:=Tryz.func141
theorem tV:(Tryz.f141.name == "runtime.NumGoroutine" || Tryz.f141.body.isNone)=false:=by kernel_rfl
abbrev uE:Nat:=147
theorem tO:Tryz.prog.funcs[147]?=some Tryz.f147:=Tryz.func147
theorem tZ:(Tryz.f147.name == "runtime.NumGoroutine" || Tryz.f147.body.isNone)=false:=by kernel_rfl
abbrev vr:Nat:=148
theorem oB:Tryz.prog.funcs[148]?=some Tryz.f148:=Tryz.func148
theorem nI:(Tryz.f148.name == "runtime.NumGoroutine" || Tryz.f148.body.isNone)=false:=by kernel_rfl
abbrev vH:Nat:=149
theorem iA:Tryz.prog.funcs[149]?=some Tryz.f149:=Tryz.func149
theorem iC:(Tryz.f149.name == "runtime.NumGoroutine" || Tryz.f149.body.isNone)=false:=by kernel_rfl
abbrev ir:Nat:=150
theorem ca:Tryz.prog.funcs[150]?=some Tryz.f150:=Tryz.func150
theorem cf:(Tryz.f150.name == "runtime.NumGoroutine" || Tryz.f150.body.isNone)=false:=by kernel_rfl
abbrev sO:Nat:=151
theorem rI:Tryz.prog.funcs[151]?=some Tryz.f151:=Tryz.func151
theorem r4:(Tryz.f151.name == "runtime.NumGoroutine" || Tryz.f151.body.isNone)=false:=by kernel_rfl
abbrev sj:Nat:=152
theorem jl:Tryz.prog.funcs[152]?=some Tryz.f152:=Tryz.func152
theorem je:(Tryz.f152.name == "runtime.NumGoroutine" || Tryz.f152.body.isNone)=false:=by kernel_rfl
abbrev sa:Nat:=153
theorem jx:Tryz.prog.funcs[153]?=some Tryz.f153:=Tryz.func153
theorem jI:(Tryz.f153.name == "runtime.NumGoroutine" || Tryz.f153.body.isNone)=false:=by kernel_rfl
abbrev tP:Nat:=154
theorem lC:Tryz.prog.funcs[154]?=some Tryz.f154:=Tryz.func154
theorem lJ:(Tryz.f154.name == "runtime.NumGoroutine" || Tryz.f154.body.isNone)=false:=by kernel_rfl
abbrev pj:Nat:=155
theorem fO:Tryz.prog.funcs[155]?=some Tryz.f155:=Tryz.func155
theorem fy:(Tryz.f155.name == "runtime.NumGoroutine" || Tryz.f155.body.isNone)=false:=by kernel_rfl
abbrev rD:Nat:=156
theorem bM:Tryz.prog.funcs[156]?=some Tryz.f156:=Tryz.func156
theorem bI:(Tryz.f156.name == "runtime.NumGoroutine" || Tryz.f156.body.isNone)=false:=by kernel_rfl
abbrev pf:Nat:=157
theorem nD:Tryz.prog.funcs[157]?=some Tryz.f157:=Tryz.func157
theorem nY:(Tryz.f157.name == "runtime.NumGoroutine" || Tryz.f157.body.isNone)=false:=by kernel_rfl
abbrev tY:Nat:=158
theorem r5:Tryz.prog.funcs[158]?=some Tryz.f158:=Tryz.func158
theorem sm:(Tryz.f158.name == "runtime.NumGoroutine" || Tryz.f158.body.isNone)=false:=by kernel_rfl
abbrev rK:Nat:=159
theorem qB:Tryz.prog.funcs[159]?=some Tryz.f159:=Tryz.func159
theorem qR:(Tryz.f159.name == "runtime.NumGoroutine" || Tryz.f159.body.isNone)=false:=by kernel_rfl
abbrev oV:Nat:=160
theorem nM:Tryz.prog.funcs[160]?=some Tryz.f160:=Tryz.func160
theorem oi:(Tryz.f160.name == "runtime.NumGoroutine" || Tryz.f160.body.isNone)=false:=by kernel_rfl
abbrev ie:Nat:=161
theorem gx:Tryz.prog.funcs[161]?=some Tryz.f161:=Tryz.func161
theorem gy:(Tryz.f161.name == "runtime.NumGoroutine" || Tryz.f161.body.isNone)=false:=by kernel_rfl
abbrev tX:Nat:=162
theorem bW:Tryz.prog.funcs[162]?=some Tryz.f162:=Tryz.func162
theorem bV:(Tryz.f162.name == "runtime.NumGoroutine" || Tryz.f162.body.isNone)=false:=by kernel_rfl
abbrev tA:Nat:=163
theorem bd:Tryz.prog.funcs[163]?=some Tryz.f163:=Tryz.func163
theorem bb:(Tryz.f163.name == "runtime.NumGoroutine" || Tryz.f163.body.isNone)=false:=by kernel_rfl
abbrev sC:Nat:=164
theorem qk:Tryz.prog.funcs[164]?=some Tryz.f164:=Tryz.func164
theorem qf:(Tryz.f164.name == "runtime.NumGoroutine" || Tryz.f164.body.isNone)=false:=by kernel_rfl
abbrev lf:Nat:=165
theorem kw:Tryz.prog.funcs[165]?=some Tryz.f165:=Tryz.func165
theorem iW:(Tryz.f165.name == "runtime.NumGoroutine" || Tryz.f165.body.isNone)=false:=by kernel_rfl
abbrev sX:Nat:=172
theorem su:Tryz.prog.funcs[172]?=some Tryz.f172:=Tryz.func172
theorem rS:(Tryz.f172.name == "runtime.NumGoroutine" || Tryz.f172.body.isNone)=false:=by kernel_rfl
abbrev vd:Nat:=176
theorem sP:Tryz.prog.funcs[176]?=some Tryz.f176:=Tryz.func176
theorem tH:(Tryz.f176.name == "runtime.NumGoroutine" || Tryz.f176.body.isNone)=false:=by kernel_rfl
abbrev gz:Nat:=177
theorem fo:Tryz.prog.funcs[177]?=some Tryz.f177:=Tryz.func177
theorem gk:(Tryz.f177.name == "runtime.NumGoroutine" || Tryz.f177.body.isNone)=false:=by kernel_rfl
abbrev sE:Nat:=178
theorem pY:Tryz.prog.funcs[178]?=some Tryz.f178:=Tryz.func178
theorem qS:(Tryz.f178.name == "runtime.NumGoroutine" || Tryz.f178.body.isNone)=false:=by kernel_rfl
abbrev sv:Nat:=179
theorem qp:Tryz.prog.funcs[179]?=some Tryz.f179:=Tryz.func179
theorem rj:(Tryz.f179.name == "runtime.NumGoroutine" || Tryz.f179.body.isNone)=false:=by kernel_rfl
abbrev wc:Nat:=180
theorem vP:Tryz.prog.funcs[180]?=some Tryz.f180:=Tryz.func180
theorem uM:(Tryz.f180.name == "runtime.NumGoroutine" || Tryz.f180.body.isNone)=false:=by kernel_rfl
abbrev tt:Nat:=181
theorem rY:Tryz.prog.funcs[181]?=some Tryz.f181:=Tryz.func181
theorem rC:(Tryz.f181.name == "runtime.NumGoroutine" || Tryz.f181.body.isNone)=false:=by kernel_rfl
abbrev pt:Nat:=183
theorem oa:Tryz.prog.funcs[183]?=some Tryz.f183:=Tryz.func183
theorem nS:(Tryz.f183.name == "runtime.NumGoroutine" || Tryz.f183.body.isNone)=false:=by kernel_rfl
abbrev lc:Nat:=184
theorem iF:Tryz.prog.funcs[184]?=some Tryz.f184:=Tryz.func184
theorem ja:(Tryz.f184.name == "runtime.NumGoroutine" || Tryz.f184.body.isNone)=false:=by kernel_rfl
abbrev sg:Nat:=186
theorem qX:Tryz.prog.funcs[186]?=some Tryz.f186:=Tryz.func186
theorem qm:(Tryz.f186.name == "runtime.NumGoroutine" || Tryz.f186.body.isNone)=false:=by kernel_rfl
abbrev rL:Nat:=187
theorem dl:Tryz.prog.funcs[187]?=some Tryz.f187:=Tryz.func187
theorem dn:(Tryz.f187.name == "runtime.NumGoroutine" || Tryz.f187.body.isNone)=false:=by kernel_rfl
abbrev qe:Nat:=188
theorem pp:Tryz.prog.funcs[188]?=some Tryz.f188:=Tryz.func188
theorem oL:(Tryz.f188.name == "runtime.NumGoroutine" || Tryz.f188.body.isNone)=false:=by kernel_rfl
abbrev tJ:Nat:=189
theorem lE:Tryz.prog.funcs[189]?=some Tryz.f189:=Tryz.func189
theorem lH:(Tryz.f189.name == "runtime.NumGoroutine" || Tryz.f189.body.isNone)=false:=by kernel_rfl
abbrev rT:Nat:=190
theorem jN:Tryz.prog.funcs[190]?=some Tryz.f190:=Tryz.func190
theorem kf:(Tryz.f190.name == "runtime.NumGoroutine" || Tryz.f190.body.isNone)=false:=by kernel_rfl
abbrev tf:Nat:=191
theorem bT:Tryz.prog.funcs[191]?=some Tryz.f191:=Tryz.func191
theorem bU:(Tryz.f191.name == "runtime.NumGoroutine" || Tryz.f191.body.isNone)=false:=by kernel_rfl
abbrev vv:Nat:=193
theorem tL:Tryz.prog.funcs[193]?=some Tryz.f193:=Tryz.func193
theorem tn:(Tryz.f193.name == "runtime.NumGoroutine" || Tryz.f193.body.isNone)=false:=by kernel_rfl
abbrev rP:Nat:=194
theorem jk:Tryz.prog.funcs[194]?=some Tryz.f194:=Tryz.func194
theorem jA:(Tryz.f194.name == "runtime.NumGoroutine" || Tryz.f194.body.isNone)=false:=by kernel_rfl
abbrev sz:Nat:=195
theorem jy:Tryz.prog.funcs[195]?=some Tryz.f195:=Tryz.func195
theorem jE:(Tryz.f195.name == "runtime.NumGoroutine" || Tryz.f195.body.isNone)=false:=by kernel_rfl
abbrev tj:Nat:=196
theorem rG:Tryz.prog.funcs[196]?=some Tryz.f196:=Tryz.func196
theorem rN:(Tryz.f196.name == "runtime.NumGoroutine" || Tryz.f196.body.isNone)=false:=by kernel_rfl
abbrev sq:Nat:=197
theorem jn:Tryz.prog.funcs[197]?=some Tryz.f197:=Tryz.func197
theorem jW:(Tryz.f197.name == "runtime.NumGoroutine" || Tryz.f197.body.isNone)=false:=by kernel_rfl
abbrev td:Nat:=198
theorem fq:Tryz.prog.funcs[198]?=some Tryz.f198:=Tryz.func198
theorem fH:(Tryz.f198.name == "runtime.NumGoroutine" || Tryz.f198.body.isNone)=false:=by kernel_rfl
abbrev tB:Nat:=199
theorem rJ:Tryz.prog.funcs[199]?=some Tryz.f199:=Tryz.func199
theorem sr:(Tryz.f199.name == "runtime.NumGoroutine" || Tryz.f199.body.isNone)=false:=by kernel_rfl
abbrev rZ:Nat:=200
theorem jC:Tryz.prog.funcs[200]?=some Tryz.f200:=Tryz.func200
theorem jX:(Tryz.f200.name == "runtime.NumGoroutine" || Tryz.f200.body.isNone)=false:=by kernel_rfl
abbrev sR:Nat:=201
theorem rX:Tryz.prog.funcs[201]?=some Tryz.f201:=Tryz.func201
theorem ry:(Tryz.f201.name == "runtime.NumGoroutine" || Tryz.f201.body.isNone)=false:=by kernel_rfl
abbrev pZ:Nat:=202
theorem oY:Tryz.prog.funcs[202]?=some Tryz.f202:=Tryz.func202
theorem oN:(Tryz.f202.name == "runtime.NumGoroutine" || Tryz.f202.body.isNone)=false:=by kernel_rfl
abbrev sy:Nat:=203
theorem qd:Tryz.prog.funcs[203]?=some Tryz.f203:=Tryz.func203
theorem qv:(Tryz.f203.name == "runtime.NumGoroutine" || Tryz.f203.body.isNone)=false:=by kernel_rfl
abbrev sY:Nat:=204
theorem fS:Tryz.prog.funcs[204]?=some Tryz.f204:=Tryz.func204
theorem fg:(Tryz.f204.name == "runtime.NumGoroutine" || Tryz.f204.body.isNone)=false:=by kernel_rfl
abbrev tS:Nat:=205
theorem sA:Tryz.prog.funcs[205]?=some Tryz.f205:=Tryz.func205
theorem sI:(Tryz.f205.name == "runtime.NumGoroutine" || Tryz.f205.body.isNone)=false:=by kernel_rfl
abbrev vt:Nat:=206
theorem tr:Tryz.prog.funcs[206]?=some Tryz.f206:=Tryz.func206
theorem tb:(Tryz.f206.name == "runtime.NumGoroutine" || Tryz.f206.body.isNone)=false:=by kernel_rfl
abbrev tk:Nat:=207
theorem lO:Tryz.prog.funcs[207]?=some Tryz.f207:=Tryz.func207
theorem lP:(Tryz.f207.name == "runtime.NumGoroutine" || Tryz.f207.body.isNone)=false:=by kernel_rfl
abbrev pq:Nat:=208
theorem fW:Tryz.prog.funcs[208]?=some Tryz.f208:=Tryz.func208
theorem fP:(Tryz.f208.name == "runtime.NumGoroutine" || Tryz.f208.body.isNone)=false:=by kernel_rfl
abbrev r7:Nat:=209
theorem qq:Tryz.prog.funcs[209]?=some Tryz.f209:=Tryz.func209
theorem qt:(Tryz.f209.name == "runtime.NumGoroutine" || Tryz.f209.body.isNone)=false:=by kernel_rfl
abbrev qn:Nat:=210
theorem oR:Tryz.prog.funcs[210]?=some Tryz.f210:=Tryz.func210
theorem pk:(Tryz.f210.name == "runtime.NumGoroutine" || Tryz.f210.body.isNone)=false:=by kernel_rfl
abbrev uO:Nat:=211
theorem tz:Tryz.prog.funcs[211]?=some Tryz.f211:=Tryz.func211
theorem tK:(Tryz.f211.name == "runtime.NumGoroutine" || Tryz.f211.body.isNone)=false:=by kernel_rfl
abbrev te:Nat:=213
theorem lz:Tryz.prog.funcs[213]?=some Tryz.f213:=Tryz.func213
theorem lr:(Tryz.f213.name == "runtime.NumGoroutine" || Tryz.f213.body.isNone)=false:=by kernel_rfl

end Go.Proofs.YtmnnpgdeecnfpaaGreat
