/- Made by program: names for the numbers of functions and types, and closed facts on them. -/
import Derived.Test.YtmnnpgdeecnfpaaGreatRules2
import Derived.Test.YtmnnpgdeecnfpaaGreatProg
import Derived.KernelRfl
namespace Go.Proofs.YtmnnpgdeecnfpaaGreat
open Go
abbrev aV:Nat:=3
theorem aC:isSc Tryz.prog 3=true:=by kernel_rfl
theorem EU:zeroOf Tryz.prog 3=some (.int .i64 0):=by kernel_rfl
theorem db:Tryz.prog.underlying 3=some (.int .i64):=by kernel_rfl
abbrev Bc:Nat:=4
theorem r6:Tryz.prog.underlying 4=some .bool:=by kernel_rfl
abbrev xH:Nat:=5
theorem tt:isSc Tryz.prog 5=true:=by kernel_rfl
theorem cf:Tryz.prog.underlying 5=some (.int .u8):=by kernel_rfl
abbrev cn:Nat:=9
theorem ay:isSc Tryz.prog 9=true:=by kernel_rfl
theorem ar:Tryz.prog.underlying 9=some .string:=by kernel_rfl
abbrev yV:Nat:=22
theorem cQ:isSc Tryz.prog 22=true:=by kernel_rfl
theorem pR:mkOf Tryz.prog 22=some (5,1,1,(.int .u8 0)):=by kernel_rfl
theorem bw:sliceOf Tryz.prog 22=some (5,1):=by kernel_rfl
abbrev bT:Nat:=23
theorem cd:isSc Tryz.prog 23=true:=by kernel_rfl
theorem bP:mkOf Tryz.prog 23=some (34,5,80,(.agg #[(.int .i64 0),(.int .i64 0),(.string ⟨#[]⟩),(.slice none 0 0),(.slice none 0 0)])):=by kernel_rfl
theorem aB:sliceOf Tryz.prog 23=some (34,5):=by kernel_rfl
abbrev eK:Nat:=30
theorem al:isSc Tryz.prog 30=true:=by kernel_rfl
theorem aJ:mkOf Tryz.prog 30=some (32,4,56,(.agg #[(.int .i64 0),(.int .i64 0),(.string ⟨#[]⟩),(.slice none 0 0)])):=by kernel_rfl
theorem aj:sliceOf Tryz.prog 30=some (32,4):=by kernel_rfl
abbrev ab:Nat:=32
theorem ag:aggN Tryz.prog 32=some 4:=by kernel_rfl
theorem aE:zeroOf Tryz.prog 32=some (.agg #[(.int .i64 0),(.int .i64 0),(.string ⟨#[]⟩),(.slice none 0 0)]):=by kernel_rfl
theorem aI:fieldOff Tryz.prog 32 0=some 0:=by kernel_rfl
theorem aK:fieldOff Tryz.prog 32 1=some 1:=by kernel_rfl
theorem aF:fieldOff Tryz.prog 32 2=some 2:=by kernel_rfl
theorem aq:fieldOff Tryz.prog 32 3=some 3:=by kernel_rfl
abbrev af:Nat:=34
theorem av:aggN Tryz.prog 34=some 5:=by kernel_rfl
theorem bd:zeroOf Tryz.prog 34=some (.agg #[(.int .i64 0),(.int .i64 0),(.string ⟨#[]⟩),(.slice none 0 0),(.slice none 0 0)]):=by kernel_rfl
theorem aP:fieldOff Tryz.prog 34 0=some 0:=by kernel_rfl
theorem ax:fieldOff Tryz.prog 34 1=some 4:=by kernel_rfl
abbrev aY:Nat:=36
theorem tN:aggN Tryz.prog 36=some 2:=by kernel_rfl
theorem DJ:zeroOf Tryz.prog 36=some (.agg #[(.string ⟨#[]⟩),(.int .i64 0)]):=by kernel_rfl
abbrev jy:Nat:=63
theorem sa:isSc Tryz.prog 63=true:=by kernel_rfl
theorem EC:zeroOf Tryz.prog 63=some (.slice none 0 0):=by kernel_rfl
theorem el:mkOf Tryz.prog 63=some (3,1,8,(.int .i64 0)):=by kernel_rfl
theorem bI:sliceOf Tryz.prog 63=some (3,1):=by kernel_rfl
theorem li:Tryz.prog.underlying 77=some (.map 3 32):=by kernel_rfl
abbrev vM:Nat:=82
theorem sz:mkOf Tryz.prog 82=some (9,1,16,(.string ⟨#[]⟩)):=by kernel_rfl
theorem aQ:sliceOf Tryz.prog 82=some (9,1):=by kernel_rfl
abbrev ze:Nat:=102
theorem bO:fieldOff Tryz.prog 102 0=some 0:=by kernel_rfl
theorem kj:fieldOff Tryz.prog 102 1=some 1:=by kernel_rfl
abbrev gz:Nat:=111
theorem wF:isSc Tryz.prog 111=true:=by kernel_rfl
abbrev ey:Nat:=128
theorem lN:isSc Tryz.prog 128=true:=by kernel_rfl
abbrev bk:Nat:=148
theorem qU:fieldOff Tryz.prog 148 0=some 0:=by kernel_rfl
theorem qK:fieldOff Tryz.prog 148 1=some 1:=by kernel_rfl
abbrev cP:Nat:=156
abbrev aZ:Nat:=12
abbrev p5:Nat:=17
theorem cV:Tryz.prog.funcs[17]?=some Tryz.f17:=Tryz.func17
theorem dc:(Tryz.f17.name == "runtime.NumGoroutine" || Tryz.f17.body.isNone)=false:=by kernel_rfl
abbrev ro:Nat:=22
theorem gd:Tryz.prog.funcs[22]?=some Tryz.f22:=Tryz.func22
theorem fY:(Tryz.f22.name == "runtime.NumGoroutine" || Tryz.f22.body.isNone)=false:=by kernel_rfl
abbrev mO:Nat:=44
theorem mi:Tryz.prog.funcs[44]?=some Tryz.f44:=Tryz.func44
theorem mf:(Tryz.f44.name == "runtime.NumGoroutine" || Tryz.f44.body.isNone)=false:=by kernel_rfl
abbrev vj:Nat:=45
theorem je:Tryz.prog.funcs[45]?=some Tryz.f45:=Tryz.func45
theorem jH:(Tryz.f45.name == "runtime.NumGoroutine" || Tryz.f45.body.isNone)=false:=by kernel_rfl
abbrev pF:Nat:=46
theorem oO:Tryz.prog.funcs[46]?=some Tryz.f46:=Tryz.func46
theorem ob:(Tryz.f46.name == "runtime.NumGoroutine" || Tryz.f46.body.isNone)=false:=by kernel_rfl
abbrev vl:Nat:=47
theorem jU:Tryz.prog.funcs[47]?=some Tryz.f47:=Tryz.func47
theorem kA:(Tryz.f47.name == "runtime.NumGoroutine" || Tryz.f47.body.isNone)=false:=by kernel_rfl
abbrev tW:Nat:=48
theorem hO:Tryz.prog.funcs[48]?=some Tryz.f48:=Tryz.func48
theorem gS:(Tryz.f48.name == "runtime.NumGoroutine" || Tryz.f48.body.isNone)=false:=by kernel_rfl
abbrev DM:Nat:=49
theorem Cz:Tryz.prog.funcs[49]?=some Tryz.f49:=Tryz.func49
theorem Cs:(Tryz.f49.name == "runtime.NumGoroutine" || Tryz.f49.body.isNone)=false:=by kernel_rfl
abbrev zG:Nat:=50
theorem xq:Tryz.prog.funcs[50]?=some Tryz.f50:=Tryz.func50
theorem xh:(Tryz.f50.name == "runtime.NumGoroutine" || Tryz.f50.body.isNone)=false:=by kernel_rfl
abbrev rH:Nat:=51
theorem pw:Tryz.prog.funcs[51]?=some Tryz.f51:=Tryz.func51
theorem py:(Tryz.f51.name == "runtime.NumGoroutine" || Tryz.f51.body.isNone)=false:=by kernel_rfl
abbrev Dq:Nat:=54
theorem kI:Tryz.prog.funcs[54]?=some Tryz.f54:=Tryz.func54
theorem kD:(Tryz.f54.name == "runtime.NumGoroutine" || Tryz.f54.body.isNone)=false:=by kernel_rfl
abbrev pN:Nat:=55
theorem pi:Tryz.prog.funcs[55]?=some Tryz.f55:=Tryz.func55
theorem mL:(Tryz.f55.name == "runtime.NumGoroutine" || Tryz.f55.body.isNone)=false:=by kernel_rfl
abbrev fJ:Nat:=57
theorem fG:Tryz.prog.funcs[57]?=some Tryz.f57:=Tryz.func57
theorem fB:(Tryz.f57.name == "runtime.NumGoroutine" || Tryz.f57.body.isNone)=false:=by kernel_rfl
abbrev eL:Nat:=58
theorem lf:Tryz.prog.funcs[58]?=some Tryz.f58:=Tryz.func58
theorem kS:(Tryz.f58.name == "runtime.NumGoroutine" || Tryz.f58.body.isNone)=false:=by kernel_rfl
abbrev tY:Nat:=61
theorem aN:Tryz.prog.funcs[61]?=some Tryz.f61:=Tryz.func61
theorem aM:(Tryz.f61.name == "runtime.NumGoroutine" || Tryz.f61.body.isNone)=false:=by kernel_rfl
abbrev wA:Nat:=62
theorem uT:Tryz.prog.funcs[62]?=some Tryz.f62:=Tryz.func62
theorem vq:(Tryz.f62.name == "runtime.NumGoroutine" || Tryz.f62.body.isNone)=false:=by kernel_rfl
abbrev rf:Nat:=64
theorem fM:Tryz.prog.funcs[64]?=some Tryz.f64:=Tryz.func64
theorem fL:(Tryz.f64.name == "runtime.NumGoroutine" || Tryz.f64.body.isNone)=false:=by kernel_rfl
abbrev uR:Nat:=66
theorem eM:Tryz.prog.funcs[66]?=some Tryz.f66:=Tryz.func66
theorem eH:(Tryz.f66.name == "runtime.NumGoroutine" || Tryz.f66.body.isNone)=false:=by kernel_rfl
abbrev yP:Nat:=67
theorem eh:Tryz.prog.funcs[67]?=some Tryz.f67:=Tryz.func67
theorem ek:(Tryz.f67.name == "runtime.NumGoroutine" || Tryz.f67.body.isNone)=false:=by kernel_rfl
abbrev sV:Nat:=68
theorem rl:Tryz.prog.funcs[68]?=some Tryz.f68:=Tryz.func68
theorem rz:(Tryz.f68.name == "runtime.NumGoroutine" || Tryz.f68.body.isNone)=false:=by kernel_rfl
abbrev tg:Nat:=69
theorem gW:Tryz.prog.funcs[69]?=some Tryz.f69:=Tryz.func69
theorem gP:(Tryz.f69.name == "runtime.NumGoroutine" || Tryz.f69.body.isNone)=false:=by kernel_rfl
abbrev gb:Nat:=72
theorem fc:Tryz.prog.funcs[72]?=some Tryz.f72:=Tryz.func72
theorem ft:(Tryz.f72.name == "runtime.NumGoroutine" || Tryz.f72.body.isNone)=false:=by kernel_rfl
abbrev vm:Nat:=81
theorem jv:Tryz.prog.funcs[81]?=some Tryz.f81:=Tryz.func81
theorem iV:(Tryz.f81.name == "runtime.NumGoroutine" || Tryz.f81.body.isNone)=false:=by kernel_rfl
abbrev wR:Nat:=82
theorem uG:Tryz.prog.funcs[82]?=some Tryz.f82:=Tryz.func82
theorem uy:(Tryz.f82.name == "runtime.NumGoroutine" || Tryz.f82.body.isNone)=false:=by kernel_rfl
abbrev ue:Nat:=86
theorem rx:Tryz.prog.funcs[86]?=some Tryz.f86:=Tryz.func86
theorem rA:(Tryz.f86.name == "runtime.NumGoroutine" || Tryz.f86.body.isNone)=false:=by kernel_rfl
abbrev tX:Nat:=88
theorem dN:Tryz.prog.funcs[88]?=some Tryz.f88:=Tryz.func88
theorem dR:(Tryz.f88.name == "runtime.NumGoroutine" || Tryz.f88.body.isNone)=false:=by kernel_rfl
abbrev Bw:Nat:=89
theorem yf:Tryz.prog.funcs[89]?=some Tryz.f89:=Tryz.func89
theorem yO:(Tryz.f89.name == "runtime.NumGoroutine" || Tryz.f89.body.isNone)=false:=by kernel_rfl
abbrev vh:Nat:=91
theorem se:Tryz.prog.funcs[91]?=some Tryz.f91:=Tryz.func91
theorem sJ:(Tryz.f91.name == "runtime.NumGoroutine" || Tryz.f91.body.isNone)=false:=by kernel_rfl
abbrev ub:Nat:=93
theorem rp:Tryz.prog.funcs[93]?=some Tryz.f93:=Tryz.func93
theorem rC:(Tryz.f93.name == "runtime.NumGoroutine" || Tryz.f93.body.isNone)=false:=by kernel_rfl
abbrev kw:Nat:=95
theorem iz:Tryz.prog.funcs[95]?=some Tryz.f95:=Tryz.func95
theorem iA:(Tryz.f95.name == "runtime.NumGoroutine" || Tryz.f95.body.isNone)=false:=by kernel_rfl
abbrev Av:Nat:=96
theorem fg:Tryz.prog.funcs[96]?=some Tryz.f96:=Tryz.func96
theorem fw:(Tryz.f96.name == "runtime.NumGoroutine" || Tryz.f96.body.isNone)=false:=by kernel_rfl
abbrev tV:Nat:=97
theorem rc:Tryz.prog.funcs[97]?=some Tryz.f97:=Tryz.func97
theorem ru:(Tryz.f97.name == "runtime.NumGoroutine" || Tryz.f97.body.isNone)=false:=by kernel_rfl
abbrev AH:Nat:=98
theorem qx:Tryz.prog.funcs[98]?=some Tryz.f98:=Tryz.func98
theorem qr:(Tryz.f98.name == "runtime.NumGoroutine" || Tryz.f98.body.isNone)=false:=by kernel_rfl
abbrev pq:Nat:=99
theorem fk:Tryz.prog.funcs[99]?=some Tryz.f99:=Tryz.func99
theorem fe:(Tryz.f99.name == "runtime.NumGoroutine" || Tryz.f99.body.isNone)=false:=by kernel_rfl
abbrev iK:Nat:=100
theorem iy:Tryz.prog.funcs[100]?=some Tryz.f100:=Tryz.func100
theorem iC:(Tryz.f100.name == "runtime.NumGoroutine" || Tryz.f100.body.isNone)=false:=by kernel_rfl
abbrev gY:Nat:=101
theorem pG:Tryz.prog.funcs[101]?=some Tryz.f101:=Tryz.func101
theorem pr:(Tryz.f101.name == "runtime.NumGoroutine" || Tryz.f101.body.isNone)=false:=by kernel_rfl
abbrev uC:Nat:=102
theorem tl:Tryz.prog.funcs[102]?=some Tryz.f102:=Tryz.func102
theorem te:(Tryz.f102.name == "runtime.NumGoroutine" || Tryz.f102.body.isNone)=false:=by kernel_rfl
abbrev xd:Nat:=103
theorem uz:Tryz.prog.funcs[103]?=some Tryz.f103:=Tryz.func103
theorem uN:(Tryz.f103.name == "runtime.NumGoroutine" || Tryz.f103.body.isNone)=false:=by kernel_rfl
abbrev BZ:Nat:=104
theorem Az:Tryz.prog.funcs[104]?=some Tryz.f104:=Tryz.func104
theorem Ba:(Tryz.f104.name == "runtime.NumGoroutine" || Tryz.f104.body.isNone)=false:=by kernel_rfl
abbrev yu:Nat:=105
theorem oj:Tryz.prog.funcs[105]?=some Tryz.f105:=Tryz.func105
theorem oc:(Tryz.f105.name == "runtime.NumGoroutine" || Tryz.f105.body.isNone)=false:=by kernel_rfl
abbrev ol:Nat:=106
theorem bg:Tryz.prog.funcs[106]?=some Tryz.f106:=Tryz.func106
theorem bh:(Tryz.f106.name == "runtime.NumGoroutine" || Tryz.f106.body.isNone)=false:=by kernel_rfl
abbrev ko:Nat:=108
theorem iw:Tryz.prog.funcs[108]?=some Tryz.f108:=Tryz.func108
theorem ix:(Tryz.f108.name == "runtime.NumGoroutine" || Tryz.f108.body.isNone)=false:=by kernel_rfl
abbrev wK:Nat:=109
theorem dA:Tryz.prog.funcs[109]?=some Tryz.f109:=Tryz.func109
theorem dD:(Tryz.f109.name == "runtime.NumGoroutine" || Tryz.f109.body.isNone)=false:=by kernel_rfl
abbrev AF:Nat:=110
theorem fx:Tryz.prog.funcs[110]?=some Tryz.f110:=Tryz.func110
theorem fu:(Tryz.f110.name == "runtime.NumGoroutine" || Tryz.f110.body.isNone)=false:=by kernel_rfl
abbrev sR:Nat:=111
theorem qT:Tryz.prog.funcs[111]?=some Tryz.f111:=Tryz.func111
theorem qF:(Tryz.f111.name == "runtime.NumGoroutine" || Tryz.f111.body.isNone)=false:=by kernel_rfl
abbrev xb:Nat:=112
theorem lA:Tryz.prog.funcs[112]?=some Tryz.f112:=Tryz.func112
theorem lo:(Tryz.f112.name == "runtime.NumGoroutine" || Tryz.f112.body.isNone)=false:=by kernel_rfl
abbrev Bd:Nat:=113
theorem ra:Tryz.prog.funcs[113]?=some Tryz.f113:=Tryz.func113
theorem qE:(Tryz.f113.name == "runtime.NumGoroutine" || Tryz.f113.body.isNone)=false:=by kernel_rfl
abbrev uY:Nat:=114
theorem iL:Tryz.prog.funcs[114]?=some Tryz.f114:=Tryz.func114
theorem iP:(Tryz.f114.name == "runtime.NumGoroutine" || Tryz.f114.body.isNone)=false:=by kernel_rfl
abbrev uv:Nat:=115
theorem jR:Tryz.prog.funcs[115]?=some Tryz.f115:=Tryz.func115
theorem jq:(Tryz.f115.name == "runtime.NumGoroutine" || Tryz.f115.body.isNone)=false:=by kernel_rfl
abbrev zq:Nat:=116
theorem gM:Tryz.prog.funcs[116]?=some Tryz.f116:=Tryz.func116
theorem gy:(Tryz.f116.name == "runtime.NumGoroutine" || Tryz.f116.body.isNone)=false:=by kernel_rfl
abbrev CU:Nat:=118
theorem wm:Tryz.prog.funcs[118]?=some Tryz.f118:=Tryz.func118
theorem we:(Tryz.f118.name == "runtime.NumGoroutine" || Tryz.f118.body.isNone)=false:=by kernel_rfl
abbrev uw:Nat:=119
theorem jW:Tryz.prog.funcs[119]?=some Tryz.f119:=Tryz.func119
theorem jw:(Tryz.f119.name == "runtime.NumGoroutine" || Tryz.f119.body.isNone)=false:=by kernel_rfl
abbrev DR:Nat:=120
theorem Ct:Tryz.prog.funcs[120]?=some Tryz.f120:=Tryz.func120
theorem Cy:(Tryz.f120.name == "runtime.NumGoroutine" || Tryz.f120.body.isNone)=false:=by kernel_rfl
abbrev zW:Nat:=121
theorem mG:Tryz.prog.funcs[121]?=some Tryz.f121:=Tryz.func121
theorem mT:(Tryz.f121.name == "runtime.NumGoroutine" || Tryz.f121.body.isNone)=false:=by kernel_rfl
abbrev dp:Nat:=122
theorem bq:Tryz.prog.funcs[122]?=some Tryz.f122:=Tryz.func122
theorem bt:(Tryz.f122.name == "runtime.NumGoroutine" || Tryz.f122.body.isNone)=false:=by kernel_rfl
abbrev fS:Nat:=123
theorem nU:Tryz.prog.funcs[123]?=some Tryz.f123:=Tryz.func123
theorem ni:(Tryz.f123.name == "runtime.NumGoroutine" || Tryz.f123.body.isNone)=false:=by kernel_rfl
abbrev uF:Nat:=124
theorem tj:Tryz.prog.funcs[124]?=some Tryz.f124:=Tryz.func124
theorem sQ:(Tryz.f124.name == "runtime.NumGoroutine" || Tryz.f124.body.isNone)=false:=by kernel_rfl
abbrev Ac:Nat:=125
theorem zs:Tryz.prog.funcs[125]?=some Tryz.f125:=Tryz.func125
theorem yp:(Tryz.f125.name == "runtime.NumGoroutine" || Tryz.f125.body.isNone)=false:=by kernel_rfl
abbrev rJ:Nat:=126
theorem pt:Tryz.prog.funcs[126]?=some Tryz.f126:=Tryz.func126
theorem pD:(Tryz.f126.name == "runtime.NumGoroutine" || Tryz.f126.body.isNone)=false:=by kernel_rfl
abbrev qo:Nat:=128
theorem mV:Tryz.prog.funcs[128]?=some Tryz.f128:=Tryz.func128
theorem nS:(Tryz.f128.name == "runtime.NumGoroutine" || Tryz.f128.body.isNone)=false:=by kernel_rfl
abbrev uK:Nat:=129
theorem th:Tryz.prog.funcs[129]?=some Tryz.f129:=Tryz.func129
theorem tk:(Tryz.f129.name == "runtime.NumGoroutine" || Tryz.f129.body.isNone)=false:=by kernel_rfl
abbrev Ab:Nat:=131
theorem yw:Tryz.prog.funcs[131]?=some Tryz.f131:=Tryz.func131
theorem yj:(Tryz.f131.name == "runtime.NumGoroutine" || Tryz.f131.body.isNone)=false:=by kernel_rfl
abbrev ky:Nat:=132
theorem de:Tryz.prog.funcs[132]?=some Tryz.f132:=Tryz.func132
theorem cU:(Tryz.f132.name == "runtime.NumGoroutine" || Tryz.f132.body.isNone)=false:=by kernel_rfl
abbrev cu:Nat:=133
theorem nr:Tryz.prog.funcs[133]?=some Tryz.f133:=Tryz.func133
theorem oi:(Tryz.f133.name == "runtime.NumGoroutine" || Tryz.f133.body.isNone)=false:=by kernel_rfl
abbrev wY:Nat:=134
theorem lw:Tryz.prog.funcs[134]?=some Tryz.f134:=Tryz.func134
theorem ll:(Tryz.f134.name == "runtime.NumGoroutine" || Tryz.f134.body.isNone)=false:=by kernel_rfl
abbrev uA:Nat:=135
theorem jD:Tryz.prog.funcs[135]?=some Tryz.f135:=Tryz.func135
theorem jM:(Tryz.f135.name == "runtime.NumGoroutine" || Tryz.f135.body.isNone)=false:=by kernel_rfl
abbrev zc:Nat:=136
theorem xN:Tryz.prog.funcs[136]?=some Tryz.f136:=Tryz.func136
theorem wD:(Tryz.f136.name == "runtime.NumGoroutine" || Tryz.f136.body.isNone)=false:=by kernel_rfl
abbrev tH:Nat:=138
theorem rY:Tryz.prog.funcs[138]?=some Tryz.f138:=Tryz.func138
theorem rG:(Tryz.f138.name == "runtime.NumGoroutine" || Tryz.f138.body.isNone)=false:=by kernel_rfl
abbrev zH:Nat:=139
theorem wH:Tryz.prog.funcs[139]?=some Tryz.f139:=Tryz.func139
theorem xQ:(Tryz.f139.name == "runtime.NumGoroutine" || Tryz.f139.body.isNone)=false:=by kernel_rfl
abbrev vg:Nat:=140
theorem bJ:Tryz.prog.funcs[140]?=some Tryz.f140:=Tryz.func140
theorem bK:(Tryz.f140.name == "runtime.NumGoroutine" || Tryz.f140.body.isNone)=false:=by kernel_rfl
abbrev vU:Nat:=141
theorem uh:Tryz.prog.funcs[141]?=some Tryz.f141:=Tryz.func141
theorem sF:(Tryz.f141.name == "runtime.NumGoroutine" || Tryz.f141.body.isNone)=false:=by kernel_rfl
abbrev np:Nat:=142
theorem my:Tryz.prog.funcs[142]?=some Tryz.f142:=Tryz.func142
theorem mB:(Tryz.f142.name == "runtime.NumGoroutine" || Tryz.f142.body.isNone)=false:=by kernel_rfl
abbrev xy:Nat:=143
theorem vA:Tryz.prog.funcs[143]?=some Tryz.f143:=Tryz.func143
theorem uq:(Tryz.f143.name == "runtime.NumGoroutine" || Tryz.f143.body.isNone)=false:=by kernel_rfl
abbrev gT:Nat:=144
theorem gc:Tryz.prog.funcs[144]?=some Tryz.f144:=Tryz.func144
theorem gt:(Tryz.f144.name == "runtime.NumGoroutine" || Tryz.f144.body.isNone)=false:=by kernel_rfl
abbrev re:Nat:=145
theorem gg:Tryz.prog.funcs[145]?=some Tryz.f145:=Tryz.func145
theorem fK:(Tryz.f145.name == "runtime.NumGoroutine" || Tryz.f145.body.isNone)=false:=by kernel_rfl
abbrev mZ:Nat:=146
theorem lR:Tryz.prog.funcs[146]?=some Tryz.f146:=Tryz.func146
theorem md:(Tryz.f146.name == "runtime.NumGoroutine" || Tryz.f146.body.isNone)=false:=by kernel_rfl
abbrev Cd:Nat:=147
theorem tL:Tryz.prog.funcs[147]?=some Tryz.f147:=Tryz.func147
theorem sr:(Tryz.f147.name == "runtime.NumGoroutine" || Tryz.f147.body.isNone)=false:=by kernel_rfl
abbrev BV:Nat:=148
theorem sX:Tryz.prog.funcs[148]?=some Tryz.f148:=Tryz.func148
theorem tF:(Tryz.f148.name == "runtime.NumGoroutine" || Tryz.f148.body.isNone)=false:=by kernel_rfl
abbrev Ce:Nat:=149
theorem lL:Tryz.prog.funcs[149]?=some Tryz.f149:=Tryz.func149
theorem lZ:(Tryz.f149.name == "runtime.NumGoroutine" || Tryz.f149.body.isNone)=false:=by kernel_rfl
abbrev mn:Nat:=150
theorem bM:Tryz.prog.funcs[150]?=some Tryz.f150:=Tryz.func150
theorem bN:(Tryz.f150.name == "runtime.NumGoroutine" || Tryz.f150.body.isNone)=false:=by kernel_rfl
abbrev AR:Nat:=151
theorem zw:Tryz.prog.funcs[151]?=some Tryz.f151:=Tryz.func151
theorem yK:(Tryz.f151.name == "runtime.NumGoroutine" || Tryz.f151.body.isNone)=false:=by kernel_rfl
abbrev zD:Nat:=152
theorem nG:Tryz.prog.funcs[152]?=some Tryz.f152:=Tryz.func152
theorem nq:(Tryz.f152.name == "runtime.NumGoroutine" || Tryz.f152.body.isNone)=false:=by kernel_rfl
abbrev yD:Nat:=153
theorem oA:Tryz.prog.funcs[153]?=some Tryz.f153:=Tryz.func153
theorem pg:(Tryz.f153.name == "runtime.NumGoroutine" || Tryz.f153.body.isNone)=false:=by kernel_rfl
abbrev Ae:Nat:=154
theorem qh:Tryz.prog.funcs[154]?=some Tryz.f154:=Tryz.func154
theorem qd:(Tryz.f154.name == "runtime.NumGoroutine" || Tryz.f154.body.isNone)=false:=by kernel_rfl
abbrev vB:Nat:=155
theorem jC:Tryz.prog.funcs[155]?=some Tryz.f155:=Tryz.func155
theorem km:(Tryz.f155.name == "runtime.NumGoroutine" || Tryz.f155.body.isNone)=false:=by kernel_rfl
abbrev zC:Nat:=156
theorem bU:Tryz.prog.funcs[156]?=some Tryz.f156:=Tryz.func156
theorem bQ:(Tryz.f156.name == "runtime.NumGoroutine" || Tryz.f156.body.isNone)=false:=by kernel_rfl
abbrev vr:Nat:=157
theorem ua:Tryz.prog.funcs[157]?=some Tryz.f157:=Tryz.func157
theorem sc:(Tryz.f157.name == "runtime.NumGoroutine" || Tryz.f157.body.isNone)=false:=by kernel_rfl
abbrev AO:Nat:=158
theorem zy:Tryz.prog.funcs[158]?=some Tryz.f158:=Tryz.func158
theorem zb:(Tryz.f158.name == "runtime.NumGoroutine" || Tryz.f158.body.isNone)=false:=by kernel_rfl
abbrev yn:Nat:=159
theorem xW:Tryz.prog.funcs[159]?=some Tryz.f159:=Tryz.func159
theorem xj:(Tryz.f159.name == "runtime.NumGoroutine" || Tryz.f159.body.isNone)=false:=by kernel_rfl
abbrev vG:Nat:=160
theorem ud:Tryz.prog.funcs[160]?=some Tryz.f160:=Tryz.func160
theorem un:(Tryz.f160.name == "runtime.NumGoroutine" || Tryz.f160.body.isNone)=false:=by kernel_rfl
abbrev eG:Nat:=161
theorem dV:Tryz.prog.funcs[161]?=some Tryz.f161:=Tryz.func161
theorem dU:(Tryz.f161.name == "runtime.NumGoroutine" || Tryz.f161.body.isNone)=false:=by kernel_rfl
abbrev Ad:Nat:=162
theorem cm:Tryz.prog.funcs[162]?=some Tryz.f162:=Tryz.func162
theorem cg:(Tryz.f162.name == "runtime.NumGoroutine" || Tryz.f162.body.isNone)=false:=by kernel_rfl
abbrev Ai:Nat:=163
theorem aX:Tryz.prog.funcs[163]?=some Tryz.f163:=Tryz.func163
theorem aW:(Tryz.f163.name == "runtime.NumGoroutine" || Tryz.f163.body.isNone)=false:=by kernel_rfl
abbrev yJ:Nat:=164
theorem oa:Tryz.prog.funcs[164]?=some Tryz.f164:=Tryz.func164
theorem nO:(Tryz.f164.name == "runtime.NumGoroutine" || Tryz.f164.body.isNone)=false:=by kernel_rfl
abbrev pT:Nat:=165
theorem nt:Tryz.prog.funcs[165]?=some Tryz.f165:=Tryz.func165
theorem nN:(Tryz.f165.name == "runtime.NumGoroutine" || Tryz.f165.body.isNone)=false:=by kernel_rfl
abbrev yM:Nat:=168
theorem nI:Tryz.prog.funcs[168]?=some Tryz.f168:=Tryz.func168
theorem mU:(Tryz.f168.name == "runtime.NumGoroutine" || Tryz.f168.body.isNone)=false:=by kernel_rfl
abbrev wQ:Nat:=170
theorem lF:Tryz.prog.funcs[170]?=some Tryz.f170:=Tryz.func170
theorem lJ:(Tryz.f170.name == "runtime.NumGoroutine" || Tryz.f170.body.isNone)=false:=by kernel_rfl
abbrev tb:Nat:=171
theorem r2:Tryz.prog.funcs[171]?=some Tryz.f171:=Tryz.func171
theorem rK:(Tryz.f171.name == "runtime.NumGoroutine" || Tryz.f171.body.isNone)=false:=by kernel_rfl
abbrev AZ:Nat:=172
theorem yz:Tryz.prog.funcs[172]?=some Tryz.f172:=Tryz.func172
theorem zU:(Tryz.f172.name == "runtime.NumGoroutine" || Tryz.f172.body.isNone)=false:=by kernel_rfl
abbrev sg:Nat:=173
theorem cK:Tryz.prog.funcs[173]?=some Tryz.f173:=Tryz.func173
theorem cL:(Tryz.f173.name == "runtime.NumGoroutine" || Tryz.f173.body.isNone)=false:=by kernel_rfl
abbrev ta:Nat:=174
theorem iq:Tryz.prog.funcs[174]?=some Tryz.f174:=Tryz.func174
theorem il:(Tryz.f174.name == "runtime.NumGoroutine" || Tryz.f174.body.isNone)=false:=by kernel_rfl
abbrev kN:Nat:=175
theorem dK:Tryz.prog.funcs[175]?=some Tryz.f175:=Tryz.func175
theorem dL:(Tryz.f175.name == "runtime.NumGoroutine" || Tryz.f175.body.isNone)=false:=by kernel_rfl
abbrev Cp:Nat:=176
theorem Ag:Tryz.prog.funcs[176]?=some Tryz.f176:=Tryz.func176
theorem AK:(Tryz.f176.name == "runtime.NumGoroutine" || Tryz.f176.body.isNone)=false:=by kernel_rfl
abbrev kQ:Nat:=177
theorem jQ:Tryz.prog.funcs[177]?=some Tryz.f177:=Tryz.func177
theorem jx:(Tryz.f177.name == "runtime.NumGoroutine" || Tryz.f177.body.isNone)=false:=by kernel_rfl
abbrev zA:Nat:=178
theorem xY:Tryz.prog.funcs[178]?=some Tryz.f178:=Tryz.func178
theorem wx:(Tryz.f178.name == "runtime.NumGoroutine" || Tryz.f178.body.isNone)=false:=by kernel_rfl
abbrev yC:Nat:=179
theorem wM:Tryz.prog.funcs[179]?=some Tryz.f179:=Tryz.func179
theorem xc:(Tryz.f179.name == "runtime.NumGoroutine" || Tryz.f179.body.isNone)=false:=by kernel_rfl
abbrev CN:Nat:=180
theorem Cw:Tryz.prog.funcs[180]?=some Tryz.f180:=Tryz.func180
theorem Cq:(Tryz.f180.name == "runtime.NumGoroutine" || Tryz.f180.body.isNone)=false:=by kernel_rfl
abbrev Aj:Nat:=181
theorem yZ:Tryz.prog.funcs[181]?=some Tryz.f181:=Tryz.func181
theorem zR:(Tryz.f181.name == "runtime.NumGoroutine" || Tryz.f181.body.isNone)=false:=by kernel_rfl
abbrev pB:Nat:=182
theorem cT:Tryz.prog.funcs[182]?=some Tryz.f182:=Tryz.func182
theorem cX:(Tryz.f182.name == "runtime.NumGoroutine" || Tryz.f182.body.isNone)=false:=by kernel_rfl
abbrev vt:Nat:=183
theorem sP:Tryz.prog.funcs[183]?=some Tryz.f183:=Tryz.func183
theorem tp:(Tryz.f183.name == "runtime.NumGoroutine" || Tryz.f183.body.isNone)=false:=by kernel_rfl
abbrev pP:Nat:=184
theorem oT:Tryz.prog.funcs[184]?=some Tryz.f184:=Tryz.func184
theorem ot:(Tryz.f184.name == "runtime.NumGoroutine" || Tryz.f184.body.isNone)=false:=by kernel_rfl
abbrev ya:Nat:=186
theorem xC:Tryz.prog.funcs[186]?=some Tryz.f186:=Tryz.func186
theorem xR:(Tryz.f186.name == "runtime.NumGoroutine" || Tryz.f186.body.isNone)=false:=by kernel_rfl
abbrev zF:Nat:=187
theorem er:Tryz.prog.funcs[187]?=some Tryz.f187:=Tryz.func187
theorem ed:(Tryz.f187.name == "runtime.NumGoroutine" || Tryz.f187.body.isNone)=false:=by kernel_rfl
abbrev xl:Nat:=188
theorem vz:Tryz.prog.funcs[188]?=some Tryz.f188:=Tryz.func188
theorem vD:(Tryz.f188.name == "runtime.NumGoroutine" || Tryz.f188.body.isNone)=false:=by kernel_rfl
abbrev Bg:Nat:=189
theorem qu:Tryz.prog.funcs[189]?=some Tryz.f189:=Tryz.func189
theorem qW:(Tryz.f189.name == "runtime.NumGoroutine" || Tryz.f189.body.isNone)=false:=by kernel_rfl
abbrev zv:Nat:=190
theorem oM:Tryz.prog.funcs[190]?=some Tryz.f190:=Tryz.func190
theorem oY:(Tryz.f190.name == "runtime.NumGoroutine" || Tryz.f190.body.isNone)=false:=by kernel_rfl
abbrev Bl:Nat:=191
theorem co:Tryz.prog.funcs[191]?=some Tryz.f191:=Tryz.func191
theorem ce:(Tryz.f191.name == "runtime.NumGoroutine" || Tryz.f191.body.isNone)=false:=by kernel_rfl
abbrev ma:Nat:=192
theorem kL:Tryz.prog.funcs[192]?=some Tryz.f192:=Tryz.func192
theorem kZ:(Tryz.f192.name == "runtime.NumGoroutine" || Tryz.f192.body.isNone)=false:=by kernel_rfl
abbrev BX:Nat:=193
theorem Bo:Tryz.prog.funcs[193]?=some Tryz.f193:=Tryz.func193
theorem z9:(Tryz.f193.name == "runtime.NumGoroutine" || Tryz.f193.body.isNone)=false:=by kernel_rfl
abbrev zr:Nat:=194
theorem nZ:Tryz.prog.funcs[194]?=some Tryz.f194:=Tryz.func194
theorem mM:(Tryz.f194.name == "runtime.NumGoroutine" || Tryz.f194.body.isNone)=false:=by kernel_rfl
abbrev yg:Nat:=195
theorem ox:Tryz.prog.funcs[195]?=some Tryz.f195:=Tryz.func195
theorem nf:(Tryz.f195.name == "runtime.NumGoroutine" || Tryz.f195.body.isNone)=false:=by kernel_rfl
abbrev As:Nat:=196
theorem yG:Tryz.prog.funcs[196]?=some Tryz.f196:=Tryz.func196
theorem zE:(Tryz.f196.name == "runtime.NumGoroutine" || Tryz.f196.body.isNone)=false:=by kernel_rfl
abbrev zV:Nat:=197
theorem ow:Tryz.prog.funcs[197]?=some Tryz.f197:=Tryz.func197
theorem oE:(Tryz.f197.name == "runtime.NumGoroutine" || Tryz.f197.body.isNone)=false:=by kernel_rfl
abbrev Bf:Nat:=198
theorem jA:Tryz.prog.funcs[198]?=some Tryz.f198:=Tryz.func198
theorem iQ:(Tryz.f198.name == "runtime.NumGoroutine" || Tryz.f198.body.isNone)=false:=by kernel_rfl
abbrev AV:Nat:=199
theorem yi:Tryz.prog.funcs[199]?=some Tryz.f199:=Tryz.func199
theorem za:(Tryz.f199.name == "runtime.NumGoroutine" || Tryz.f199.body.isNone)=false:=by kernel_rfl
abbrev yo:Nat:=200
theorem pc:Tryz.prog.funcs[200]?=some Tryz.f200:=Tryz.func200
theorem ng:(Tryz.f200.name == "runtime.NumGoroutine" || Tryz.f200.body.isNone)=false:=by kernel_rfl
abbrev Al:Nat:=201
theorem yT:Tryz.prog.funcs[201]?=some Tryz.f201:=Tryz.func201
theorem zi:(Tryz.f201.name == "runtime.NumGoroutine" || Tryz.f201.body.isNone)=false:=by kernel_rfl
abbrev xo:Nat:=202
theorem uV:Tryz.prog.funcs[202]?=some Tryz.f202:=Tryz.func202
theorem uD:(Tryz.f202.name == "runtime.NumGoroutine" || Tryz.f202.body.isNone)=false:=by kernel_rfl
abbrev yy:Nat:=203
theorem xM:Tryz.prog.funcs[203]?=some Tryz.f203:=Tryz.func203
theorem xK:(Tryz.f203.name == "runtime.NumGoroutine" || Tryz.f203.body.isNone)=false:=by kernel_rfl
abbrev AP:Nat:=204
theorem jJ:Tryz.prog.funcs[204]?=some Tryz.f204:=Tryz.func204
theorem jG:(Tryz.f204.name == "runtime.NumGoroutine" || Tryz.f204.body.isNone)=false:=by kernel_rfl
abbrev Ao:Nat:=205
theorem yS:Tryz.prog.funcs[205]?=some Tryz.f205:=Tryz.func205
theorem zg:(Tryz.f205.name == "runtime.NumGoroutine" || Tryz.f205.body.isNone)=false:=by kernel_rfl
abbrev Cg:Nat:=206
theorem AY:Tryz.prog.funcs[206]?=some Tryz.f206:=Tryz.func206
theorem At:(Tryz.f206.name == "runtime.NumGoroutine" || Tryz.f206.body.isNone)=false:=by kernel_rfl
abbrev Bp:Nat:=207
theorem qI:Tryz.prog.funcs[207]?=some Tryz.f207:=Tryz.func207
theorem qm:(Tryz.f207.name == "runtime.NumGoroutine" || Tryz.f207.body.isNone)=false:=by kernel_rfl
abbrev uu:Nat:=208
theorem iR:Tryz.prog.funcs[208]?=some Tryz.f208:=Tryz.func208
theorem kx:(Tryz.f208.name == "runtime.NumGoroutine" || Tryz.f208.body.isNone)=false:=by kernel_rfl
abbrev zk:Nat:=209
theorem wU:Tryz.prog.funcs[209]?=some Tryz.f209:=Tryz.func209
theorem wB:(Tryz.f209.name == "runtime.NumGoroutine" || Tryz.f209.body.isNone)=false:=by kernel_rfl
abbrev xp:Nat:=210
theorem uX:Tryz.prog.funcs[210]?=some Tryz.f210:=Tryz.func210
theorem vC:(Tryz.f210.name == "runtime.NumGoroutine" || Tryz.f210.body.isNone)=false:=by kernel_rfl
abbrev Cn:Nat:=211
theorem AC:Tryz.prog.funcs[211]?=some Tryz.f211:=Tryz.func211
theorem AL:(Tryz.f211.name == "runtime.NumGoroutine" || Tryz.f211.body.isNone)=false:=by kernel_rfl
abbrev AE:Nat:=213
theorem qL:Tryz.prog.funcs[213]?=some Tryz.f213:=Tryz.func213
theorem qc:(Tryz.f213.name == "runtime.NumGoroutine" || Tryz.f213.body.isNone)=false:=by kernel_rfl

end Go.Proofs.YtmnnpgdeecnfpaaGreat
