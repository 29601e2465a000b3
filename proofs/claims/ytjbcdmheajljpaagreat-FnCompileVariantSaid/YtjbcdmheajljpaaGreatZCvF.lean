/- Made by program: names for the numbers of functions and types, and closed facts on them. -/
import Derived.Test.YtjbcdmheajljpaaGreatZCvS
import Derived.Test.YtjbcdmheajljpaaGreatProg
import Derived.KernelRfl
namespace Go.Proofs.YtjbcdmheajljpaaGreat
open Go
abbrev bf (f:Func):Bool:=f.name == "runtime.NumGoroutine" || f.body.isNone
abbrev ce:Nat:=3
theorem az:iv Tryz.prog 3=true:=by kernel_rfl
theorem qr:fB Tryz.prog 3=some (.int .i64 0):=by kernel_rfl
theorem eY:Tryz.prog.underlying 3=some (.int .i64):=by kernel_rfl
abbrev IJ:Nat:=4
theorem tk:Tryz.prog.underlying 4=some .bool:=by kernel_rfl
abbrev yD:Nat:=5
theorem uJ:iv Tryz.prog 5=true:=by kernel_rfl
theorem eU:Tryz.prog.underlying 5=some (.int .u8):=by kernel_rfl
abbrev eO:Nat:=9
theorem aO:iv Tryz.prog 9=true:=by kernel_rfl
theorem aD:Tryz.prog.underlying 9=some .string:=by kernel_rfl
abbrev z9:Nat:=22
theorem fJ:iv Tryz.prog 22=true:=by kernel_rfl
theorem qe:fY Tryz.prog 22=some (5,1,1,(.int .u8 0)):=by kernel_rfl
theorem dv:cf Tryz.prog 22=some (5,1):=by kernel_rfl
abbrev pq:Nat:=23
theorem ar:iv Tryz.prog 23=true:=by kernel_rfl
theorem bw:fY Tryz.prog 23=some (25,4,56,(.agg #[(.int .i64 0),(.int .i64 0),(.string ⟨#[]⟩),(.slice none 0 0)])):=by kernel_rfl
theorem ao:cf Tryz.prog 23=some (25,4):=by kernel_rfl
abbrev ac:Nat:=25
theorem ad:kr Tryz.prog 25=some 4:=by kernel_rfl
theorem aZ:fB Tryz.prog 25=some (.agg #[(.int .i64 0),(.int .i64 0),(.string ⟨#[]⟩),(.slice none 0 0)]):=by kernel_rfl
theorem aV:cA Tryz.prog 25 0=some 0:=by kernel_rfl
theorem aM:cA Tryz.prog 25 1=some 1:=by kernel_rfl
theorem aW:cA Tryz.prog 25 2=some 2:=by kernel_rfl
theorem av:cA Tryz.prog 25 3=some 3:=by kernel_rfl
abbrev ae:Nat:=27
theorem aC:kr Tryz.prog 27=some 5:=by kernel_rfl
theorem bZ:fB Tryz.prog 27=some (.agg #[(.int .i64 0),(.int .i64 0),(.string ⟨#[]⟩),(.slice none 0 0),(.slice none 0 0)]):=by kernel_rfl
theorem cn:cA Tryz.prog 27 0=some 0:=by kernel_rfl
theorem aT:cA Tryz.prog 27 1=some 4:=by kernel_rfl
theorem kA:iv Tryz.prog 31=true:=by kernel_rfl
theorem fC:fY Tryz.prog 31=some (57,4,40,(.agg #[(.int .i64 0),(.int .i64 0),(.int .i64 0),(.string ⟨#[]⟩)])):=by kernel_rfl
theorem ie:cf Tryz.prog 31=some (57,4):=by kernel_rfl
theorem rr:fY Tryz.prog 36=some (27,5,80,(.agg #[(.int .i64 0),(.int .i64 0),(.string ⟨#[]⟩),(.slice none 0 0),(.slice none 0 0)])):=by kernel_rfl
theorem ry:cf Tryz.prog 36=some (27,5):=by kernel_rfl
abbrev aK:Nat:=57
theorem ml:kr Tryz.prog 57=some 4:=by kernel_rfl
abbrev la:Nat:=76
theorem fi:iv Tryz.prog 76=true:=by kernel_rfl
theorem H9:fB Tryz.prog 76=some (.slice none 0 0):=by kernel_rfl
theorem iX:fY Tryz.prog 76=some (3,1,8,(.int .i64 0)):=by kernel_rfl
theorem el:cf Tryz.prog 76=some (3,1):=by kernel_rfl
abbrev Aj:Nat:=88
theorem eh:cA Tryz.prog 88 0=some 0:=by kernel_rfl
theorem lD:cA Tryz.prog 88 1=some 1:=by kernel_rfl
abbrev xM:Nat:=91
theorem vk:fY Tryz.prog 91=some (9,1,16,(.string ⟨#[]⟩)):=by kernel_rfl
theorem ci:cf Tryz.prog 91=some (9,1):=by kernel_rfl
abbrev aj:Nat:=103
theorem aq:kr Tryz.prog 103=some 3:=by kernel_rfl
theorem dg:fB Tryz.prog 103=some (.agg #[(.slice none 0 0),(.int .i64 0),(.slice none 0 0)]):=by kernel_rfl
theorem cH:cA Tryz.prog 103 0=some 0:=by kernel_rfl
theorem bV:cA Tryz.prog 103 1=some 1:=by kernel_rfl
theorem mE:cA Tryz.prog 103 2=some 2:=by kernel_rfl
abbrev j0:Nat:=114
theorem yW:iv Tryz.prog 114=true:=by kernel_rfl
theorem ef:iv Tryz.prog 132=true:=by kernel_rfl
theorem ed:Tryz.prog.underlying 132=some (.map 3 3):=by kernel_rfl
abbrev fh:Nat:=134
theorem dG:cA Tryz.prog 134 0=some 0:=by kernel_rfl
theorem kq:cA Tryz.prog 134 1=some 1:=by kernel_rfl
theorem j3:cA Tryz.prog 134 2=some 2:=by kernel_rfl
theorem qQ:fY Tryz.prog 135=some (139,5,64,(.agg #[(.int .i64 0),(.int .i64 0),(.string ⟨#[]⟩),(.slice none 0 0),(.int .i64 0)])):=by kernel_rfl
theorem qD:cf Tryz.prog 135=some (139,5):=by kernel_rfl
abbrev dj:Nat:=139
theorem B5:kr Tryz.prog 139=some 5:=by kernel_rfl
theorem GI:fB Tryz.prog 139=some (.agg #[(.int .i64 0),(.int .i64 0),(.string ⟨#[]⟩),(.slice none 0 0),(.int .i64 0)]):=by kernel_rfl
theorem nt:cA Tryz.prog 139 0=some 0:=by kernel_rfl
theorem Cu:cA Tryz.prog 139 1=some 4:=by kernel_rfl
theorem gK:fY Tryz.prog 148=some (151,5,64,(.agg #[(.int .i64 0),(.int .i64 0),(.string ⟨#[]⟩),(.slice none 0 0),(.int .i64 0)])):=by kernel_rfl
theorem sF:cf Tryz.prog 148=some (151,5):=by kernel_rfl
abbrev bH:Nat:=151
theorem um:kr Tryz.prog 151=some 5:=by kernel_rfl
theorem DS:fB Tryz.prog 151=some (.agg #[(.int .i64 0),(.int .i64 0),(.string ⟨#[]⟩),(.slice none 0 0),(.int .i64 0)]):=by kernel_rfl
theorem j4:cA Tryz.prog 151 0=some 0:=by kernel_rfl
theorem yH:cA Tryz.prog 151 1=some 4:=by kernel_rfl
abbrev bO:Nat:=3
abbrev kj:Nat:=6
theorem jU:Tryz.prog.funcs[6]?=some Tryz.f6:=Tryz.func6
theorem jO:bf Tryz.f6=false:=by kernel_rfl
abbrev nr:Nat:=7
theorem mu:Tryz.prog.funcs[7]?=some Tryz.f7:=Tryz.func7
theorem mx:bf Tryz.f7=false:=by kernel_rfl
abbrev pD:Nat:=8
theorem iH:Tryz.prog.funcs[8]?=some Tryz.f8:=Tryz.func8
theorem iz:bf Tryz.f8=false:=by kernel_rfl
abbrev pl:Nat:=9
theorem nl:Tryz.prog.funcs[9]?=some Tryz.f9:=Tryz.func9
theorem nu:bf Tryz.f9=false:=by kernel_rfl
abbrev CW:Nat:=10
theorem lU:Tryz.prog.funcs[10]?=some Tryz.f10:=Tryz.func10
theorem lh:bf Tryz.f10=false:=by kernel_rfl
abbrev z5:Nat:=20
theorem zF:Tryz.prog.funcs[20]?=some Tryz.f20:=Tryz.func20
theorem zG:bf Tryz.f20=false:=by kernel_rfl
abbrev zz:Nat:=21
theorem vN:Tryz.prog.funcs[21]?=some Tryz.f21:=Tryz.func21
theorem we:bf Tryz.f21=false:=by kernel_rfl
abbrev tw:Nat:=22
theorem bL:Tryz.prog.funcs[22]?=some Tryz.f22:=Tryz.func22
theorem bK:bf Tryz.f22=false:=by kernel_rfl
abbrev Bp:Nat:=23
theorem kD:Tryz.prog.funcs[23]?=some Tryz.f23:=Tryz.func23
theorem kf:bf Tryz.f23=false:=by kernel_rfl
abbrev yG:Nat:=24
theorem wo:Tryz.prog.funcs[24]?=some Tryz.f24:=Tryz.func24
theorem wF:bf Tryz.f24=false:=by kernel_rfl
abbrev tc:Nat:=25
theorem jq:Tryz.prog.funcs[25]?=some Tryz.f25:=Tryz.func25
theorem jE:bf Tryz.f25=false:=by kernel_rfl
abbrev wK:Nat:=26
theorem uS:Tryz.prog.funcs[26]?=some Tryz.f26:=Tryz.func26
theorem tO:bf Tryz.f26=false:=by kernel_rfl
abbrev oR:Nat:=27
theorem wE:Tryz.prog.funcs[27]?=some Tryz.f27:=Tryz.func27
theorem vR:bf Tryz.f27=false:=by kernel_rfl
abbrev nQ:Nat:=28
theorem nH:Tryz.prog.funcs[28]?=some Tryz.f28:=Tryz.func28
theorem ng:bf Tryz.f28=false:=by kernel_rfl
abbrev tf:Nat:=29
theorem jM:Tryz.prog.funcs[29]?=some Tryz.f29:=Tryz.func29
theorem jk:bf Tryz.f29=false:=by kernel_rfl
abbrev y5:Nat:=30
theorem wG:Tryz.prog.funcs[30]?=some Tryz.f30:=Tryz.func30
theorem wc:bf Tryz.f30=false:=by kernel_rfl
abbrev DX:Nat:=36
theorem lP:Tryz.prog.funcs[36]?=some Tryz.f36:=Tryz.func36
theorem lS:bf Tryz.f36=false:=by kernel_rfl
abbrev u7:Nat:=41
theorem ta:Tryz.prog.funcs[41]?=some Tryz.f41:=Tryz.func41
theorem s3:bf Tryz.f41=false:=by kernel_rfl
abbrev wi:Nat:=46
theorem eZ:Tryz.prog.funcs[46]?=some Tryz.f46:=Tryz.func46
theorem fb:bf Tryz.f46=false:=by kernel_rfl
abbrev pG:Nat:=51
theorem cJ:Tryz.prog.funcs[51]?=some Tryz.f51:=Tryz.func51
theorem cI:bf Tryz.f51=false:=by kernel_rfl
abbrev vG:Nat:=55
theorem rG:Tryz.prog.funcs[55]?=some Tryz.f55:=Tryz.func55
theorem r4:bf Tryz.f55=false:=by kernel_rfl
abbrev wQ:Nat:=56
theorem uP:Tryz.prog.funcs[56]?=some Tryz.f56:=Tryz.func56
theorem ud:bf Tryz.f56=false:=by kernel_rfl
abbrev zq:Nat:=57
theorem ez:Tryz.prog.funcs[57]?=some Tryz.f57:=Tryz.func57
theorem eA:bf Tryz.f57=false:=by kernel_rfl
abbrev Dh:Nat:=58
theorem eW:Tryz.prog.funcs[58]?=some Tryz.f58:=Tryz.func58
theorem eH:bf Tryz.f58=false:=by kernel_rfl
abbrev zn:Nat:=59
theorem mY:Tryz.prog.funcs[59]?=some Tryz.f59:=Tryz.func59
theorem mG:bf Tryz.f59=false:=by kernel_rfl
abbrev De:Nat:=60
theorem rv:Tryz.prog.funcs[60]?=some Tryz.f60:=Tryz.func60
theorem rA:bf Tryz.f60=false:=by kernel_rfl
abbrev wm:Nat:=61
theorem lK:Tryz.prog.funcs[61]?=some Tryz.f61:=Tryz.func61
theorem lM:bf Tryz.f61=false:=by kernel_rfl
abbrev zT:Nat:=62
theorem oF:Tryz.prog.funcs[62]?=some Tryz.f62:=Tryz.func62
theorem pe:bf Tryz.f62=false:=by kernel_rfl
abbrev tz:Nat:=63
theorem s5:Tryz.prog.funcs[63]?=some Tryz.f63:=Tryz.func63
theorem sZ:bf Tryz.f63=false:=by kernel_rfl
abbrev EB:Nat:=64
theorem zY:Tryz.prog.funcs[64]?=some Tryz.f64:=Tryz.func64
theorem z8:bf Tryz.f64=false:=by kernel_rfl
abbrev rf:Nat:=65
theorem oe:Tryz.prog.funcs[65]?=some Tryz.f65:=Tryz.func65
theorem pS:bf Tryz.f65=false:=by kernel_rfl
abbrev vM:Nat:=66
theorem uT:Tryz.prog.funcs[66]?=some Tryz.f66:=Tryz.func66
theorem vK:bf Tryz.f66=false:=by kernel_rfl
abbrev wJ:Nat:=67
theorem tB:Tryz.prog.funcs[67]?=some Tryz.f67:=Tryz.func67
theorem tS:bf Tryz.f67=false:=by kernel_rfl
abbrev s7:Nat:=68
theorem qq:Tryz.prog.funcs[68]?=some Tryz.f68:=Tryz.func68
theorem qy:bf Tryz.f68=false:=by kernel_rfl
abbrev sY:Nat:=69
theorem qx:Tryz.prog.funcs[69]?=some Tryz.f69:=Tryz.func69
theorem qC:bf Tryz.f69=false:=by kernel_rfl
abbrev wA:Nat:=70
theorem uK:Tryz.prog.funcs[70]?=some Tryz.f70:=Tryz.func70
theorem u4:bf Tryz.f70=false:=by kernel_rfl
abbrev vX:Nat:=71
theorem lq:Tryz.prog.funcs[71]?=some Tryz.f71:=Tryz.func71
theorem l6:bf Tryz.f71=false:=by kernel_rfl
abbrev AN:Nat:=72
theorem nR:Tryz.prog.funcs[72]?=some Tryz.f72:=Tryz.func72
theorem oT:bf Tryz.f72=false:=by kernel_rfl
abbrev BH:Nat:=73
theorem yS:Tryz.prog.funcs[73]?=some Tryz.f73:=Tryz.func73
theorem zo:bf Tryz.f73=false:=by kernel_rfl
abbrev DI:Nat:=74
theorem AH:Tryz.prog.funcs[74]?=some Tryz.f74:=Tryz.func74
theorem Cf:bf Tryz.f74=false:=by kernel_rfl
abbrev z6:Nat:=75
theorem yu:Tryz.prog.funcs[75]?=some Tryz.f75:=Tryz.func75
theorem yI:bf Tryz.f75=false:=by kernel_rfl
abbrev zr:Nat:=78
theorem vO:Tryz.prog.funcs[78]?=some Tryz.f78:=Tryz.func78
theorem vQ:bf Tryz.f78=false:=by kernel_rfl
abbrev DK:Nat:=82
theorem A7:Tryz.prog.funcs[82]?=some Tryz.f82:=Tryz.func82
theorem AQ:bf Tryz.f82=false:=by kernel_rfl
abbrev rn:Nat:=83
theorem pX:Tryz.prog.funcs[83]?=some Tryz.f83:=Tryz.func83
theorem oK:bf Tryz.f83=false:=by kernel_rfl
abbrev ff:Nat:=84
theorem pR:Tryz.prog.funcs[84]?=some Tryz.f84:=Tryz.func84
theorem oS:bf Tryz.f84=false:=by kernel_rfl
abbrev v6:Nat:=85
theorem lJ:Tryz.prog.funcs[85]?=some Tryz.f85:=Tryz.func85
theorem lH:bf Tryz.f85=false:=by kernel_rfl
abbrev E5:Nat:=89
theorem vy:Tryz.prog.funcs[89]?=some Tryz.f89:=Tryz.func89
theorem vL:bf Tryz.f89=false:=by kernel_rfl
abbrev EY:Nat:=90
theorem nv:Tryz.prog.funcs[90]?=some Tryz.f90:=Tryz.func90
theorem nc:bf Tryz.f90=false:=by kernel_rfl
abbrev nn:Nat:=97
theorem eQ:Tryz.prog.funcs[97]?=some Tryz.f97:=Tryz.func97
theorem fa:bf Tryz.f97=false:=by kernel_rfl
abbrev Bg:Nat:=98
theorem y7:Tryz.prog.funcs[98]?=some Tryz.f98:=Tryz.func98
theorem yv:bf Tryz.f98=false:=by kernel_rfl
abbrev js:Nat:=99
theorem pN:Tryz.prog.funcs[99]?=some Tryz.f99:=Tryz.func99
theorem oO:bf Tryz.f99=false:=by kernel_rfl
abbrev GS:Nat:=100
theorem xe:Tryz.prog.funcs[100]?=some Tryz.f100:=Tryz.func100
theorem xp:bf Tryz.f100=false:=by kernel_rfl
abbrev wa:Nat:=101
theorem lX:Tryz.prog.funcs[101]?=some Tryz.f101:=Tryz.func101
theorem lk:bf Tryz.f101=false:=by kernel_rfl
abbrev F8:Nat:=102
theorem E4:Tryz.prog.funcs[102]?=some Tryz.f102:=Tryz.func102
theorem Fv:bf Tryz.f102=false:=by kernel_rfl
abbrev AL:Nat:=103
theorem ko:Tryz.prog.funcs[103]?=some Tryz.f103:=Tryz.func103
theorem jX:bf Tryz.f103=false:=by kernel_rfl
abbrev kV:Nat:=104
theorem fM:Tryz.prog.funcs[104]?=some Tryz.f104:=Tryz.func104
theorem fQ:bf Tryz.f104=false:=by kernel_rfl
abbrev jH:Nat:=105
theorem pu:Tryz.prog.funcs[105]?=some Tryz.f105:=Tryz.func105
theorem pv:bf Tryz.f105=false:=by kernel_rfl
abbrev wI:Nat:=106
theorem u5:Tryz.prog.funcs[106]?=some Tryz.f106:=Tryz.func106
theorem vq:bf Tryz.f106=false:=by kernel_rfl
abbrev tn:Nat:=107
theorem bt:Tryz.prog.funcs[107]?=some Tryz.f107:=Tryz.func107
theorem bp:bf Tryz.f107=false:=by kernel_rfl
abbrev lB:Nat:=108
theorem f0:Tryz.prog.funcs[108]?=some Tryz.f108:=Tryz.func108
theorem ge:bf Tryz.f108=false:=by kernel_rfl
abbrev sX:Nat:=109
theorem fk:Tryz.prog.funcs[109]?=some Tryz.f109:=Tryz.func109
theorem fg:bf Tryz.f109=false:=by kernel_rfl
abbrev td:Nat:=110
theorem qU:Tryz.prog.funcs[110]?=some Tryz.f110:=Tryz.func110
theorem ql:bf Tryz.f110=false:=by kernel_rfl
abbrev CM:Nat:=111
theorem AA:Tryz.prog.funcs[111]?=some Tryz.f111:=Tryz.func111
theorem BD:bf Tryz.f111=false:=by kernel_rfl
abbrev Am:Nat:=112
theorem n5:Tryz.prog.funcs[112]?=some Tryz.f112:=Tryz.func112
theorem nV:bf Tryz.f112=false:=by kernel_rfl
abbrev Bm:Nat:=113
theorem oE:Tryz.prog.funcs[113]?=some Tryz.f113:=Tryz.func113
theorem pQ:bf Tryz.f113=false:=by kernel_rfl
abbrev CN:Nat:=114
theorem rU:Tryz.prog.funcs[114]?=some Tryz.f114:=Tryz.func114
theorem sS:bf Tryz.f114=false:=by kernel_rfl
abbrev wy:Nat:=115
theorem ik:Tryz.prog.funcs[115]?=some Tryz.f115:=Tryz.func115
theorem im:bf Tryz.f115=false:=by kernel_rfl
abbrev Cl:Nat:=116
theorem eq:Tryz.prog.funcs[116]?=some Tryz.f116:=Tryz.func116
theorem ek:bf Tryz.f116=false:=by kernel_rfl
abbrev FR:Nat:=117
theorem up:Tryz.prog.funcs[117]?=some Tryz.f117:=Tryz.func117
theorem vz:bf Tryz.f117=false:=by kernel_rfl
abbrev Dj:Nat:=118
theorem ch:Tryz.prog.funcs[118]?=some Tryz.f118:=Tryz.func118
theorem cg:bf Tryz.f118=false:=by kernel_rfl
abbrev Fu:Nat:=119
theorem DR:Tryz.prog.funcs[119]?=some Tryz.f119:=Tryz.func119
theorem Cz:bf Tryz.f119=false:=by kernel_rfl
abbrev Db:Nat:=120
theorem lr:Tryz.prog.funcs[120]?=some Tryz.f120:=Tryz.func120
theorem lx:bf Tryz.f120=false:=by kernel_rfl
abbrev CJ:Nat:=121
theorem rM:Tryz.prog.funcs[121]?=some Tryz.f121:=Tryz.func121
theorem r3:bf Tryz.f121=false:=by kernel_rfl
abbrev Bo:Nat:=126
theorem pr:Tryz.prog.funcs[126]?=some Tryz.f126:=Tryz.func126
theorem pz:bf Tryz.f126=false:=by kernel_rfl
abbrev wk:Nat:=128
theorem tF:Tryz.prog.funcs[128]?=some Tryz.f128:=Tryz.func128
theorem vb:bf Tryz.f128=false:=by kernel_rfl
abbrev Fh:Nat:=130
theorem CV:Tryz.prog.funcs[130]?=some Tryz.f130:=Tryz.func130
theorem Cw:bf Tryz.f130=false:=by kernel_rfl
abbrev CG:Nat:=136
theorem zM:Tryz.prog.funcs[136]?=some Tryz.f136:=Tryz.func136
theorem AS:bf Tryz.f136=false:=by kernel_rfl
abbrev s8:Nat:=137
theorem qp:Tryz.prog.funcs[137]?=some Tryz.f137:=Tryz.func137
theorem qE:bf Tryz.f137=false:=by kernel_rfl
abbrev wv:Nat:=138
theorem uW:Tryz.prog.funcs[138]?=some Tryz.f138:=Tryz.func138
theorem uv:bf Tryz.f138=false:=by kernel_rfl
abbrev CF:Nat:=139
theorem zW:Tryz.prog.funcs[139]?=some Tryz.f139:=Tryz.func139
theorem BE:bf Tryz.f139=false:=by kernel_rfl
abbrev BN:Nat:=140
theorem ym:Tryz.prog.funcs[140]?=some Tryz.f140:=Tryz.func140
theorem yT:bf Tryz.f140=false:=by kernel_rfl
abbrev v4:Nat:=141
theorem uM:Tryz.prog.funcs[141]?=some Tryz.f141:=Tryz.func141
theorem uE:bf Tryz.f141=false:=by kernel_rfl
abbrev nD:Nat:=142
theorem mr:Tryz.prog.funcs[142]?=some Tryz.f142:=Tryz.func142
theorem mp:bf Tryz.f142=false:=by kernel_rfl
abbrev FN:Nat:=143
theorem un:Tryz.prog.funcs[143]?=some Tryz.f143:=Tryz.func143
theorem vi:bf Tryz.f143=false:=by kernel_rfl
abbrev rb:Nat:=144
theorem iY:Tryz.prog.funcs[144]?=some Tryz.f144:=Tryz.func144
theorem iT:bf Tryz.f144=false:=by kernel_rfl
abbrev Fb:Nat:=145
theorem DB:Tryz.prog.funcs[145]?=some Tryz.f145:=Tryz.func145
theorem Dq:bf Tryz.f145=false:=by kernel_rfl
abbrev AB:Nat:=146
theorem pY:Tryz.prog.funcs[146]?=some Tryz.f146:=Tryz.func146
theorem pm:bf Tryz.f146=false:=by kernel_rfl
abbrev qo:Nat:=148
theorem nP:Tryz.prog.funcs[148]?=some Tryz.f148:=Tryz.func148
theorem n6:bf Tryz.f148=false:=by kernel_rfl
abbrev Fo:Nat:=149
theorem Dm:Tryz.prog.funcs[149]?=some Tryz.f149:=Tryz.func149
theorem CA:bf Tryz.f149=false:=by kernel_rfl
abbrev Bf:Nat:=150
theorem oh:Tryz.prog.funcs[150]?=some Tryz.f150:=Tryz.func150
theorem nZ:bf Tryz.f150=false:=by kernel_rfl
abbrev DL:Nat:=151
theorem r5:Tryz.prog.funcs[151]?=some Tryz.f151:=Tryz.func151
theorem rH:bf Tryz.f151=false:=by kernel_rfl
abbrev CK:Nat:=154
theorem eI:Tryz.prog.funcs[154]?=some Tryz.f154:=Tryz.func154
theorem eJ:bf Tryz.f154=false:=by kernel_rfl
abbrev Di:Nat:=155
theorem cu:Tryz.prog.funcs[155]?=some Tryz.f155:=Tryz.func155
theorem cz:bf Tryz.f155=false:=by kernel_rfl
abbrev zR:Nat:=156
theorem zh:Tryz.prog.funcs[156]?=some Tryz.f156:=Tryz.func156
theorem yU:bf Tryz.f156=false:=by kernel_rfl
abbrev qd:Nat:=157
theorem o8:Tryz.prog.funcs[157]?=some Tryz.f157:=Tryz.func157
theorem pT:bf Tryz.f157=false:=by kernel_rfl
abbrev mv:Nat:=158
theorem lg:Tryz.prog.funcs[158]?=some Tryz.f158:=Tryz.func158
theorem lC:bf Tryz.f158=false:=by kernel_rfl
abbrev Bc:Nat:=159
theorem yr:Tryz.prog.funcs[159]?=some Tryz.f159:=Tryz.func159
theorem yq:bf Tryz.f159=false:=by kernel_rfl
abbrev DC:Nat:=160
theorem AC:Tryz.prog.funcs[160]?=some Tryz.f160:=Tryz.func160
theorem AZ:bf Tryz.f160=false:=by kernel_rfl
abbrev zO:Nat:=162
theorem yJ:Tryz.prog.funcs[162]?=some Tryz.f162:=Tryz.func162
theorem yV:bf Tryz.f162=false:=by kernel_rfl
abbrev F6:Nat:=163
theorem Fk:Tryz.prog.funcs[163]?=some Tryz.f163:=Tryz.func163
theorem Fj:bf Tryz.f163=false:=by kernel_rfl
abbrev DJ:Nat:=164
theorem AX:Tryz.prog.funcs[164]?=some Tryz.f164:=Tryz.func164
theorem AY:bf Tryz.f164=false:=by kernel_rfl
abbrev qX:Nat:=165
theorem pc:Tryz.prog.funcs[165]?=some Tryz.f165:=Tryz.func165
theorem oP:bf Tryz.f165=false:=by kernel_rfl
abbrev AR:Nat:=168
theorem yR:Tryz.prog.funcs[168]?=some Tryz.f168:=Tryz.func168
theorem yx:bf Tryz.f168=false:=by kernel_rfl
abbrev Bt:Nat:=169
theorem gY:Tryz.prog.funcs[169]?=some Tryz.f169:=Tryz.func169
theorem hG:bf Tryz.f169=false:=by kernel_rfl
abbrev zb:Nat:=170
theorem wg:Tryz.prog.funcs[170]?=some Tryz.f170:=Tryz.func170
theorem vP:bf Tryz.f170=false:=by kernel_rfl
abbrev Dx:Nat:=171
theorem rz:Tryz.prog.funcs[171]?=some Tryz.f171:=Tryz.func171
theorem sv:bf Tryz.f171=false:=by kernel_rfl
abbrev Ca:Nat:=172
theorem pC:Tryz.prog.funcs[172]?=some Tryz.f172:=Tryz.func172
theorem nT:bf Tryz.f172=false:=by kernel_rfl
abbrev DQ:Nat:=173
theorem eG:Tryz.prog.funcs[173]?=some Tryz.f173:=Tryz.func173
theorem eT:bf Tryz.f173=false:=by kernel_rfl
abbrev zZ:Nat:=174
theorem n4:Tryz.prog.funcs[174]?=some Tryz.f174:=Tryz.func174
theorem po:bf Tryz.f174=false:=by kernel_rfl
abbrev CC:Nat:=175
theorem Cd:Tryz.prog.funcs[175]?=some Tryz.f175:=Tryz.func175
theorem zS:bf Tryz.f175=false:=by kernel_rfl
abbrev AE:Nat:=176
theorem px:Tryz.prog.funcs[176]?=some Tryz.f176:=Tryz.func176
theorem nS:bf Tryz.f176=false:=by kernel_rfl
abbrev C7:Nat:=177
theorem lW:Tryz.prog.funcs[177]?=some Tryz.f177:=Tryz.func177
theorem k0:bf Tryz.f177=false:=by kernel_rfl
abbrev Dg:Nat:=178
theorem Bz:Tryz.prog.funcs[178]?=some Tryz.f178:=Tryz.func178
theorem Ai:bf Tryz.f178=false:=by kernel_rfl
abbrev Bj:Nat:=179
theorem pJ:Tryz.prog.funcs[179]?=some Tryz.f179:=Tryz.func179
theorem og:bf Tryz.f179=false:=by kernel_rfl
abbrev Cv:Nat:=180
theorem BS:Tryz.prog.funcs[180]?=some Tryz.f180:=Tryz.func180
theorem BF:bf Tryz.f180=false:=by kernel_rfl
abbrev y0:Nat:=181
theorem wt:Tryz.prog.funcs[181]?=some Tryz.f181:=Tryz.func181
theorem wH:bf Tryz.f181=false:=by kernel_rfl
abbrev AW:Nat:=182
theorem zl:Tryz.prog.funcs[182]?=some Tryz.f182:=Tryz.func182
theorem zA:bf Tryz.f182=false:=by kernel_rfl
abbrev DU:Nat:=183
theorem lY:Tryz.prog.funcs[183]?=some Tryz.f183:=Tryz.func183
theorem lL:bf Tryz.f183=false:=by kernel_rfl
abbrev DH:Nat:=184
theorem A8:Tryz.prog.funcs[184]?=some Tryz.f184:=Tryz.func184
theorem BM:bf Tryz.f184=false:=by kernel_rfl
abbrev FD:Nat:=185
theorem Dv:Tryz.prog.funcs[185]?=some Tryz.f185:=Tryz.func185
theorem Dk:bf Tryz.f185=false:=by kernel_rfl
abbrev CE:Nat:=186
theorem sH:Tryz.prog.funcs[186]?=some Tryz.f186:=Tryz.func186
theorem rF:bf Tryz.f186=false:=by kernel_rfl
abbrev vU:Nat:=187
theorem lI:Tryz.prog.funcs[187]?=some Tryz.f187:=Tryz.func187
theorem lF:bf Tryz.f187=false:=by kernel_rfl
abbrev z7:Nat:=188
theorem zy:Tryz.prog.funcs[188]?=some Tryz.f188:=Tryz.func188
theorem zm:bf Tryz.f188=false:=by kernel_rfl
abbrev y6:Nat:=189
theorem wq:Tryz.prog.funcs[189]?=some Tryz.f189:=Tryz.func189
theorem wN:bf Tryz.f189=false:=by kernel_rfl

end Go.Proofs.YtjbcdmheajljpaaGreat
