/- Made by program: names for the numbers of functions and types, and closed facts on them. -/
import Derived.Test.YtgllldjiaglkcaaGreatDoorZMaS
import Derived.Test.YtgllldjiaglkcaaGreatDoorProg
import Derived.KernelRfl
namespace Go.Proofs.YtgllldjiaglkcaaGreatDoor
open Go
abbrev bi (f:Func):Bool:=f.name == "runtime.NumGoroutine" || f.body.isNone
abbrev cc:Nat:=3
theorem aH:kC Tryz.prog 3=true:=by kernel_rfl
theorem Yv:fZ Tryz.prog 3=some (.int .i64 0):=by kernel_rfl
theorem fQ:Tryz.prog.underlying 3=some (.int .i64):=by kernel_rfl
abbrev MT:Nat:=4
theorem Ul:kC Tryz.prog 4=true:=by kernel_rfl
theorem Fo:Tryz.prog.underlying 4=some .bool:=by kernel_rfl
abbrev MP:Nat:=5
theorem FG:kC Tryz.prog 5=true:=by kernel_rfl
theorem gq:Tryz.prog.underlying 5=some (.int .u8):=by kernel_rfl
abbrev gJ:Nat:=9
theorem aQ:kC Tryz.prog 9=true:=by kernel_rfl
theorem aU:Tryz.prog.underlying 9=some .string:=by kernel_rfl
abbrev Pl:Nat:=22
theorem jc:kC Tryz.prog 22=true:=by kernel_rfl
theorem Bd:nq Tryz.prog 22=some (5,1,1,(.int .u8 0)):=by kernel_rfl
theorem ec:cL Tryz.prog 22=some (5,1):=by kernel_rfl
theorem tq:kC Tryz.prog 23=true:=by kernel_rfl
theorem lg:nq Tryz.prog 23=some (33,5,80,(.agg #[(.int .i64 0),(.int .i64 0),(.string ⟨#[]⟩),(.slice none 0 0),(.slice none 0 0)])):=by kernel_rfl
theorem cD:cL Tryz.prog 23=some (33,5):=by kernel_rfl
abbrev cr:Nat:=29
theorem aj:kC Tryz.prog 29=true:=by kernel_rfl
theorem bj:nq Tryz.prog 29=some (31,4,56,(.agg #[(.int .i64 0),(.int .i64 0),(.string ⟨#[]⟩),(.slice none 0 0)])):=by kernel_rfl
theorem ae:cL Tryz.prog 29=some (31,4):=by kernel_rfl
abbrev ac:Nat:=31
theorem ad:vE Tryz.prog 31=some 4:=by kernel_rfl
theorem aY:fZ Tryz.prog 31=some (.agg #[(.int .i64 0),(.int .i64 0),(.string ⟨#[]⟩),(.slice none 0 0)]):=by kernel_rfl
theorem aP:bS Tryz.prog 31 0=some 0:=by kernel_rfl
theorem bh:bS Tryz.prog 31 1=some 1:=by kernel_rfl
theorem bb:bS Tryz.prog 31 2=some 2:=by kernel_rfl
theorem al:bS Tryz.prog 31 3=some 3:=by kernel_rfl
abbrev au:Nat:=33
theorem bz:vE Tryz.prog 33=some 5:=by kernel_rfl
theorem ff:fZ Tryz.prog 33=some (.agg #[(.int .i64 0),(.int .i64 0),(.string ⟨#[]⟩),(.slice none 0 0),(.slice none 0 0)]):=by kernel_rfl
theorem cK:bS Tryz.prog 33 0=some 0:=by kernel_rfl
theorem bp:bS Tryz.prog 33 1=some 4:=by kernel_rfl
abbrev TK:Nat:=34
theorem Qo:nq Tryz.prog 34=some (57,1,24,(.agg #[(.slice none 0 0)])):=by kernel_rfl
theorem iY:cL Tryz.prog 34=some (57,1):=by kernel_rfl
abbrev dT:Nat:=57
theorem qA:vE Tryz.prog 57=some 1:=by kernel_rfl
theorem Tp:fZ Tryz.prog 57=some (.agg #[(.slice none 0 0)]):=by kernel_rfl
theorem jq:bS Tryz.prog 57 0=some 0:=by kernel_rfl
abbrev KF:Nat:=69
theorem Gb:nq Tryz.prog 69=some (9,1,16,(.string ⟨#[]⟩)):=by kernel_rfl
theorem cH:cL Tryz.prog 69=some (9,1):=by kernel_rfl
abbrev jw:Nat:=81
theorem gH:kC Tryz.prog 81=true:=by kernel_rfl
theorem T6:fZ Tryz.prog 81=some (.slice none 0 0):=by kernel_rfl
theorem kO:nq Tryz.prog 81=some (3,1,8,(.int .i64 0)):=by kernel_rfl
theorem c5:cL Tryz.prog 81=some (3,1):=by kernel_rfl
abbrev dk:Nat:=85
theorem G6:vE Tryz.prog 85=some 2:=by kernel_rfl
theorem XU:fZ Tryz.prog 85=some (.agg #[(.string ⟨#[]⟩),(.int .i64 0)]):=by kernel_rfl
abbrev l9:Nat:=94
theorem fD:kC Tryz.prog 94=true:=by kernel_rfl
theorem dO:kC Tryz.prog 95=true:=by kernel_rfl
theorem ey:kC Tryz.prog 96=true:=by kernel_rfl
theorem CH:nq Tryz.prog 96=some (194,9,112,(.agg #[(.int .i64 0),(.int .i64 0),(.string ⟨#[]⟩),(.slice none 0 0),(.int .i64 0),(.pointer none),(.slice none 0 0),(.int .i64 0),(.int .i64 0)])):=by kernel_rfl
theorem gI:cL Tryz.prog 96=some (194,9):=by kernel_rfl
theorem j9:kC Tryz.prog 97=true:=by kernel_rfl
theorem Li:nq Tryz.prog 97=some (102,6,72,(.agg #[(.int .i64 0),(.int .i64 0),(.string ⟨#[]⟩),(.slice none 0 0),(.int .i64 0),(.int .i64 0)])):=by kernel_rfl
theorem uW:cL Tryz.prog 97=some (102,6):=by kernel_rfl
abbrev qp:Nat:=99
theorem f4:bS Tryz.prog 99 0=some 0:=by kernel_rfl
theorem qZ:bS Tryz.prog 99 1=some 1:=by kernel_rfl
theorem Mb:bS Tryz.prog 99 2=some 2:=by kernel_rfl
theorem Nw:bS Tryz.prog 99 3=some 3:=by kernel_rfl
theorem MJ:bS Tryz.prog 99 4=some 4:=by kernel_rfl
theorem LI:bS Tryz.prog 99 5=some 5:=by kernel_rfl
theorem qB:bS Tryz.prog 99 6=some 6:=by kernel_rfl
theorem qX:bS Tryz.prog 99 7=some 7:=by kernel_rfl
theorem ic:bS Tryz.prog 99 8=some 8:=by kernel_rfl
theorem dR:bS Tryz.prog 99 9=some 9:=by kernel_rfl
theorem fC:bS Tryz.prog 99 10=some 10:=by kernel_rfl
theorem wK:bS Tryz.prog 99 11=some 11:=by kernel_rfl
abbrev lY:Nat:=102
theorem Tt:bS Tryz.prog 102 2=some 5:=by kernel_rfl
abbrev OO:Nat:=127
theorem fV:bS Tryz.prog 127 0=some 0:=by kernel_rfl
theorem tj:bS Tryz.prog 127 1=some 1:=by kernel_rfl
abbrev nw:Nat:=146
theorem H4:bS Tryz.prog 146 0=some 0:=by kernel_rfl
theorem Iu:bS Tryz.prog 146 1=some 4:=by kernel_rfl
theorem HG:bS Tryz.prog 146 2=some 5:=by kernel_rfl
theorem mq:bS Tryz.prog 146 3=some 6:=by kernel_rfl
abbrev qO:Nat:=151
theorem Mw:kC Tryz.prog 151=true:=by kernel_rfl
theorem IW:kC Tryz.prog 158=true:=by kernel_rfl
theorem fB:Tryz.prog.underlying 158=some (.map 3 31):=by kernel_rfl
abbrev dd:Nat:=177
theorem sX:bS Tryz.prog 177 0=some 0:=by kernel_rfl
theorem fX:bS Tryz.prog 177 1=some 1:=by kernel_rfl
abbrev ed:Nat:=194
theorem Gm:vE Tryz.prog 194=some 9:=by kernel_rfl
theorem Rj:fZ Tryz.prog 194=some (.agg #[(.int .i64 0),(.int .i64 0),(.string ⟨#[]⟩),(.slice none 0 0),(.int .i64 0),(.pointer none),(.slice none 0 0),(.int .i64 0),(.int .i64 0)]):=by kernel_rfl
theorem NA:bS Tryz.prog 194 0=some 0:=by kernel_rfl
theorem Mu:bS Tryz.prog 194 1=some 4:=by kernel_rfl
theorem Nm:bS Tryz.prog 194 2=some 5:=by kernel_rfl
theorem LZ:bS Tryz.prog 194 3=some 6:=by kernel_rfl
theorem M5:bS Tryz.prog 194 4=some 7:=by kernel_rfl
theorem LL:bS Tryz.prog 194 5=some 8:=by kernel_rfl
abbrev i8:Nat:=226
abbrev cO:Nat:=6
abbrev Vq:Nat:=12
theorem RZ:Tryz.prog.funcs[12]?=some Tryz.f12:=Tryz.func12
theorem Tn:bi Tryz.f12=false:=by kernel_rfl
abbrev wZ:Nat:=18
theorem vp:Tryz.prog.funcs[18]?=some Tryz.f18:=Tryz.func18
theorem vG:bi Tryz.f18=false:=by kernel_rfl
abbrev Gi:Nat:=19
theorem ER:Tryz.prog.funcs[19]?=some Tryz.f19:=Tryz.func19
theorem Ev:bi Tryz.f19=false:=by kernel_rfl
abbrev G0:Nat:=20
theorem rB:Tryz.prog.funcs[20]?=some Tryz.f20:=Tryz.func20
theorem rn:bi Tryz.f20=false:=by kernel_rfl
abbrev PP:Nat:=21
theorem zL:Tryz.prog.funcs[21]?=some Tryz.f21:=Tryz.func21
theorem AG:bi Tryz.f21=false:=by kernel_rfl
abbrev lV:Nat:=23
theorem iH:Tryz.prog.funcs[23]?=some Tryz.f23:=Tryz.func23
theorem iD:bi Tryz.f23=false:=by kernel_rfl
abbrev Cq:Nat:=24
theorem ze:Tryz.prog.funcs[24]?=some Tryz.f24:=Tryz.func24
theorem zv:bi Tryz.f24=false:=by kernel_rfl
abbrev IO:Nat:=25
theorem s0:Tryz.prog.funcs[25]?=some Tryz.f25:=Tryz.func25
theorem tL:bi Tryz.f25=false:=by kernel_rfl
abbrev Jg:Nat:=26
theorem sN:Tryz.prog.funcs[26]?=some Tryz.f26:=Tryz.func26
theorem sD:bi Tryz.f26=false:=by kernel_rfl
abbrev Ey:Nat:=27
theorem Bn:Tryz.prog.funcs[27]?=some Tryz.f27:=Tryz.func27
theorem Bx:bi Tryz.f27=false:=by kernel_rfl
abbrev Sc:Nat:=28
theorem Dc:Tryz.prog.funcs[28]?=some Tryz.f28:=Tryz.func28
theorem C4:bi Tryz.f28=false:=by kernel_rfl
abbrev Nt:Nat:=29
theorem JS:Tryz.prog.funcs[29]?=some Tryz.f29:=Tryz.func29
theorem IY:bi Tryz.f29=false:=by kernel_rfl
abbrev BS:Nat:=33
theorem nS:Tryz.prog.funcs[33]?=some Tryz.f33:=Tryz.func33
theorem oo:bi Tryz.f33=false:=by kernel_rfl
abbrev Rd:Nat:=34
theorem gO:Tryz.prog.funcs[34]?=some Tryz.f34:=Tryz.func34
theorem hO:bi Tryz.f34=false:=by kernel_rfl
abbrev B7:Nat:=37
theorem oe:Tryz.prog.funcs[37]?=some Tryz.f37:=Tryz.func37
theorem oi:bi Tryz.f37=false:=by kernel_rfl
abbrev VM:Nat:=40
theorem Sy:Tryz.prog.funcs[40]?=some Tryz.f40:=Tryz.func40
theorem Ts:bi Tryz.f40=false:=by kernel_rfl
abbrev Qh:Nat:=42
theorem qW:Tryz.prog.funcs[42]?=some Tryz.f42:=Tryz.func42
theorem qY:bi Tryz.f42=false:=by kernel_rfl
abbrev vh:Nat:=43
theorem g5:Tryz.prog.funcs[43]?=some Tryz.f43:=Tryz.func43
theorem g7:bi Tryz.f43=false:=by kernel_rfl
abbrev ql:Nat:=44
theorem iK:Tryz.prog.funcs[44]?=some Tryz.f44:=Tryz.func44
theorem iM:bi Tryz.f44=false:=by kernel_rfl
abbrev jV:Nat:=46
theorem dj:Tryz.prog.funcs[46]?=some Tryz.f46:=Tryz.func46
theorem dn:bi Tryz.f46=false:=by kernel_rfl
abbrev QO:Nat:=47
theorem zr:Tryz.prog.funcs[47]?=some Tryz.f47:=Tryz.func47
theorem y4:bi Tryz.f47=false:=by kernel_rfl
abbrev Ip:Nat:=49
theorem cI:Tryz.prog.funcs[49]?=some Tryz.f49:=Tryz.func49
theorem cJ:bi Tryz.f49=false:=by kernel_rfl
abbrev Fh:Nat:=50
theorem AW:Tryz.prog.funcs[50]?=some Tryz.f50:=Tryz.func50
theorem AU:bi Tryz.f50=false:=by kernel_rfl
abbrev JU:Nat:=51
theorem Ir:Tryz.prog.funcs[51]?=some Tryz.f51:=Tryz.func51
theorem GO:bi Tryz.f51=false:=by kernel_rfl
abbrev JZ:Nat:=52
theorem gY:Tryz.prog.funcs[52]?=some Tryz.f52:=Tryz.func52
theorem gX:bi Tryz.f52=false:=by kernel_rfl
abbrev H5:Nat:=54
theorem Er:Tryz.prog.funcs[54]?=some Tryz.f54:=Tryz.func54
theorem ED:bi Tryz.f54=false:=by kernel_rfl
abbrev Yp:Nat:=55
theorem Kv:Tryz.prog.funcs[55]?=some Tryz.f55:=Tryz.func55
theorem Kg:bi Tryz.f55=false:=by kernel_rfl
abbrev vm:Nat:=61
theorem ui:Tryz.prog.funcs[61]?=some Tryz.f61:=Tryz.func61
theorem sF:bi Tryz.f61=false:=by kernel_rfl
abbrev Ga:Nat:=62
theorem Fe:Tryz.prog.funcs[62]?=some Tryz.f62:=Tryz.func62
theorem Fb:bi Tryz.f62=false:=by kernel_rfl
abbrev GV:Nat:=63
theorem EC:Tryz.prog.funcs[63]?=some Tryz.f63:=Tryz.func63
theorem EW:bi Tryz.f63=false:=by kernel_rfl
abbrev JI:Nat:=64
theorem FF:Tryz.prog.funcs[64]?=some Tryz.f64:=Tryz.func64
theorem Iv:bi Tryz.f64=false:=by kernel_rfl
abbrev EF:Nat:=65
theorem AR:Tryz.prog.funcs[65]?=some Tryz.f65:=Tryz.func65
theorem Be:bi Tryz.f65=false:=by kernel_rfl
abbrev oE:Nat:=66
theorem mT:Tryz.prog.funcs[66]?=some Tryz.f66:=Tryz.func66
theorem mr:bi Tryz.f66=false:=by kernel_rfl
abbrev Hy:Nat:=68
theorem Ew:Tryz.prog.funcs[68]?=some Tryz.f68:=Tryz.func68
theorem E3:bi Tryz.f68=false:=by kernel_rfl
abbrev xy:Nat:=69
theorem vw:Tryz.prog.funcs[69]?=some Tryz.f69:=Tryz.func69
theorem vk:bi Tryz.f69=false:=by kernel_rfl
abbrev HP:Nat:=70
theorem rl:Tryz.prog.funcs[70]?=some Tryz.f70:=Tryz.func70
theorem se:bi Tryz.f70=false:=by kernel_rfl
abbrev ND:Nat:=71
theorem oW:Tryz.prog.funcs[71]?=some Tryz.f71:=Tryz.func71
theorem oU:bi Tryz.f71=false:=by kernel_rfl
abbrev OA:Nat:=72
theorem My:Tryz.prog.funcs[72]?=some Tryz.f72:=Tryz.func72
theorem Mi:bi Tryz.f72=false:=by kernel_rfl
abbrev IR:Nat:=73
theorem hY:Tryz.prog.funcs[73]?=some Tryz.f73:=Tryz.func73
theorem gS:bi Tryz.f73=false:=by kernel_rfl
abbrev Oq:Nat:=74
theorem qt:Tryz.prog.funcs[74]?=some Tryz.f74:=Tryz.func74
theorem qx:bi Tryz.f74=false:=by kernel_rfl
abbrev VC:Nat:=75
theorem HW:Tryz.prog.funcs[75]?=some Tryz.f75:=Tryz.func75
theorem HL:bi Tryz.f75=false:=by kernel_rfl
abbrev EX:Nat:=76
theorem BZ:Tryz.prog.funcs[76]?=some Tryz.f76:=Tryz.func76
theorem Bl:bi Tryz.f76=false:=by kernel_rfl
abbrev Ro:Nat:=77
theorem i6:Tryz.prog.funcs[77]?=some Tryz.f77:=Tryz.func77
theorem ja:bi Tryz.f77=false:=by kernel_rfl
abbrev nJ:Nat:=78
theorem ft:Tryz.prog.funcs[78]?=some Tryz.f78:=Tryz.func78
theorem fy:bi Tryz.f78=false:=by kernel_rfl
abbrev y3:Nat:=79
theorem xG:Tryz.prog.funcs[79]?=some Tryz.f79:=Tryz.func79
theorem wV:bi Tryz.f79=false:=by kernel_rfl
abbrev JP:Nat:=80
theorem mG:Tryz.prog.funcs[80]?=some Tryz.f80:=Tryz.func80
theorem mO:bi Tryz.f80=false:=by kernel_rfl
abbrev Np:Nat:=81
theorem vU:Tryz.prog.funcs[81]?=some Tryz.f81:=Tryz.func81
theorem wg:bi Tryz.f81=false:=by kernel_rfl
abbrev CQ:Nat:=82
theorem jG:Tryz.prog.funcs[82]?=some Tryz.f82:=Tryz.func82
theorem jm:bi Tryz.f82=false:=by kernel_rfl
abbrev vo:Nat:=83
theorem tW:Tryz.prog.funcs[83]?=some Tryz.f83:=Tryz.func83
theorem tS:bi Tryz.f83=false:=by kernel_rfl
abbrev FA:Nat:=84
theorem sa:Tryz.prog.funcs[84]?=some Tryz.f84:=Tryz.func84
theorem rX:bi Tryz.f84=false:=by kernel_rfl
abbrev Il:Nat:=85
theorem EV:Tryz.prog.funcs[85]?=some Tryz.f85:=Tryz.func85
theorem Et:bi Tryz.f85=false:=by kernel_rfl
abbrev GK:Nat:=86
theorem Fc:Tryz.prog.funcs[86]?=some Tryz.f86:=Tryz.func86
theorem E0:bi Tryz.f86=false:=by kernel_rfl
abbrev mA:Nat:=93
theorem vi:Tryz.prog.funcs[93]?=some Tryz.f93:=Tryz.func93
theorem vA:bi Tryz.f93=false:=by kernel_rfl
abbrev Fg:Nat:=94
theorem Cr:Tryz.prog.funcs[94]?=some Tryz.f94:=Tryz.func94
theorem Cn:bi Tryz.f94=false:=by kernel_rfl
abbrev E8:Nat:=96
theorem pL:Tryz.prog.funcs[96]?=some Tryz.f96:=Tryz.func96
theorem p9:bi Tryz.f96=false:=by kernel_rfl
abbrev FT:Nat:=97
theorem C2:Tryz.prog.funcs[97]?=some Tryz.f97:=Tryz.func97
theorem DY:bi Tryz.f97=false:=by kernel_rfl
abbrev Mx:Nat:=98
theorem JL:Tryz.prog.funcs[98]?=some Tryz.f98:=Tryz.func98
theorem II:bi Tryz.f98=false:=by kernel_rfl
abbrev Iq:Nat:=99
theorem Eu:Tryz.prog.funcs[99]?=some Tryz.f99:=Tryz.func99
theorem EP:bi Tryz.f99=false:=by kernel_rfl
abbrev CG:Nat:=100
theorem NY:Tryz.prog.funcs[100]?=some Tryz.f100:=Tryz.func100
theorem Nq:bi Tryz.f100=false:=by kernel_rfl
abbrev IQ:Nat:=101
theorem tU:Tryz.prog.funcs[101]?=some Tryz.f101:=Tryz.func101
theorem tm:bi Tryz.f101=false:=by kernel_rfl
abbrev Yr:Nat:=102
theorem VZ:Tryz.prog.funcs[102]?=some Tryz.f102:=Tryz.func102
theorem Vt:bi Tryz.f102=false:=by kernel_rfl
abbrev BK:Nat:=103
theorem y8:Tryz.prog.funcs[103]?=some Tryz.f103:=Tryz.func103
theorem z8:bi Tryz.f103=false:=by kernel_rfl
abbrev tI:Nat:=104
theorem si:Tryz.prog.funcs[104]?=some Tryz.f104:=Tryz.func104
theorem sj:bi Tryz.f104=false:=by kernel_rfl
abbrev mx:Nat:=105
theorem fH:Tryz.prog.funcs[105]?=some Tryz.f105:=Tryz.func105
theorem fJ:bi Tryz.f105=false:=by kernel_rfl
abbrev pt:Nat:=107
theorem ox:Tryz.prog.funcs[107]?=some Tryz.f107:=Tryz.func107
theorem nK:bi Tryz.f107=false:=by kernel_rfl
abbrev MR:Nat:=110
theorem Jh:Tryz.prog.funcs[110]?=some Tryz.f110:=Tryz.func110
theorem I0:bi Tryz.f110=false:=by kernel_rfl
abbrev y9:Nat:=111
theorem dv:Tryz.prog.funcs[111]?=some Tryz.f111:=Tryz.func111
theorem dw:bi Tryz.f111=false:=by kernel_rfl
abbrev Qs:Nat:=112
theorem L7:Tryz.prog.funcs[112]?=some Tryz.f112:=Tryz.func112
theorem NN:bi Tryz.f112=false:=by kernel_rfl
abbrev AV:Nat:=115
theorem oj:Tryz.prog.funcs[115]?=some Tryz.f115:=Tryz.func115
theorem oD:bi Tryz.f115=false:=by kernel_rfl
abbrev tf:Nat:=116
theorem sy:Tryz.prog.funcs[116]?=some Tryz.f116:=Tryz.func116
theorem sr:bi Tryz.f116=false:=by kernel_rfl
abbrev MG:Nat:=118
theorem Jv:Tryz.prog.funcs[118]?=some Tryz.f118:=Tryz.func118
theorem Jl:bi Tryz.f118=false:=by kernel_rfl
abbrev LW:Nat:=120
theorem oO:Tryz.prog.funcs[120]?=some Tryz.f120:=Tryz.func120
theorem oS:bi Tryz.f120=false:=by kernel_rfl
abbrev Fd:Nat:=121
theorem fb:Tryz.prog.funcs[121]?=some Tryz.f121:=Tryz.func121
theorem eY:bi Tryz.f121=false:=by kernel_rfl
abbrev Sd:Nat:=129
theorem N8:Tryz.prog.funcs[129]?=some Tryz.f129:=Tryz.func129
theorem OB:bi Tryz.f129=false:=by kernel_rfl
abbrev EO:Nat:=130
theorem Bg:Tryz.prog.funcs[130]?=some Tryz.f130:=Tryz.func130
theorem AO:bi Tryz.f130=false:=by kernel_rfl
abbrev NT:Nat:=131
theorem Jw:Tryz.prog.funcs[131]?=some Tryz.f131:=Tryz.func131
theorem IF:bi Tryz.f131=false:=by kernel_rfl
abbrev OR:Nat:=132
theorem M2:Tryz.prog.funcs[132]?=some Tryz.f132:=Tryz.func132
theorem M1:bi Tryz.f132=false:=by kernel_rfl
abbrev Y4:Nat:=133
theorem QR:Tryz.prog.funcs[133]?=some Tryz.f133:=Tryz.func133
theorem O7:bi Tryz.f133=false:=by kernel_rfl
abbrev Gz:Nat:=134
theorem E9:Tryz.prog.funcs[134]?=some Tryz.f134:=Tryz.func134
theorem EZ:bi Tryz.f134=false:=by kernel_rfl
abbrev EG:Nat:=135
theorem kj:Tryz.prog.funcs[135]?=some Tryz.f135:=Tryz.func135
theorem kq:bi Tryz.f135=false:=by kernel_rfl
abbrev Vj:Nat:=136
theorem SV:Tryz.prog.funcs[136]?=some Tryz.f136:=Tryz.func136
theorem Tl:bi Tryz.f136=false:=by kernel_rfl
abbrev Fz:Nat:=138
theorem rP:Tryz.prog.funcs[138]?=some Tryz.f138:=Tryz.func138
theorem rC:bi Tryz.f138=false:=by kernel_rfl
abbrev vt:Nat:=139
theorem ld:Tryz.prog.funcs[139]?=some Tryz.f139:=Tryz.func139
theorem lf:bi Tryz.f139=false:=by kernel_rfl
abbrev UM:Nat:=140
theorem OU:Tryz.prog.funcs[140]?=some Tryz.f140:=Tryz.func140
theorem PO:bi Tryz.f140=false:=by kernel_rfl
abbrev ik:Nat:=141
theorem Al:Tryz.prog.funcs[141]?=some Tryz.f141:=Tryz.func141
theorem Ar:bi Tryz.f141=false:=by kernel_rfl
abbrev Nl:Nat:=142
theorem JX:Tryz.prog.funcs[142]?=some Tryz.f142:=Tryz.func142
theorem JE:bi Tryz.f142=false:=by kernel_rfl
abbrev xo:Nat:=143
theorem fq:Tryz.prog.funcs[143]?=some Tryz.f143:=Tryz.func143
theorem fp:bi Tryz.f143=false:=by kernel_rfl
abbrev NP:Nat:=144
theorem kM:Tryz.prog.funcs[144]?=some Tryz.f144:=Tryz.func144
theorem kJ:bi Tryz.f144=false:=by kernel_rfl
abbrev VF:Nat:=145
theorem xm:Tryz.prog.funcs[145]?=some Tryz.f145:=Tryz.func145
theorem xS:bi Tryz.f145=false:=by kernel_rfl
abbrev MQ:Nat:=146
theorem Iw:Tryz.prog.funcs[146]?=some Tryz.f146:=Tryz.func146
theorem Jq:bi Tryz.f146=false:=by kernel_rfl
abbrev IL:Nat:=147
theorem He:Tryz.prog.funcs[147]?=some Tryz.f147:=Tryz.func147
theorem Hn:bi Tryz.f147=false:=by kernel_rfl
abbrev XS:Nat:=148
theorem LE:Tryz.prog.funcs[148]?=some Tryz.f148:=Tryz.func148
theorem Lg:bi Tryz.f148=false:=by kernel_rfl
abbrev SB:Nat:=149
theorem Ec:Tryz.prog.funcs[149]?=some Tryz.f149:=Tryz.func149
theorem Dh:bi Tryz.f149=false:=by kernel_rfl
abbrev FC:Nat:=150
theorem ro:Tryz.prog.funcs[150]?=some Tryz.f150:=Tryz.func150
theorem rE:bi Tryz.f150=false:=by kernel_rfl
abbrev Qn:Nat:=151
theorem qH:Tryz.prog.funcs[151]?=some Tryz.f151:=Tryz.func151
theorem qR:bi Tryz.f151=false:=by kernel_rfl
abbrev uv:Nat:=152
theorem Ep:Tryz.prog.funcs[152]?=some Tryz.f152:=Tryz.func152
theorem Fa:bi Tryz.f152=false:=by kernel_rfl
abbrev Nu:Nat:=153
theorem oX:Tryz.prog.funcs[153]?=some Tryz.f153:=Tryz.func153
theorem o7:bi Tryz.f153=false:=by kernel_rfl
abbrev R8:Nat:=156
theorem n5:Tryz.prog.funcs[156]?=some Tryz.f156:=Tryz.func156
theorem oC:bi Tryz.f156=false:=by kernel_rfl
abbrev H6:Nat:=162
theorem rV:Tryz.prog.funcs[162]?=some Tryz.f162:=Tryz.func162
theorem rW:bi Tryz.f162=false:=by kernel_rfl
abbrev IX:Nat:=163
theorem FK:Tryz.prog.funcs[163]?=some Tryz.f163:=Tryz.func163
theorem F7:bi Tryz.f163=false:=by kernel_rfl
abbrev Jt:Nat:=164
theorem mW:Tryz.prog.funcs[164]?=some Tryz.f164:=Tryz.func164
theorem mC:bi Tryz.f164=false:=by kernel_rfl
abbrev PA:Nat:=165
theorem qQ:Tryz.prog.funcs[165]?=some Tryz.f165:=Tryz.func165
theorem qD:bi Tryz.f165=false:=by kernel_rfl
abbrev Bw:Nat:=166
theorem yZ:Tryz.prog.funcs[166]?=some Tryz.f166:=Tryz.func166
theorem y7:bi Tryz.f166=false:=by kernel_rfl
abbrev Qp:Nat:=167
theorem Mn:Tryz.prog.funcs[167]?=some Tryz.f167:=Tryz.func167
theorem NQ:bi Tryz.f167=false:=by kernel_rfl
abbrev RR:Nat:=168
theorem Ow:Tryz.prog.funcs[168]?=some Tryz.f168:=Tryz.func168
theorem Py:bi Tryz.f168=false:=by kernel_rfl
abbrev EU:Nat:=169
theorem Bk:Tryz.prog.funcs[169]?=some Tryz.f169:=Tryz.func169
theorem AN:bi Tryz.f169=false:=by kernel_rfl
abbrev Oa:Nat:=170
theorem Mm:Tryz.prog.funcs[170]?=some Tryz.f170:=Tryz.func170
theorem NE:bi Tryz.f170=false:=by kernel_rfl
abbrev Tc:Nat:=172
theorem CO:Tryz.prog.funcs[172]?=some Tryz.f172:=Tryz.func172
theorem CU:bi Tryz.f172=false:=by kernel_rfl
abbrev Af:Nat:=173
theorem xb:Tryz.prog.funcs[173]?=some Tryz.f173:=Tryz.func173
theorem xp:bi Tryz.f173=false:=by kernel_rfl
abbrev Hx:Nat:=174
theorem iO:Tryz.prog.funcs[174]?=some Tryz.f174:=Tryz.func174
theorem iP:bi Tryz.f174=false:=by kernel_rfl
abbrev Fw:Nat:=175
theorem rN:Tryz.prog.funcs[175]?=some Tryz.f175:=Tryz.func175
theorem rI:bi Tryz.f175=false:=by kernel_rfl
abbrev V2:Nat:=177
theorem RD:Tryz.prog.funcs[177]?=some Tryz.f177:=Tryz.func177
theorem RS:bi Tryz.f177=false:=by kernel_rfl
abbrev SU:Nat:=183
theorem uL:Tryz.prog.funcs[183]?=some Tryz.f183:=Tryz.func183
theorem ur:bi Tryz.f183=false:=by kernel_rfl
abbrev ET:Nat:=185
theorem BB:Tryz.prog.funcs[185]?=some Tryz.f185:=Tryz.func185
theorem Cy:bi Tryz.f185=false:=by kernel_rfl
abbrev Vb:Nat:=186
theorem Q6:Tryz.prog.funcs[186]?=some Tryz.f186:=Tryz.func186
theorem Q7:bi Tryz.f186=false:=by kernel_rfl
abbrev Jj:Nat:=187
theorem FQ:Tryz.prog.funcs[187]?=some Tryz.f187:=Tryz.func187
theorem Hu:bi Tryz.f187=false:=by kernel_rfl
abbrev LV:Nat:=188
theorem IA:Tryz.prog.funcs[188]?=some Tryz.f188:=Tryz.func188
theorem IK:bi Tryz.f188=false:=by kernel_rfl
abbrev M6:Nat:=189
theorem IC:Tryz.prog.funcs[189]?=some Tryz.f189:=Tryz.func189
theorem IZ:bi Tryz.f189=false:=by kernel_rfl
abbrev NF:Nat:=190
theorem Jo:Tryz.prog.funcs[190]?=some Tryz.f190:=Tryz.func190
theorem ID:bi Tryz.f190=false:=by kernel_rfl
abbrev n_i_holds:Nat:=191
theorem fn_i_holds:Tryz.prog.funcs[191]?=some Tryz.f191:=Tryz.func191
theorem nm_i_holds:bi Tryz.f191=false:=by kernel_rfl
abbrev Gv:Nat:=192
theorem lA:Tryz.prog.funcs[192]?=some Tryz.f192:=Tryz.func192
theorem lq:bi Tryz.f192=false:=by kernel_rfl
abbrev Vi:Nat:=193
theorem mw:Tryz.prog.funcs[193]?=some Tryz.f193:=Tryz.func193
theorem mR:bi Tryz.f193=false:=by kernel_rfl
abbrev Re:Nat:=194
theorem CX:Tryz.prog.funcs[194]?=some Tryz.f194:=Tryz.func194
theorem Dv:bi Tryz.f194=false:=by kernel_rfl
abbrev qk:Nat:=200
theorem nt:Tryz.prog.funcs[200]?=some Tryz.f200:=Tryz.func200
theorem nR:bi Tryz.f200=false:=by kernel_rfl
abbrev tG:Nat:=201
theorem z1:Tryz.prog.funcs[201]?=some Tryz.f201:=Tryz.func201
theorem zM:bi Tryz.f201=false:=by kernel_rfl
abbrev FD:Nat:=202
theorem Ff:Tryz.prog.funcs[202]?=some Tryz.f202:=Tryz.func202
theorem EH:bi Tryz.f202=false:=by kernel_rfl
abbrev Ju:Nat:=203
theorem Hi:Tryz.prog.funcs[203]?=some Tryz.f203:=Tryz.func203
theorem GT:bi Tryz.f203=false:=by kernel_rfl
abbrev Rs:Nat:=204
theorem Pw:Tryz.prog.funcs[204]?=some Tryz.f204:=Tryz.func204
theorem QD:bi Tryz.f204=false:=by kernel_rfl
abbrev Vu:Nat:=213
theorem xM:Tryz.prog.funcs[213]?=some Tryz.f213:=Tryz.func213
theorem xW:bi Tryz.f213=false:=by kernel_rfl
abbrev Jk:Nat:=217
theorem tY:Tryz.prog.funcs[217]?=some Tryz.f217:=Tryz.func217
theorem td:bi Tryz.f217=false:=by kernel_rfl
abbrev OS:Nat:=219
theorem zI:Tryz.prog.funcs[219]?=some Tryz.f219:=Tryz.func219
theorem yV:bi Tryz.f219=false:=by kernel_rfl
abbrev qd:Nat:=220
theorem yy:Tryz.prog.funcs[220]?=some Tryz.f220:=Tryz.func220
theorem yA:bi Tryz.f220=false:=by kernel_rfl
abbrev Sb:Nat:=221
theorem QJ:Tryz.prog.funcs[221]?=some Tryz.f221:=Tryz.func221
theorem PQ:bi Tryz.f221=false:=by kernel_rfl
abbrev N3:Nat:=222
theorem AA:Tryz.prog.funcs[222]?=some Tryz.f222:=Tryz.func222
theorem y5:bi Tryz.f222=false:=by kernel_rfl
abbrev Pi:Nat:=223
theorem Av:Tryz.prog.funcs[223]?=some Tryz.f223:=Tryz.func223
theorem Am:bi Tryz.f223=false:=by kernel_rfl
abbrev Rm:Nat:=224
theorem DD:Tryz.prog.funcs[224]?=some Tryz.f224:=Tryz.func224
theorem Dj:bi Tryz.f224=false:=by kernel_rfl
abbrev Pe:Nat:=225
theorem ge:Tryz.prog.funcs[225]?=some Tryz.f225:=Tryz.func225
theorem gi:bi Tryz.f225=false:=by kernel_rfl
abbrev RV:Nat:=226
theorem gP:Tryz.prog.funcs[226]?=some Tryz.f226:=Tryz.func226
theorem gV:bi Tryz.f226=false:=by kernel_rfl
abbrev SZ:Nat:=227
theorem cP:Tryz.prog.funcs[227]?=some Tryz.f227:=Tryz.func227
theorem cQ:bi Tryz.f227=false:=by kernel_rfl
abbrev BL:Nat:=228
theorem zH:Tryz.prog.funcs[228]?=some Tryz.f228:=Tryz.func228
theorem zA:bi Tryz.f228=false:=by kernel_rfl
abbrev BM:Nat:=229
theorem jg:Tryz.prog.funcs[229]?=some Tryz.f229:=Tryz.func229
theorem jD:bi Tryz.f229=false:=by kernel_rfl
abbrev n7:Nat:=230
theorem xO:Tryz.prog.funcs[230]?=some Tryz.f230:=Tryz.func230
theorem wQ:bi Tryz.f230=false:=by kernel_rfl
abbrev HD:Nat:=231
theorem EN:Tryz.prog.funcs[231]?=some Tryz.f231:=Tryz.func231
theorem Ez:bi Tryz.f231=false:=by kernel_rfl
abbrev Qx:Nat:=232
theorem yQ:Tryz.prog.funcs[232]?=some Tryz.f232:=Tryz.func232
theorem zj:bi Tryz.f232=false:=by kernel_rfl
abbrev N4:Nat:=233
theorem Nv:Tryz.prog.funcs[233]?=some Tryz.f233:=Tryz.func233
theorem L9:bi Tryz.f233=false:=by kernel_rfl
abbrev Rk:Nat:=234
theorem ON:Tryz.prog.funcs[234]?=some Tryz.f234:=Tryz.func234
theorem OE:bi Tryz.f234=false:=by kernel_rfl
abbrev O8:Nat:=235
theorem zQ:Tryz.prog.funcs[235]?=some Tryz.f235:=Tryz.func235
theorem Au:bi Tryz.f235=false:=by kernel_rfl
abbrev Vy:Nat:=236
theorem SG:Tryz.prog.funcs[236]?=some Tryz.f236:=Tryz.func236
theorem Rv:bi Tryz.f236=false:=by kernel_rfl
abbrev QN:Nat:=237
theorem yw:Tryz.prog.funcs[237]?=some Tryz.f237:=Tryz.func237
theorem x3:bi Tryz.f237=false:=by kernel_rfl
abbrev OP:Nat:=239
theorem im:Tryz.prog.funcs[239]?=some Tryz.f239:=Tryz.func239
theorem ia:bi Tryz.f239=false:=by kernel_rfl
abbrev Me:Nat:=240
theorem IB:Tryz.prog.funcs[240]?=some Tryz.f240:=Tryz.func240
theorem IE:bi Tryz.f240=false:=by kernel_rfl
abbrev Ri:Nat:=242
theorem uT:Tryz.prog.funcs[242]?=some Tryz.f242:=Tryz.func242
theorem uf:bi Tryz.f242=false:=by kernel_rfl
abbrev Gd:Nat:=243
theorem QF:Tryz.prog.funcs[243]?=some Tryz.f243:=Tryz.func243
theorem QL:bi Tryz.f243=false:=by kernel_rfl
abbrev F4:Nat:=244
theorem tQ:Tryz.prog.funcs[244]?=some Tryz.f244:=Tryz.func244
theorem uw:bi Tryz.f244=false:=by kernel_rfl
abbrev QU:Nat:=245
theorem LS:Tryz.prog.funcs[245]?=some Tryz.f245:=Tryz.func245
theorem MN:bi Tryz.f245=false:=by kernel_rfl
abbrev NL:Nat:=252
theorem oJ:Tryz.prog.funcs[252]?=some Tryz.f252:=Tryz.func252
theorem oV:bi Tryz.f252=false:=by kernel_rfl
abbrev VN:Nat:=253
theorem RI:Tryz.prog.funcs[253]?=some Tryz.f253:=Tryz.func253
theorem Rr:bi Tryz.f253=false:=by kernel_rfl
abbrev Qz:Nat:=254
theorem LN:Tryz.prog.funcs[254]?=some Tryz.f254:=Tryz.func254
theorem MI:bi Tryz.f254=false:=by kernel_rfl
abbrev Yh:Nat:=255
theorem Vg:Tryz.prog.funcs[255]?=some Tryz.f255:=Tryz.func255
theorem Vp:bi Tryz.f255=false:=by kernel_rfl
abbrev Th:Nat:=256
theorem PD:Tryz.prog.funcs[256]?=some Tryz.f256:=Tryz.func256
theorem P3:bi Tryz.f256=false:=by kernel_rfl
abbrev xe:Nat:=257
theorem vB:Tryz.prog.funcs[257]?=some Tryz.f257:=Tryz.func257
theorem vr:bi Tryz.f257=false:=by kernel_rfl
abbrev Rx:Nat:=258
theorem C7:Tryz.prog.funcs[258]?=some Tryz.f258:=Tryz.func258
theorem CM:bi Tryz.f258=false:=by kernel_rfl
abbrev pU:Nat:=259
theorem za:Tryz.prog.funcs[259]?=some Tryz.f259:=Tryz.func259
theorem zb:bi Tryz.f259=false:=by kernel_rfl
abbrev BE:Nat:=260
theorem At:Tryz.prog.funcs[260]?=some Tryz.f260:=Tryz.func260
theorem yD:bi Tryz.f260=false:=by kernel_rfl
abbrev Ja:Nat:=261
theorem F5:Tryz.prog.funcs[261]?=some Tryz.f261:=Tryz.func261
theorem H3:bi Tryz.f261=false:=by kernel_rfl
abbrev Eo:Nat:=262
theorem Cw:Tryz.prog.funcs[262]?=some Tryz.f262:=Tryz.func262
theorem Cv:bi Tryz.f262=false:=by kernel_rfl
abbrev np:Nat:=263
theorem mg:Tryz.prog.funcs[263]?=some Tryz.f263:=Tryz.func263
theorem mv:bi Tryz.f263=false:=by kernel_rfl
abbrev iV:Nat:=264
theorem ra:Tryz.prog.funcs[264]?=some Tryz.f264:=Tryz.func264
theorem qF:bi Tryz.f264=false:=by kernel_rfl
abbrev E6:Nat:=265
theorem Cu:Tryz.prog.funcs[265]?=some Tryz.f265:=Tryz.func265
theorem A4:bi Tryz.f265=false:=by kernel_rfl
abbrev Ru:Nat:=266
theorem PW:Tryz.prog.funcs[266]?=some Tryz.f266:=Tryz.func266
theorem PR:bi Tryz.f266=false:=by kernel_rfl
abbrev Oe:Nat:=267
theorem Mf:Tryz.prog.funcs[267]?=some Tryz.f267:=Tryz.func267
theorem M3:bi Tryz.f267=false:=by kernel_rfl
abbrev Mo:Nat:=268
theorem Ji:Tryz.prog.funcs[268]?=some Tryz.f268:=Tryz.func268
theorem JA:bi Tryz.f268=false:=by kernel_rfl
abbrev Rl:Nat:=270
theorem Pg:Tryz.prog.funcs[270]?=some Tryz.f270:=Tryz.func270
theorem O1:bi Tryz.f270=false:=by kernel_rfl
abbrev O6:Nat:=271
theorem Ae:Tryz.prog.funcs[271]?=some Tryz.f271:=Tryz.func271
theorem yE:bi Tryz.f271=false:=by kernel_rfl
abbrev Pt:Nat:=272
theorem yI:Tryz.prog.funcs[272]?=some Tryz.f272:=Tryz.func272
theorem yT:bi Tryz.f272=false:=by kernel_rfl
abbrev QK:Nat:=273
theorem Aj:Tryz.prog.funcs[273]?=some Tryz.f273:=Tryz.func273
theorem yv:bi Tryz.f273=false:=by kernel_rfl
abbrev Mp:Nat:=274
theorem JC:Tryz.prog.funcs[274]?=some Tryz.f274:=Tryz.func274
theorem JY:bi Tryz.f274=false:=by kernel_rfl
abbrev V4:Nat:=275
theorem So:Tryz.prog.funcs[275]?=some Tryz.f275:=Tryz.func275
theorem RQ:bi Tryz.f275=false:=by kernel_rfl
abbrev RY:Nat:=276
theorem nN:Tryz.prog.funcs[276]?=some Tryz.f276:=Tryz.func276
theorem nH:bi Tryz.f276=false:=by kernel_rfl
abbrev Jy:Nat:=286
theorem FH:Tryz.prog.funcs[286]?=some Tryz.f286:=Tryz.func286
theorem H2:bi Tryz.f286=false:=by kernel_rfl
abbrev P2:Nat:=288
theorem Ms:Tryz.prog.funcs[288]?=some Tryz.f288:=Tryz.func288
theorem Na:bi Tryz.f288=false:=by kernel_rfl
abbrev Pm:Nat:=289
theorem zB:Tryz.prog.funcs[289]?=some Tryz.f289:=Tryz.func289
theorem AJ:bi Tryz.f289=false:=by kernel_rfl
abbrev RJ:Nat:=290
theorem g9:Tryz.prog.funcs[290]?=some Tryz.f290:=Tryz.func290
theorem hZ:bi Tryz.f290=false:=by kernel_rfl
abbrev yl:Nat:=291
theorem JH:Tryz.prog.funcs[291]?=some Tryz.f291:=Tryz.func291
theorem IM:bi Tryz.f291=false:=by kernel_rfl
abbrev Sl:Nat:=293
theorem PG:Tryz.prog.funcs[293]?=some Tryz.f293:=Tryz.func293
theorem Qy:bi Tryz.f293=false:=by kernel_rfl
abbrev EQ:Nat:=294
theorem j8:Tryz.prog.funcs[294]?=some Tryz.f294:=Tryz.func294
theorem ku:bi Tryz.f294=false:=by kernel_rfl
abbrev Wy:Nat:=295
theorem KS:Tryz.prog.funcs[295]?=some Tryz.f295:=Tryz.func295
theorem KX:bi Tryz.f295=false:=by kernel_rfl
abbrev xC:Nat:=296
theorem vD:Tryz.prog.funcs[296]?=some Tryz.f296:=Tryz.func296
theorem vy:bi Tryz.f296=false:=by kernel_rfl
abbrev sC:Nat:=297
theorem sm:Tryz.prog.funcs[297]?=some Tryz.f297:=Tryz.func297
theorem sA:bi Tryz.f297=false:=by kernel_rfl
abbrev JV:Nat:=300
theorem ug:Tryz.prog.funcs[300]?=some Tryz.f300:=Tryz.func300
theorem tT:bi Tryz.f300=false:=by kernel_rfl
abbrev R1:Nat:=302
theorem Dt:Tryz.prog.funcs[302]?=some Tryz.f302:=Tryz.func302
theorem CR:bi Tryz.f302=false:=by kernel_rfl
abbrev VR:Nat:=303
theorem Tb:Tryz.prog.funcs[303]?=some Tryz.f303:=Tryz.func303
theorem SS:bi Tryz.f303=false:=by kernel_rfl
abbrev V9:Nat:=307
theorem Td:Tryz.prog.funcs[307]?=some Tryz.f307:=Tryz.func307
theorem SF:bi Tryz.f307=false:=by kernel_rfl
abbrev Q8:Nat:=308
theorem PK:Tryz.prog.funcs[308]?=some Tryz.f308:=Tryz.func308
theorem Oz:bi Tryz.f308=false:=by kernel_rfl
abbrev N7:Nat:=309
theorem z0:Tryz.prog.funcs[309]?=some Tryz.f309:=Tryz.func309
theorem zm:bi Tryz.f309=false:=by kernel_rfl
abbrev Q9:Nat:=310
theorem Ou:Tryz.prog.funcs[310]?=some Tryz.f310:=Tryz.func310
theorem N9:bi Tryz.f310=false:=by kernel_rfl
abbrev N0:Nat:=311
theorem Jx:Tryz.prog.funcs[311]?=some Tryz.f311:=Tryz.func311
theorem Jb:bi Tryz.f311=false:=by kernel_rfl
abbrev QI:Nat:=312
theorem Nb:Tryz.prog.funcs[312]?=some Tryz.f312:=Tryz.func312
theorem MB:bi Tryz.f312=false:=by kernel_rfl
abbrev RG:Nat:=313
theorem sE:Tryz.prog.funcs[313]?=some Tryz.f313:=Tryz.func313
theorem uC:bi Tryz.f313=false:=by kernel_rfl
abbrev JM:Nat:=314
theorem uQ:Tryz.prog.funcs[314]?=some Tryz.f314:=Tryz.func314
theorem sP:bi Tryz.f314=false:=by kernel_rfl
abbrev Ct:Nat:=315
theorem om:Tryz.prog.funcs[315]?=some Tryz.f315:=Tryz.func315
theorem oG:bi Tryz.f315=false:=by kernel_rfl
abbrev SY:Nat:=317
theorem oA:Tryz.prog.funcs[317]?=some Tryz.f317:=Tryz.func317
theorem oH:bi Tryz.f317=false:=by kernel_rfl
abbrev TJ:Nat:=318
theorem sI:Tryz.prog.funcs[318]?=some Tryz.f318:=Tryz.func318
theorem uH:bi Tryz.f318=false:=by kernel_rfl
abbrev L5:Nat:=319
theorem JD:Tryz.prog.funcs[319]?=some Tryz.f319:=Tryz.func319
theorem Jz:bi Tryz.f319=false:=by kernel_rfl
abbrev TG:Nat:=328
theorem D3:Tryz.prog.funcs[328]?=some Tryz.f328:=Tryz.func328
theorem Ed:bi Tryz.f328=false:=by kernel_rfl
abbrev Jr:Nat:=329
theorem sY:Tryz.prog.funcs[329]?=some Tryz.f329:=Tryz.func329
theorem uo:bi Tryz.f329=false:=by kernel_rfl
abbrev QV:Nat:=330
theorem MO:Tryz.prog.funcs[330]?=some Tryz.f330:=Tryz.func330
theorem NU:bi Tryz.f330=false:=by kernel_rfl

end Go.Proofs.YtgllldjiaglkcaaGreatDoor
