/- Made by program: names for the numbers of functions and types, and closed facts on them. -/
import Derived.Test.YtgllldjiaglkcaaGreatDoorZUfS
import Derived.Test.YtgllldjiaglkcaaGreatDoorProg
import Derived.KernelRfl
namespace Go.Proofs.YtgllldjiaglkcaaGreatDoor
open Go
abbrev bu (f:Func):Bool:=f.name == "runtime.NumGoroutine" || f.body.isNone
abbrev cN:Nat:=3
theorem aG:jW Tryz.prog 3=true:=by kernel_rfl
theorem Uq:iH Tryz.prog 3=some (.int .i64 0):=by kernel_rfl
theorem iD:Tryz.prog.underlying 3=some (.int .i64):=by kernel_rfl
abbrev P9:Nat:=4
theorem RW:jW Tryz.prog 4=true:=by kernel_rfl
theorem DZ:Tryz.prog.underlying 4=some .bool:=by kernel_rfl
abbrev KZ:Nat:=5
theorem Fv:jW Tryz.prog 5=true:=by kernel_rfl
theorem gX:Tryz.prog.underlying 5=some (.int .u8):=by kernel_rfl
abbrev ib:Nat:=9
theorem be:jW Tryz.prog 9=true:=by kernel_rfl
theorem ba:Tryz.prog.underlying 9=some .string:=by kernel_rfl
abbrev M5:Nat:=22
theorem jf:jW Tryz.prog 22=true:=by kernel_rfl
theorem Bc:oy Tryz.prog 22=some (5,1,1,(.int .u8 0)):=by kernel_rfl
theorem eQ:dn Tryz.prog 22=some (5,1):=by kernel_rfl
abbrev gz:Nat:=23
theorem eO:jW Tryz.prog 23=true:=by kernel_rfl
theorem dd:oy Tryz.prog 23=some (33,5,80,(.agg #[(.int .i64 0),(.int .i64 0),(.string ⟨#[]⟩),(.slice none 0 0),(.slice none 0 0)])):=by kernel_rfl
theorem bf:dn Tryz.prog 23=some (33,5):=by kernel_rfl
abbrev tE:Nat:=29
theorem al:jW Tryz.prog 29=true:=by kernel_rfl
theorem bn:oy Tryz.prog 29=some (31,4,56,(.agg #[(.int .i64 0),(.int .i64 0),(.string ⟨#[]⟩),(.slice none 0 0)])):=by kernel_rfl
theorem ah:dn Tryz.prog 29=some (31,4):=by kernel_rfl
abbrev ab:Nat:=31
theorem ad:si Tryz.prog 31=some 4:=by kernel_rfl
theorem bj:iH Tryz.prog 31=some (.agg #[(.int .i64 0),(.int .i64 0),(.string ⟨#[]⟩),(.slice none 0 0)]):=by kernel_rfl
theorem aW:bS Tryz.prog 31 0=some 0:=by kernel_rfl
theorem bi:bS Tryz.prog 31 1=some 1:=by kernel_rfl
theorem bl:bS Tryz.prog 31 2=some 2:=by kernel_rfl
theorem ar:bS Tryz.prog 31 3=some 3:=by kernel_rfl
abbrev ac:Nat:=33
theorem aH:si Tryz.prog 33=some 5:=by kernel_rfl
theorem cV:iH Tryz.prog 33=some (.agg #[(.int .i64 0),(.int .i64 0),(.string ⟨#[]⟩),(.slice none 0 0),(.slice none 0 0)]):=by kernel_rfl
theorem bO:bS Tryz.prog 33 0=some 0:=by kernel_rfl
theorem aT:bS Tryz.prog 33 1=some 4:=by kernel_rfl
theorem NM:oy Tryz.prog 34=some (57,1,24,(.agg #[(.slice none 0 0)])):=by kernel_rfl
theorem fh:dn Tryz.prog 34=some (57,1):=by kernel_rfl
abbrev fl:Nat:=47
abbrev eE:Nat:=57
theorem qm:si Tryz.prog 57=some 1:=by kernel_rfl
theorem PX:iH Tryz.prog 57=some (.agg #[(.slice none 0 0)]):=by kernel_rfl
theorem l7:bS Tryz.prog 57 0=some 0:=by kernel_rfl
abbrev I7:Nat:=69
theorem Fj:oy Tryz.prog 69=some (9,1,16,(.string ⟨#[]⟩)):=by kernel_rfl
theorem cX:dn Tryz.prog 69=some (9,1):=by kernel_rfl
abbrev sA:Nat:=81
theorem jj:jW Tryz.prog 81=true:=by kernel_rfl
theorem XM:iH Tryz.prog 81=some (.slice none 0 0):=by kernel_rfl
theorem iS:oy Tryz.prog 81=some (3,1,8,(.int .i64 0)):=by kernel_rfl
theorem cz:dn Tryz.prog 81=some (3,1):=by kernel_rfl
abbrev dy:Nat:=85
theorem EM:si Tryz.prog 85=some 2:=by kernel_rfl
theorem Uv:iH Tryz.prog 85=some (.agg #[(.string ⟨#[]⟩),(.int .i64 0)]):=by kernel_rfl
abbrev l8:Nat:=94
theorem fx:jW Tryz.prog 94=true:=by kernel_rfl
theorem dO:jW Tryz.prog 95=true:=by kernel_rfl
theorem ey:jW Tryz.prog 96=true:=by kernel_rfl
theorem Dg:oy Tryz.prog 96=some (194,9,112,(.agg #[(.int .i64 0),(.int .i64 0),(.string ⟨#[]⟩),(.slice none 0 0),(.int .i64 0),(.pointer none),(.slice none 0 0),(.int .i64 0),(.int .i64 0)])):=by kernel_rfl
theorem ia:dn Tryz.prog 96=some (194,9):=by kernel_rfl
theorem jT:jW Tryz.prog 97=true:=by kernel_rfl
theorem Jd:oy Tryz.prog 97=some (102,6,72,(.agg #[(.int .i64 0),(.int .i64 0),(.string ⟨#[]⟩),(.slice none 0 0),(.int .i64 0),(.int .i64 0)])):=by kernel_rfl
theorem uN:dn Tryz.prog 97=some (102,6):=by kernel_rfl
abbrev o8:Nat:=99
theorem gi:bS Tryz.prog 99 0=some 0:=by kernel_rfl
theorem qG:bS Tryz.prog 99 1=some 1:=by kernel_rfl
theorem Kx:bS Tryz.prog 99 2=some 2:=by kernel_rfl
theorem Lx:bS Tryz.prog 99 3=some 3:=by kernel_rfl
theorem KF:bS Tryz.prog 99 4=some 4:=by kernel_rfl
theorem LH:bS Tryz.prog 99 5=some 5:=by kernel_rfl
theorem qC:bS Tryz.prog 99 6=some 6:=by kernel_rfl
theorem qY:bS Tryz.prog 99 7=some 7:=by kernel_rfl
theorem ij:bS Tryz.prog 99 8=some 8:=by kernel_rfl
theorem dU:bS Tryz.prog 99 9=some 9:=by kernel_rfl
theorem fu:bS Tryz.prog 99 10=some 10:=by kernel_rfl
theorem wz:bS Tryz.prog 99 11=some 11:=by kernel_rfl
abbrev lV:Nat:=102
theorem Qf:bS Tryz.prog 102 2=some 5:=by kernel_rfl
abbrev M7:Nat:=127
theorem fS:bS Tryz.prog 127 0=some 0:=by kernel_rfl
theorem sN:bS Tryz.prog 127 1=some 1:=by kernel_rfl
abbrev nT:Nat:=146
theorem Gb:bS Tryz.prog 146 0=some 0:=by kernel_rfl
theorem ED:bS Tryz.prog 146 1=some 4:=by kernel_rfl
theorem Gf:bS Tryz.prog 146 2=some 5:=by kernel_rfl
theorem mj:bS Tryz.prog 146 3=some 6:=by kernel_rfl
abbrev qu:Nat:=151
theorem KN:jW Tryz.prog 151=true:=by kernel_rfl
theorem Io:jW Tryz.prog 158=true:=by kernel_rfl
theorem kL:Tryz.prog.underlying 158=some (.map 3 31):=by kernel_rfl
abbrev c5:Nat:=177
theorem tC:bS Tryz.prog 177 0=some 0:=by kernel_rfl
theorem fX:bS Tryz.prog 177 1=some 1:=by kernel_rfl
abbrev ek:Nat:=194
theorem F1:si Tryz.prog 194=some 9:=by kernel_rfl
theorem PS:iH Tryz.prog 194=some (.agg #[(.int .i64 0),(.int .i64 0),(.string ⟨#[]⟩),(.slice none 0 0),(.int .i64 0),(.pointer none),(.slice none 0 0),(.int .i64 0),(.int .i64 0)]):=by kernel_rfl
theorem Lt:bS Tryz.prog 194 0=some 0:=by kernel_rfl
theorem LZ:bS Tryz.prog 194 1=some 4:=by kernel_rfl
theorem KI:bS Tryz.prog 194 2=some 5:=by kernel_rfl
theorem L7:bS Tryz.prog 194 3=some 6:=by kernel_rfl
theorem KQ:bS Tryz.prog 194 4=some 7:=by kernel_rfl
theorem Lh:bS Tryz.prog 194 5=some 8:=by kernel_rfl
abbrev jc:Nat:=226
abbrev cW:Nat:=4
abbrev Hs:Nat:=11
theorem tS:Tryz.prog.funcs[11]?=some Tryz.f11:=Tryz.func11
theorem ud:bu Tryz.f11=false:=by kernel_rfl
abbrev Tc:Nat:=12
theorem GU:Tryz.prog.funcs[12]?=some Tryz.f12:=Tryz.func12
theorem Hh:bu Tryz.f12=false:=by kernel_rfl
abbrev s6:Nat:=14
theorem sn:Tryz.prog.funcs[14]?=some Tryz.f14:=Tryz.func14
theorem su:bu Tryz.f14=false:=by kernel_rfl
abbrev Ay:Nat:=15
theorem yL:Tryz.prog.funcs[15]?=some Tryz.f15:=Tryz.func15
theorem zK:bu Tryz.f15=false:=by kernel_rfl
abbrev Ax:Nat:=16
theorem zz:Tryz.prog.funcs[16]?=some Tryz.f16:=Tryz.func16
theorem yS:bu Tryz.f16=false:=by kernel_rfl
abbrev Is:Nat:=17
theorem Hd:Tryz.prog.funcs[17]?=some Tryz.f17:=Tryz.func17
theorem FE:bu Tryz.f17=false:=by kernel_rfl
abbrev qU:Nat:=23
theorem ow:Tryz.prog.funcs[23]?=some Tryz.f23:=Tryz.func23
theorem oH:bu Tryz.f23=false:=by kernel_rfl
abbrev HU:Nat:=25
theorem Gz:Tryz.prog.funcs[25]?=some Tryz.f25:=Tryz.func25
theorem G9:bu Tryz.f25=false:=by kernel_rfl
abbrev Hq:Nat:=26
theorem GW:Tryz.prog.funcs[26]?=some Tryz.f26:=Tryz.func26
theorem Fm:bu Tryz.f26=false:=by kernel_rfl
abbrev Bn:Nat:=33
theorem jD:Tryz.prog.funcs[33]?=some Tryz.f33:=Tryz.func33
theorem jo:bu Tryz.f33=false:=by kernel_rfl
abbrev Pe:Nat:=34
theorem fT:Tryz.prog.funcs[34]?=some Tryz.f34:=Tryz.func34
theorem fU:bu Tryz.f34=false:=by kernel_rfl
abbrev Gk:Nat:=36
theorem rP:Tryz.prog.funcs[36]?=some Tryz.f36:=Tryz.func36
theorem rZ:bu Tryz.f36=false:=by kernel_rfl
abbrev BI:Nat:=37
theorem nt:Tryz.prog.funcs[37]?=some Tryz.f37:=Tryz.func37
theorem nz:bu Tryz.f37=false:=by kernel_rfl
abbrev MU:Nat:=38
theorem LK:Tryz.prog.funcs[38]?=some Tryz.f38:=Tryz.func38
theorem Md:bu Tryz.f38=false:=by kernel_rfl
abbrev tf:Nat:=39
theorem DE:Tryz.prog.funcs[39]?=some Tryz.f39:=Tryz.func39
theorem DP:bu Tryz.f39=false:=by kernel_rfl
abbrev TI:Nat:=40
theorem Ql:Tryz.prog.funcs[40]?=some Tryz.f40:=Tryz.func40
theorem Qw:bu Tryz.f40=false:=by kernel_rfl
abbrev MP:Nat:=42
theorem qH:Tryz.prog.funcs[42]?=some Tryz.f42:=Tryz.func42
theorem qz:bu Tryz.f42=false:=by kernel_rfl
abbrev vd:Nat:=43
theorem hY:Tryz.prog.funcs[43]?=some Tryz.f43:=Tryz.func43
theorem g7:bu Tryz.f43=false:=by kernel_rfl
abbrev o7:Nat:=44
theorem oq:Tryz.prog.funcs[44]?=some Tryz.f44:=Tryz.func44
theorem oG:bu Tryz.f44=false:=by kernel_rfl
abbrev jP:Nat:=46
theorem eL:Tryz.prog.funcs[46]?=some Tryz.f46:=Tryz.func46
theorem eJ:bu Tryz.f46=false:=by kernel_rfl
abbrev NU:Nat:=47
theorem KY:Tryz.prog.funcs[47]?=some Tryz.f47:=Tryz.func47
theorem Kj:bu Tryz.f47=false:=by kernel_rfl
abbrev MO:Nat:=48
theorem Lv:Tryz.prog.funcs[48]?=some Tryz.f48:=Tryz.func48
theorem La:bu Tryz.f48=false:=by kernel_rfl
abbrev Gc:Nat:=49
theorem ct:Tryz.prog.funcs[49]?=some Tryz.f49:=Tryz.func49
theorem cr:bu Tryz.f49=false:=by kernel_rfl
abbrev Dy:Nat:=50
theorem AK:Tryz.prog.funcs[50]?=some Tryz.f50:=Tryz.func50
theorem Bl:bu Tryz.f50=false:=by kernel_rfl
abbrev HZ:Nat:=51
theorem Fu:Tryz.prog.funcs[51]?=some Tryz.f51:=Tryz.func51
theorem GR:bu Tryz.f51=false:=by kernel_rfl
abbrev Hp:Nat:=52
theorem fM:Tryz.prog.funcs[52]?=some Tryz.f52:=Tryz.func52
theorem fL:bu Tryz.f52=false:=by kernel_rfl
abbrev Ib:Nat:=53
theorem F5:Tryz.prog.funcs[53]?=some Tryz.f53:=Tryz.func53
theorem FJ:bu Tryz.f53=false:=by kernel_rfl
abbrev GN:Nat:=54
theorem lC:Tryz.prog.funcs[54]?=some Tryz.f54:=Tryz.func54
theorem ly:bu Tryz.f54=false:=by kernel_rfl
abbrev Wi:Nat:=55
theorem uZ:Tryz.prog.funcs[55]?=some Tryz.f55:=Tryz.func55
theorem u7:bu Tryz.f55=false:=by kernel_rfl
abbrev Hx:Nat:=56
theorem Fd:Tryz.prog.funcs[56]?=some Tryz.f56:=Tryz.func56
theorem GA:bu Tryz.f56=false:=by kernel_rfl
abbrev HO:Nat:=57
theorem Ge:Tryz.prog.funcs[57]?=some Tryz.f57:=Tryz.func57
theorem Gw:bu Tryz.f57=false:=by kernel_rfl
abbrev TA:Nat:=58
theorem He:Tryz.prog.funcs[58]?=some Tryz.f58:=Tryz.func58
theorem EQ:bu Tryz.f58=false:=by kernel_rfl
abbrev AH:Nat:=59
theorem zk:Tryz.prog.funcs[59]?=some Tryz.f59:=Tryz.func59
theorem zt:bu Tryz.f59=false:=by kernel_rfl
abbrev Ev:Nat:=60
theorem DV:Tryz.prog.funcs[60]?=some Tryz.f60:=Tryz.func60
theorem DI:bu Tryz.f60=false:=by kernel_rfl
abbrev Id:Nat:=64
theorem FA:Tryz.prog.funcs[64]?=some Tryz.f64:=Tryz.func64
theorem Ff:bu Tryz.f64=false:=by kernel_rfl
abbrev Dn:Nat:=65
theorem As:Tryz.prog.funcs[65]?=some Tryz.f65:=Tryz.func65
theorem Av:bu Tryz.f65=false:=by kernel_rfl
abbrev od:Nat:=66
theorem i7:Tryz.prog.funcs[66]?=some Tryz.f66:=Tryz.func66
theorem i6:bu Tryz.f66=false:=by kernel_rfl
abbrev FR:Nat:=68
theorem rl:Tryz.prog.funcs[68]?=some Tryz.f68:=Tryz.func68
theorem rX:bu Tryz.f68=false:=by kernel_rfl
abbrev wQ:Nat:=69
theorem iK:Tryz.prog.funcs[69]?=some Tryz.f69:=Tryz.func69
theorem iF:bu Tryz.f69=false:=by kernel_rfl
abbrev Kb:Nat:=71
theorem wo:Tryz.prog.funcs[71]?=some Tryz.f71:=Tryz.func71
theorem vy:bu Tryz.f71=false:=by kernel_rfl
abbrev H2:Nat:=73
theorem tw:Tryz.prog.funcs[73]?=some Tryz.f73:=Tryz.func73
theorem tD:bu Tryz.f73=false:=by kernel_rfl
abbrev Nl:Nat:=74
theorem qq:Tryz.prog.funcs[74]?=some Tryz.f74:=Tryz.func74
theorem qj:bu Tryz.f74=false:=by kernel_rfl
abbrev Js:Nat:=75
theorem xb:Tryz.prog.funcs[75]?=some Tryz.f75:=Tryz.func75
theorem xq:bu Tryz.f75=false:=by kernel_rfl
abbrev PZ:Nat:=77
theorem uI:Tryz.prog.funcs[77]?=some Tryz.f77:=Tryz.func77
theorem sS:bu Tryz.f77=false:=by kernel_rfl
abbrev tg:Nat:=78
theorem gh:Tryz.prog.funcs[78]?=some Tryz.f78:=Tryz.func78
theorem gB:bu Tryz.f78=false:=by kernel_rfl
abbrev Hw:Nat:=80
theorem sB:Tryz.prog.funcs[80]?=some Tryz.f80:=Tryz.func80
theorem s5:bu Tryz.f80=false:=by kernel_rfl
abbrev CA:Nat:=82
theorem qr:Tryz.prog.funcs[82]?=some Tryz.f82:=Tryz.func82
theorem qI:bu Tryz.f82=false:=by kernel_rfl
abbrev mu:Nat:=93
theorem vw:Tryz.prog.funcs[93]?=some Tryz.f93:=Tryz.func93
theorem vk:bu Tryz.f93=false:=by kernel_rfl
abbrev Dp:Nat:=94
theorem pR:Tryz.prog.funcs[94]?=some Tryz.f94:=Tryz.func94
theorem pe:bu Tryz.f94=false:=by kernel_rfl
abbrev Iu:Nat:=95
theorem tB:Tryz.prog.funcs[95]?=some Tryz.f95:=Tryz.func95
theorem tZ:bu Tryz.f95=false:=by kernel_rfl
abbrev Dv:Nat:=96
theorem j7:Tryz.prog.funcs[96]?=some Tryz.f96:=Tryz.func96
theorem kl:bu Tryz.f96=false:=by kernel_rfl
abbrev E0:Nat:=97
theorem uy:Tryz.prog.funcs[97]?=some Tryz.f97:=Tryz.func97
theorem tY:bu Tryz.f97=false:=by kernel_rfl
abbrev KM:Nat:=98
theorem HD:Tryz.prog.funcs[98]?=some Tryz.f98:=Tryz.func98
theorem Hy:bu Tryz.f98=false:=by kernel_rfl
abbrev GY:Nat:=99
theorem Dl:Tryz.prog.funcs[99]?=some Tryz.f99:=Tryz.func99
theorem DH:bu Tryz.f99=false:=by kernel_rfl
abbrev Da:Nat:=100
theorem LX:Tryz.prog.funcs[100]?=some Tryz.f100:=Tryz.func100
theorem LR:bu Tryz.f100=false:=by kernel_rfl
abbrev H6:Nat:=101
theorem tk:Tryz.prog.funcs[101]?=some Tryz.f101:=Tryz.func101
theorem tU:bu Tryz.f101=false:=by kernel_rfl
abbrev Wr:Nat:=102
theorem SY:Tryz.prog.funcs[102]?=some Tryz.f102:=Tryz.func102
theorem SV:bu Tryz.f102=false:=by kernel_rfl
abbrev Bb:Nat:=103
theorem zp:Tryz.prog.funcs[103]?=some Tryz.f103:=Tryz.func103
theorem xG:bu Tryz.f103=false:=by kernel_rfl
abbrev uh:Nat:=104
theorem sw:Tryz.prog.funcs[104]?=some Tryz.f104:=Tryz.func104
theorem sj:bu Tryz.f104=false:=by kernel_rfl
abbrev mT:Nat:=105
theorem lO:Tryz.prog.funcs[105]?=some Tryz.f105:=Tryz.func105
theorem lI:bu Tryz.f105=false:=by kernel_rfl
abbrev Kh:Nat:=106
theorem wb:Tryz.prog.funcs[106]?=some Tryz.f106:=Tryz.func106
theorem vO:bu Tryz.f106=false:=by kernel_rfl
abbrev pr:Nat:=107
theorem nC:Tryz.prog.funcs[107]?=some Tryz.f107:=Tryz.func107
theorem np:bu Tryz.f107=false:=by kernel_rfl
abbrev FI:Nat:=108
theorem Dw:Tryz.prog.funcs[108]?=some Tryz.f108:=Tryz.func108
theorem DC:bu Tryz.f108=false:=by kernel_rfl
abbrev G3:Nat:=109
theorem DL:Tryz.prog.funcs[109]?=some Tryz.f109:=Tryz.func109
theorem DM:bu Tryz.f109=false:=by kernel_rfl
abbrev Me:Nat:=110
theorem HQ:Tryz.prog.funcs[110]?=some Tryz.f110:=Tryz.func110
theorem Iv:bu Tryz.f110=false:=by kernel_rfl
abbrev xY:Nat:=111
theorem dR:Tryz.prog.funcs[111]?=some Tryz.f111:=Tryz.func111
theorem dP:bu Tryz.f111=false:=by kernel_rfl
abbrev NR:Nat:=112
theorem K5:Tryz.prog.funcs[112]?=some Tryz.f112:=Tryz.func112
theorem Lm:bu Tryz.f112=false:=by kernel_rfl
abbrev Fp:Nat:=113
theorem Dt:Tryz.prog.funcs[113]?=some Tryz.f113:=Tryz.func113
theorem DJ:bu Tryz.f113=false:=by kernel_rfl
abbrev QM:Nat:=114
theorem CP:Tryz.prog.funcs[114]?=some Tryz.f114:=Tryz.func114
theorem C3:bu Tryz.f114=false:=by kernel_rfl
abbrev Bf:Nat:=115
theorem nq:Tryz.prog.funcs[115]?=some Tryz.f115:=Tryz.func115
theorem nl:bu Tryz.f115=false:=by kernel_rfl
abbrev sV:Nat:=116
theorem sf:Tryz.prog.funcs[116]?=some Tryz.f116:=Tryz.func116
theorem sq:bu Tryz.f116=false:=by kernel_rfl
abbrev rp:Nat:=117
theorem BH:Tryz.prog.funcs[117]?=some Tryz.f117:=Tryz.func117
theorem Bx:bu Tryz.f117=false:=by kernel_rfl
abbrev LG:Nat:=118
theorem wj:Tryz.prog.funcs[118]?=some Tryz.f118:=Tryz.func118
theorem we:bu Tryz.f118=false:=by kernel_rfl
abbrev ro:Nat:=119
theorem px:Tryz.prog.funcs[119]?=some Tryz.f119:=Tryz.func119
theorem oR:bu Tryz.f119=false:=by kernel_rfl
abbrev Kk:Nat:=120
theorem kI:Tryz.prog.funcs[120]?=some Tryz.f120:=Tryz.func120
theorem kD:bu Tryz.f120=false:=by kernel_rfl
abbrev DU:Nat:=121
theorem eq:Tryz.prog.funcs[121]?=some Tryz.f121:=Tryz.func121
theorem eo:bu Tryz.f121=false:=by kernel_rfl
abbrev Lz:Nat:=122
theorem Iq:Tryz.prog.funcs[122]?=some Tryz.f122:=Tryz.func122
theorem HS:bu Tryz.f122=false:=by kernel_rfl
abbrev KB:Nat:=123
theorem Ig:Tryz.prog.funcs[123]?=some Tryz.f123:=Tryz.func123
theorem HN:bu Tryz.f123=false:=by kernel_rfl
abbrev Np:Nat:=124
theorem xQ:Tryz.prog.funcs[124]?=some Tryz.f124:=Tryz.func124
theorem yN:bu Tryz.f124=false:=by kernel_rfl
abbrev Kg:Nat:=125
theorem HF:Tryz.prog.funcs[125]?=some Tryz.f125:=Tryz.func125
theorem H1:bu Tryz.f125=false:=by kernel_rfl
abbrev Mz:Nat:=126
theorem qk:Tryz.prog.funcs[126]?=some Tryz.f126:=Tryz.func126
theorem rj:bu Tryz.f126=false:=by kernel_rfl
abbrev Oh:Nat:=127
theorem LU:Tryz.prog.funcs[127]?=some Tryz.f127:=Tryz.func127
theorem Lq:bu Tryz.f127=false:=by kernel_rfl
abbrev GS:Nat:=128
theorem DS:Tryz.prog.funcs[128]?=some Tryz.f128:=Tryz.func128
theorem DF:bu Tryz.f128=false:=by kernel_rfl
abbrev XN:Nat:=133
theorem Nn:Tryz.prog.funcs[133]?=some Tryz.f133:=Tryz.func133
theorem ON:bu Tryz.f133=false:=by kernel_rfl
abbrev F3:Nat:=134
theorem DT:Tryz.prog.funcs[134]?=some Tryz.f134:=Tryz.func134
theorem Dm:bu Tryz.f134=false:=by kernel_rfl
abbrev DQ:Nat:=135
theorem kr:Tryz.prog.funcs[135]?=some Tryz.f135:=Tryz.func135
theorem jV:bu Tryz.f135=false:=by kernel_rfl
abbrev SR:Nat:=136
theorem PK:Tryz.prog.funcs[136]?=some Tryz.f136:=Tryz.func136
theorem P3:bu Tryz.f136=false:=by kernel_rfl
abbrev FK:Nat:=138
theorem rC:Tryz.prog.funcs[138]?=some Tryz.f138:=Tryz.func138
theorem rm:bu Tryz.f138=false:=by kernel_rfl
abbrev vj:Nat:=139
theorem kP:Tryz.prog.funcs[139]?=some Tryz.f139:=Tryz.func139
theorem lj:bu Tryz.f139=false:=by kernel_rfl
abbrev Sa:Nat:=140
theorem MQ:Tryz.prog.funcs[140]?=some Tryz.f140:=Tryz.func140
theorem On:bu Tryz.f140=false:=by kernel_rfl
abbrev io:Nat:=141
theorem yu:Tryz.prog.funcs[141]?=some Tryz.f141:=Tryz.func141
theorem yQ:bu Tryz.f141=false:=by kernel_rfl
abbrev wR:Nat:=143
theorem fR:Tryz.prog.funcs[143]?=some Tryz.f143:=Tryz.func143
theorem fO:bu Tryz.f143=false:=by kernel_rfl
abbrev KJ:Nat:=144
theorem kN:Tryz.prog.funcs[144]?=some Tryz.f144:=Tryz.func144
theorem kA:bu Tryz.f144=false:=by kernel_rfl
abbrev Th:Nat:=145
theorem wH:Tryz.prog.funcs[145]?=some Tryz.f145:=Tryz.func145
theorem xt:bu Tryz.f145=false:=by kernel_rfl
abbrev T9:Nat:=148
theorem Jq:Tryz.prog.funcs[148]?=some Tryz.f148:=Tryz.func148
theorem IJ:bu Tryz.f148=false:=by kernel_rfl
abbrev Pv:Nat:=149
theorem Cp:Tryz.prog.funcs[149]?=some Tryz.f149:=Tryz.func149
theorem CU:bu Tryz.f149=false:=by kernel_rfl
abbrev GP:Nat:=150
theorem Dq:Tryz.prog.funcs[150]?=some Tryz.f150:=Tryz.func150
theorem Ds:bu Tryz.f150=false:=by kernel_rfl
abbrev Ns:Nat:=151
theorem yr:Tryz.prog.funcs[151]?=some Tryz.f151:=Tryz.func151
theorem yP:bu Tryz.f151=false:=by kernel_rfl
abbrev P4:Nat:=156
theorem oi:Tryz.prog.funcs[156]?=some Tryz.f156:=Tryz.func156
theorem n7:bu Tryz.f156=false:=by kernel_rfl
abbrev E3:Nat:=162
theorem rH:Tryz.prog.funcs[162]?=some Tryz.f162:=Tryz.func162
theorem sd:bu Tryz.f162=false:=by kernel_rfl
abbrev Ij:Nat:=163
theorem tX:Tryz.prog.funcs[163]?=some Tryz.f163:=Tryz.func163
theorem uk:bu Tryz.f163=false:=by kernel_rfl
abbrev Ho:Nat:=164
theorem uE:Tryz.prog.funcs[164]?=some Tryz.f164:=Tryz.func164
theorem sW:bu Tryz.f164=false:=by kernel_rfl
abbrev NC:Nat:=165
theorem qp:Tryz.prog.funcs[165]?=some Tryz.f165:=Tryz.func165
theorem qg:bu Tryz.f165=false:=by kernel_rfl
abbrev AV:Nat:=166
theorem xM:Tryz.prog.funcs[166]?=some Tryz.f166:=Tryz.func166
theorem yA:bu Tryz.f166=false:=by kernel_rfl
abbrev ME:Nat:=167
theorem Mf:Tryz.prog.funcs[167]?=some Tryz.f167:=Tryz.func167
theorem K8:bu Tryz.f167=false:=by kernel_rfl
abbrev O8:Nat:=168
theorem MD:Tryz.prog.funcs[168]?=some Tryz.f168:=Tryz.func168
theorem Ok:bu Tryz.f168=false:=by kernel_rfl
abbrev Dz:Nat:=169
theorem Ao:Tryz.prog.funcs[169]?=some Tryz.f169:=Tryz.func169
theorem BK:bu Tryz.f169=false:=by kernel_rfl
abbrev MY:Nat:=170
theorem yZ:Tryz.prog.funcs[170]?=some Tryz.f170:=Tryz.func170
theorem zl:bu Tryz.f170=false:=by kernel_rfl
abbrev FQ:Nat:=171
theorem Do:Tryz.prog.funcs[171]?=some Tryz.f171:=Tryz.func171
theorem DD:bu Tryz.f171=false:=by kernel_rfl
abbrev OZ:Nat:=172
theorem Cm:Tryz.prog.funcs[172]?=some Tryz.f172:=Tryz.func172
theorem Cd:bu Tryz.f172=false:=by kernel_rfl
abbrev zG:Nat:=173
theorem wU:Tryz.prog.funcs[173]?=some Tryz.f173:=Tryz.func173
theorem xj:bu Tryz.f173=false:=by kernel_rfl
abbrev Fg:Nat:=174
theorem iU:Tryz.prog.funcs[174]?=some Tryz.f174:=Tryz.func174
theorem iW:bu Tryz.f174=false:=by kernel_rfl
abbrev F7:Nat:=175
theorem ru:Tryz.prog.funcs[175]?=some Tryz.f175:=Tryz.func175
theorem rI:bu Tryz.f175=false:=by kernel_rfl
abbrev H8:Nat:=176
theorem Hf:Tryz.prog.funcs[176]?=some Tryz.f176:=Tryz.func176
theorem Hb:bu Tryz.f176=false:=by kernel_rfl
abbrev SH:Nat:=177
theorem Fq:Tryz.prog.funcs[177]?=some Tryz.f177:=Tryz.func177
theorem F9:bu Tryz.f177=false:=by kernel_rfl
abbrev M3:Nat:=178
theorem rb:Tryz.prog.funcs[178]?=some Tryz.f178:=Tryz.func178
theorem ql:bu Tryz.f178=false:=by kernel_rfl
abbrev PN:Nat:=179
theorem uf:Tryz.prog.funcs[179]?=some Tryz.f179:=Tryz.func179
theorem tQ:bu Tryz.f179=false:=by kernel_rfl
abbrev KK:Nat:=180
theorem Ir:Tryz.prog.funcs[180]?=some Tryz.f180:=Tryz.func180
theorem Hk:bu Tryz.f180=false:=by kernel_rfl
abbrev Qm:Nat:=181
theorem CX:Tryz.prog.funcs[181]?=some Tryz.f181:=Tryz.func181
theorem Dc:bu Tryz.f181=false:=by kernel_rfl
abbrev Qc:Nat:=182
theorem Dj:Tryz.prog.funcs[182]?=some Tryz.f182:=Tryz.func182
theorem BM:bu Tryz.f182=false:=by kernel_rfl
abbrev Pm:Nat:=183
theorem om:Tryz.prog.funcs[183]?=some Tryz.f183:=Tryz.func183
theorem nM:bu Tryz.f183=false:=by kernel_rfl
abbrev Kw:Nat:=184
theorem wA:Tryz.prog.funcs[184]?=some Tryz.f184:=Tryz.func184
theorem vS:bu Tryz.f184=false:=by kernel_rfl
abbrev LL:Nat:=189
theorem H7:Tryz.prog.funcs[189]?=some Tryz.f189:=Tryz.func189
theorem HP:bu Tryz.f189=false:=by kernel_rfl
abbrev Kr:Nat:=190
theorem H3:Tryz.prog.funcs[190]?=some Tryz.f190:=Tryz.func190
theorem HH:bu Tryz.f190=false:=by kernel_rfl
abbrev n_i_holds:Nat:=191
theorem fn_i_holds:Tryz.prog.funcs[191]?=some Tryz.f191:=Tryz.func191
theorem nm_i_holds:bu Tryz.f191=false:=by kernel_rfl
abbrev FH:Nat:=192
theorem lr:Tryz.prog.funcs[192]?=some Tryz.f192:=Tryz.func192
theorem ll:bu Tryz.f192=false:=by kernel_rfl
abbrev SF:Nat:=193
theorem mR:Tryz.prog.funcs[193]?=some Tryz.f193:=Tryz.func193
theorem mP:bu Tryz.f193=false:=by kernel_rfl
abbrev PG:Nat:=194
theorem CS:Tryz.prog.funcs[194]?=some Tryz.f194:=Tryz.func194
theorem C5:bu Tryz.f194=false:=by kernel_rfl
abbrev pN:Nat:=200
theorem nH:Tryz.prog.funcs[200]?=some Tryz.f200:=Tryz.func200
theorem ol:bu Tryz.f200=false:=by kernel_rfl
abbrev HX:Nat:=203
theorem FD:Tryz.prog.funcs[203]?=some Tryz.f203:=Tryz.func203
theorem GG:bu Tryz.f203=false:=by kernel_rfl
abbrev O3:Nat:=204
theorem MZ:Tryz.prog.funcs[204]?=some Tryz.f204:=Tryz.func204
theorem Nt:bu Tryz.f204=false:=by kernel_rfl
abbrev TM:Nat:=213
theorem Ep:Tryz.prog.funcs[213]?=some Tryz.f213:=Tryz.func213
theorem G8:bu Tryz.f213=false:=by kernel_rfl
abbrev Ia:Nat:=217
theorem uF:Tryz.prog.funcs[217]?=some Tryz.f217:=Tryz.func217
theorem tp:bu Tryz.f217=false:=by kernel_rfl
abbrev pA:Nat:=220
theorem zw:Tryz.prog.funcs[220]?=some Tryz.f220:=Tryz.func220
theorem yi:bu Tryz.f220=false:=by kernel_rfl
abbrev Ph:Nat:=221
theorem N3:Tryz.prog.funcs[221]?=some Tryz.f221:=Tryz.func221
theorem Nh:bu Tryz.f221=false:=by kernel_rfl
abbrev N6:Nat:=222
theorem za:Tryz.prog.funcs[222]?=some Tryz.f222:=Tryz.func222
theorem ya:bu Tryz.f222=false:=by kernel_rfl
abbrev MT:Nat:=223
theorem zu:Tryz.prog.funcs[223]?=some Tryz.f223:=Tryz.func223
theorem xR:bu Tryz.f223=false:=by kernel_rfl
abbrev PL:Nat:=224
theorem CZ:Tryz.prog.funcs[224]?=some Tryz.f224:=Tryz.func224
theorem Cz:bu Tryz.f224=false:=by kernel_rfl
abbrev M4:Nat:=225
theorem gq:Tryz.prog.funcs[225]?=some Tryz.f225:=Tryz.func225
theorem gw:bu Tryz.f225=false:=by kernel_rfl
abbrev PU:Nat:=226
theorem gY:Tryz.prog.funcs[226]?=some Tryz.f226:=Tryz.func226
theorem gW:bu Tryz.f226=false:=by kernel_rfl
abbrev Pi:Nat:=227
theorem du:Tryz.prog.funcs[227]?=some Tryz.f227:=Tryz.func227
theorem dr:bu Tryz.f227=false:=by kernel_rfl
abbrev Aj:Nat:=228
theorem yY:Tryz.prog.funcs[228]?=some Tryz.f228:=Tryz.func228
theorem z5:bu Tryz.f228=false:=by kernel_rfl
abbrev AF:Nat:=229
theorem jB:Tryz.prog.funcs[229]?=some Tryz.f229:=Tryz.func229
theorem jx:bu Tryz.f229=false:=by kernel_rfl
abbrev MW:Nat:=239
theorem l0:Tryz.prog.funcs[239]?=some Tryz.f239:=Tryz.func239
theorem lQ:bu Tryz.f239=false:=by kernel_rfl
abbrev KW:Nat:=240
theorem Ht:Tryz.prog.funcs[240]?=some Tryz.f240:=Tryz.func240
theorem Ip:bu Tryz.f240=false:=by kernel_rfl
abbrev QB:Nat:=242
theorem CL:Tryz.prog.funcs[242]?=some Tryz.f242:=Tryz.func242
theorem BS:bu Tryz.f242=false:=by kernel_rfl
abbrev Pr:Nat:=244
theorem Od:Tryz.prog.funcs[244]?=some Tryz.f244:=Tryz.func244
theorem OJ:bu Tryz.f244=false:=by kernel_rfl
abbrev OK:Nat:=245
theorem KR:Tryz.prog.funcs[245]?=some Tryz.f245:=Tryz.func245
theorem LV:bu Tryz.f245=false:=by kernel_rfl
abbrev Tv:Nat:=253
theorem P8:Tryz.prog.funcs[253]?=some Tryz.f253:=Tryz.func253
theorem Qq:bu Tryz.f253=false:=by kernel_rfl
abbrev MF:Nat:=254
theorem KC:Tryz.prog.funcs[254]?=some Tryz.f254:=Tryz.func254
theorem L0:bu Tryz.f254=false:=by kernel_rfl
abbrev Wy:Nat:=255
theorem Ts:Tryz.prog.funcs[255]?=some Tryz.f255:=Tryz.func255
theorem Ty:bu Tryz.f255=false:=by kernel_rfl
abbrev Qy:Nat:=256
theorem OE:Tryz.prog.funcs[256]?=some Tryz.f256:=Tryz.func256
theorem NV:bu Tryz.f256=false:=by kernel_rfl
abbrev xr:Nat:=257
theorem vf:Tryz.prog.funcs[257]?=some Tryz.f257:=Tryz.func257
theorem vh:bu Tryz.f257=false:=by kernel_rfl
abbrev O5:Nat:=270
theorem Mj:Tryz.prog.funcs[270]?=some Tryz.f270:=Tryz.func270
theorem Ml:bu Tryz.f270=false:=by kernel_rfl
abbrev MN:Nat:=271
theorem zZ:Tryz.prog.funcs[271]?=some Tryz.f271:=Tryz.func271
theorem yG:bu Tryz.f271=false:=by kernel_rfl
abbrev N4:Nat:=272
theorem xH:Tryz.prog.funcs[272]?=some Tryz.f272:=Tryz.func272
theorem zE:bu Tryz.f272=false:=by kernel_rfl
abbrev Ox:Nat:=273
theorem zU:Tryz.prog.funcs[273]?=some Tryz.f273:=Tryz.func273
theorem zX:bu Tryz.f273=false:=by kernel_rfl
abbrev JZ:Nat:=274
theorem HG:Tryz.prog.funcs[274]?=some Tryz.f274:=Tryz.func274
theorem HC:bu Tryz.f274=false:=by kernel_rfl
abbrev Ti:Nat:=275
theorem Pj:Tryz.prog.funcs[275]?=some Tryz.f275:=Tryz.func275
theorem Pb:bu Tryz.f275=false:=by kernel_rfl
abbrev O9:Nat:=276
theorem tP:Tryz.prog.funcs[276]?=some Tryz.f276:=Tryz.func276
theorem sD:bu Tryz.f276=false:=by kernel_rfl
abbrev Ie:Nat:=286
theorem FG:Tryz.prog.funcs[286]?=some Tryz.f286:=Tryz.func286
theorem EY:bu Tryz.f286=false:=by kernel_rfl
abbrev NJ:Nat:=288
theorem LS:Tryz.prog.funcs[288]?=some Tryz.f288:=Tryz.func288
theorem Kc:bu Tryz.f288=false:=by kernel_rfl
abbrev M6:Nat:=289
theorem zN:Tryz.prog.funcs[289]?=some Tryz.f289:=Tryz.func289
theorem zo:bu Tryz.f289=false:=by kernel_rfl
abbrev PD:Nat:=290
theorem gU:Tryz.prog.funcs[290]?=some Tryz.f290:=Tryz.func290
theorem gS:bu Tryz.f290=false:=by kernel_rfl
abbrev QC:Nat:=302
theorem BU:Tryz.prog.funcs[302]?=some Tryz.f302:=Tryz.func302
theorem C6:bu Tryz.f302=false:=by kernel_rfl
abbrev Tj:Nat:=303
theorem OX:Tryz.prog.funcs[303]?=some Tryz.f303:=Tryz.func303
theorem Pw:bu Tryz.f303=false:=by kernel_rfl
abbrev TL:Nat:=307
theorem Pa:Tryz.prog.funcs[307]?=some Tryz.f307:=Tryz.func307
theorem P6:bu Tryz.f307=false:=by kernel_rfl
abbrev QQ:Nat:=308
theorem NY:Tryz.prog.funcs[308]?=some Tryz.f308:=Tryz.func308
theorem MI:bu Tryz.f308=false:=by kernel_rfl
abbrev NH:Nat:=309
theorem yK:Tryz.prog.funcs[309]?=some Tryz.f309:=Tryz.func309
theorem xD:bu Tryz.f309=false:=by kernel_rfl
abbrev QO:Nat:=310
theorem NB:Tryz.prog.funcs[310]?=some Tryz.f310:=Tryz.func310
theorem MH:bu Tryz.f310=false:=by kernel_rfl
abbrev Lu:Nat:=311
theorem HW:Tryz.prog.funcs[311]?=some Tryz.f311:=Tryz.func311
theorem H9:bu Tryz.f311=false:=by kernel_rfl
abbrev MS:Nat:=312
theorem KX:Tryz.prog.funcs[312]?=some Tryz.f312:=Tryz.func312
theorem Kd:bu Tryz.f312=false:=by kernel_rfl
abbrev P2:Nat:=313
theorem uA:Tryz.prog.funcs[313]?=some Tryz.f313:=Tryz.func313
theorem uv:bu Tryz.f313=false:=by kernel_rfl
abbrev PV:Nat:=328
theorem CH:Tryz.prog.funcs[328]?=some Tryz.f328:=Tryz.func328
theorem CY:bu Tryz.f328=false:=by kernel_rfl
abbrev Hm:Nat:=329
theorem sM:Tryz.prog.funcs[329]?=some Tryz.f329:=Tryz.func329
theorem ug:bu Tryz.f329=false:=by kernel_rfl
abbrev OH:Nat:=330
theorem K2:Tryz.prog.funcs[330]?=some Tryz.f330:=Tryz.func330
theorem K1:bu Tryz.f330=false:=by kernel_rfl

end Go.Proofs.YtgllldjiaglkcaaGreatDoor
