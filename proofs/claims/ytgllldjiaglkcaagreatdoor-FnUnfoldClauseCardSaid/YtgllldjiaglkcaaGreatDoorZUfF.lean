/- Made by program: names for the numbers of functions and types, and closed facts on them. -/
import Derived.Test.YtgllldjiaglkcaaGreatDoorZUfS
import Derived.Test.YtgllldjiaglkcaaGreatDoorProg
import Derived.KernelRfl
namespace Go.Proofs.YtgllldjiaglkcaaGreatDoor
open Go
abbrev bu (f:Func):Bool:=f.name == "runtime.NumGoroutine" || f.body.isNone
abbrev cO:Nat:=3
theorem aG:j7 Tryz.prog 3=true:=by kernel_rfl
theorem UX:iI Tryz.prog 3=some (.int .i64 0):=by kernel_rfl
theorem iK:Tryz.prog.underlying 3=some (.int .i64):=by kernel_rfl
abbrev QD:Nat:=4
theorem R9:j7 Tryz.prog 4=true:=by kernel_rfl
theorem Ef:Tryz.prog.underlying 4=some .bool:=by kernel_rfl
abbrev Ky:Nat:=5
theorem EJ:j7 Tryz.prog 5=true:=by kernel_rfl
theorem gV:Tryz.prog.underlying 5=some (.int .u8):=by kernel_rfl
abbrev g9:Nat:=9
theorem be:j7 Tryz.prog 9=true:=by kernel_rfl
theorem aZ:Tryz.prog.underlying 9=some .string:=by kernel_rfl
abbrev Od:Nat:=22
theorem jf:j7 Tryz.prog 22=true:=by kernel_rfl
theorem A8:oE Tryz.prog 22=some (5,1,1,(.int .u8 0)):=by kernel_rfl
theorem eQ:dl Tryz.prog 22=some (5,1):=by kernel_rfl
abbrev gr:Nat:=23
theorem eO:j7 Tryz.prog 23=true:=by kernel_rfl
theorem dd:oE Tryz.prog 23=some (33,5,80,(.agg #[(.int .i64 0),(.int .i64 0),(.string ⟨#[]⟩),(.slice none 0 0),(.slice none 0 0)])):=by kernel_rfl
theorem bf:dl Tryz.prog 23=some (33,5):=by kernel_rfl
abbrev uy:Nat:=29
theorem al:j7 Tryz.prog 29=true:=by kernel_rfl
theorem bn:oE Tryz.prog 29=some (31,4,56,(.agg #[(.int .i64 0),(.int .i64 0),(.string ⟨#[]⟩),(.slice none 0 0)])):=by kernel_rfl
theorem ah:dl Tryz.prog 29=some (31,4):=by kernel_rfl
abbrev ab:Nat:=31
theorem ad:sk Tryz.prog 31=some 4:=by kernel_rfl
theorem bj:iI Tryz.prog 31=some (.agg #[(.int .i64 0),(.int .i64 0),(.string ⟨#[]⟩),(.slice none 0 0)]):=by kernel_rfl
theorem aW:bT Tryz.prog 31 0=some 0:=by kernel_rfl
theorem bi:bT Tryz.prog 31 1=some 1:=by kernel_rfl
theorem bl:bT Tryz.prog 31 2=some 2:=by kernel_rfl
theorem ar:bT Tryz.prog 31 3=some 3:=by kernel_rfl
abbrev ac:Nat:=33
theorem aH:sk Tryz.prog 33=some 5:=by kernel_rfl
theorem cX:iI Tryz.prog 33=some (.agg #[(.int .i64 0),(.int .i64 0),(.string ⟨#[]⟩),(.slice none 0 0),(.slice none 0 0)]):=by kernel_rfl
theorem bO:bT Tryz.prog 33 0=some 0:=by kernel_rfl
theorem aU:bT Tryz.prog 33 1=some 4:=by kernel_rfl
theorem Nm:oE Tryz.prog 34=some (57,1,24,(.agg #[(.slice none 0 0)])):=by kernel_rfl
theorem fo:dl Tryz.prog 34=some (57,1):=by kernel_rfl
abbrev fl:Nat:=47
abbrev eD:Nat:=57
theorem ri:sk Tryz.prog 57=some 1:=by kernel_rfl
theorem Qo:iI Tryz.prog 57=some (.agg #[(.slice none 0 0)]):=by kernel_rfl
theorem l5:bT Tryz.prog 57 0=some 0:=by kernel_rfl
abbrev IW:Nat:=69
theorem FF:oE Tryz.prog 69=some (9,1,16,(.string ⟨#[]⟩)):=by kernel_rfl
theorem cV:dl Tryz.prog 69=some (9,1):=by kernel_rfl
abbrev s5:Nat:=81
theorem jy:j7 Tryz.prog 81=true:=by kernel_rfl
theorem W1:iI Tryz.prog 81=some (.slice none 0 0):=by kernel_rfl
theorem iV:oE Tryz.prog 81=some (3,1,8,(.int .i64 0)):=by kernel_rfl
theorem cA:dl Tryz.prog 81=some (3,1):=by kernel_rfl
abbrev dA:Nat:=85
theorem Eu:sk Tryz.prog 85=some 2:=by kernel_rfl
theorem U0:iI Tryz.prog 85=some (.agg #[(.string ⟨#[]⟩),(.int .i64 0)]):=by kernel_rfl
abbrev mg:Nat:=94
theorem fu:j7 Tryz.prog 94=true:=by kernel_rfl
theorem dP:j7 Tryz.prog 95=true:=by kernel_rfl
theorem eA:j7 Tryz.prog 96=true:=by kernel_rfl
theorem CT:oE Tryz.prog 96=some (194,9,112,(.agg #[(.int .i64 0),(.int .i64 0),(.string ⟨#[]⟩),(.slice none 0 0),(.int .i64 0),(.pointer none),(.slice none 0 0),(.int .i64 0),(.int .i64 0)])):=by kernel_rfl
theorem ib:dl Tryz.prog 96=some (194,9):=by kernel_rfl
theorem jU:j7 Tryz.prog 97=true:=by kernel_rfl
theorem Jk:oE Tryz.prog 97=some (102,6,72,(.agg #[(.int .i64 0),(.int .i64 0),(.string ⟨#[]⟩),(.slice none 0 0),(.int .i64 0),(.int .i64 0)])):=by kernel_rfl
theorem uS:dl Tryz.prog 97=some (102,6):=by kernel_rfl
abbrev o5:Nat:=99
theorem gd:bT Tryz.prog 99 0=some 0:=by kernel_rfl
theorem qV:bT Tryz.prog 99 1=some 1:=by kernel_rfl
theorem L7:bT Tryz.prog 99 2=some 2:=by kernel_rfl
theorem L8:bT Tryz.prog 99 3=some 3:=by kernel_rfl
theorem Lz:bT Tryz.prog 99 4=some 4:=by kernel_rfl
theorem Mf:bT Tryz.prog 99 5=some 5:=by kernel_rfl
theorem qw:bT Tryz.prog 99 6=some 6:=by kernel_rfl
theorem qg:bT Tryz.prog 99 7=some 7:=by kernel_rfl
theorem ic:bT Tryz.prog 99 8=some 8:=by kernel_rfl
theorem dV:bT Tryz.prog 99 9=some 9:=by kernel_rfl
theorem ft:bT Tryz.prog 99 10=some 10:=by kernel_rfl
theorem vL:bT Tryz.prog 99 11=some 11:=by kernel_rfl
abbrev lX:Nat:=102
theorem QI:bT Tryz.prog 102 2=some 5:=by kernel_rfl
abbrev Oo:Nat:=127
theorem fR:bT Tryz.prog 127 0=some 0:=by kernel_rfl
theorem sz:bT Tryz.prog 127 1=some 1:=by kernel_rfl
abbrev nT:Nat:=146
theorem Gx:bT Tryz.prog 146 0=some 0:=by kernel_rfl
theorem Ft:bT Tryz.prog 146 1=some 4:=by kernel_rfl
theorem GY:bT Tryz.prog 146 2=some 5:=by kernel_rfl
theorem mH:bT Tryz.prog 146 3=some 6:=by kernel_rfl
abbrev qY:Nat:=151
theorem LZ:j7 Tryz.prog 151=true:=by kernel_rfl
theorem Ii:j7 Tryz.prog 158=true:=by kernel_rfl
theorem kH:Tryz.prog.underlying 158=some (.map 3 31):=by kernel_rfl
abbrev c5:Nat:=177
theorem tP:bT Tryz.prog 177 0=some 0:=by kernel_rfl
theorem fX:bT Tryz.prog 177 1=some 1:=by kernel_rfl
abbrev ek:Nat:=194
theorem Fc:sk Tryz.prog 194=some 9:=by kernel_rfl
theorem PW:iI Tryz.prog 194=some (.agg #[(.int .i64 0),(.int .i64 0),(.string ⟨#[]⟩),(.slice none 0 0),(.int .i64 0),(.pointer none),(.slice none 0 0),(.int .i64 0),(.int .i64 0)]):=by kernel_rfl
theorem Lg:bT Tryz.prog 194 0=some 0:=by kernel_rfl
theorem KB:bT Tryz.prog 194 1=some 4:=by kernel_rfl
theorem KC:bT Tryz.prog 194 2=some 5:=by kernel_rfl
theorem Kc:bT Tryz.prog 194 3=some 6:=by kernel_rfl
theorem JY:bT Tryz.prog 194 4=some 7:=by kernel_rfl
theorem Kn:bT Tryz.prog 194 5=some 8:=by kernel_rfl
abbrev jg:Nat:=226
abbrev cW:Nat:=4
abbrev HU:Nat:=11
theorem s4:Tryz.prog.funcs[11]?=some Tryz.f11:=Tryz.func11
theorem sX:bu Tryz.f11=false:=by kernel_rfl
abbrev TK:Nat:=12
theorem G9:Tryz.prog.funcs[12]?=some Tryz.f12:=Tryz.func12
theorem Fk:bu Tryz.f12=false:=by kernel_rfl
abbrev sT:Nat:=14
theorem si:Tryz.prog.funcs[14]?=some Tryz.f14:=Tryz.func14
theorem sf:bu Tryz.f14=false:=by kernel_rfl
abbrev AX:Nat:=15
theorem zn:Tryz.prog.funcs[15]?=some Tryz.f15:=Tryz.func15
theorem xL:bu Tryz.f15=false:=by kernel_rfl
abbrev Ac:Nat:=16
theorem zB:Tryz.prog.funcs[16]?=some Tryz.f16:=Tryz.func16
theorem yP:bu Tryz.f16=false:=by kernel_rfl
abbrev Hm:Nat:=17
theorem Hd:Tryz.prog.funcs[17]?=some Tryz.f17:=Tryz.func17
theorem GB:bu Tryz.f17=false:=by kernel_rfl
abbrev qI:Nat:=23
theorem oA:Tryz.prog.funcs[23]?=some Tryz.f23:=Tryz.func23
theorem oy:bu Tryz.f23=false:=by kernel_rfl
abbrev Ij:Nat:=25
theorem Hb:Tryz.prog.funcs[25]?=some Tryz.f25:=Tryz.func25
theorem F1:bu Tryz.f25=false:=by kernel_rfl
abbrev Ho:Nat:=26
theorem Gn:Tryz.prog.funcs[26]?=some Tryz.f26:=Tryz.func26
theorem GV:bu Tryz.f26=false:=by kernel_rfl
abbrev Ag:Nat:=33
theorem jj:Tryz.prog.funcs[33]?=some Tryz.f33:=Tryz.func33
theorem jI:bu Tryz.f33=false:=by kernel_rfl
abbrev Qu:Nat:=34
theorem fS:Tryz.prog.funcs[34]?=some Tryz.f34:=Tryz.func34
theorem fT:bu Tryz.f34=false:=by kernel_rfl
abbrev ER:Nat:=36
theorem rZ:Tryz.prog.funcs[36]?=some Tryz.f36:=Tryz.func36
theorem rY:bu Tryz.f36=false:=by kernel_rfl
abbrev AU:Nat:=37
theorem oe:Tryz.prog.funcs[37]?=some Tryz.f37:=Tryz.func37
theorem nD:bu Tryz.f37=false:=by kernel_rfl
abbrev MP:Nat:=38
theorem Ld:Tryz.prog.funcs[38]?=some Tryz.f38:=Tryz.func38
theorem Kw:bu Tryz.f38=false:=by kernel_rfl
abbrev uC:Nat:=39
theorem DG:Tryz.prog.funcs[39]?=some Tryz.f39:=Tryz.func39
theorem Du:bu Tryz.f39=false:=by kernel_rfl
abbrev SS:Nat:=40
theorem Qb:Tryz.prog.funcs[40]?=some Tryz.f40:=Tryz.func40
theorem PA:bu Tryz.f40=false:=by kernel_rfl
abbrev MW:Nat:=42
theorem qn:Tryz.prog.funcs[42]?=some Tryz.f42:=Tryz.func42
theorem qD:bu Tryz.f42=false:=by kernel_rfl
abbrev vf:Nat:=43
theorem gU:Tryz.prog.funcs[43]?=some Tryz.f43:=Tryz.func43
theorem g6:bu Tryz.f43=false:=by kernel_rfl
abbrev pq:Nat:=44
theorem ow:Tryz.prog.funcs[44]?=some Tryz.f44:=Tryz.func44
theorem oG:bu Tryz.f44=false:=by kernel_rfl
abbrev jN:Nat:=46
theorem eJ:Tryz.prog.funcs[46]?=some Tryz.f46:=Tryz.func46
theorem eL:bu Tryz.f46=false:=by kernel_rfl
abbrev NR:Nat:=47
theorem LL:Tryz.prog.funcs[47]?=some Tryz.f47:=Tryz.func47
theorem Kz:bu Tryz.f47=false:=by kernel_rfl
abbrev NL:Nat:=48
theorem LO:Tryz.prog.funcs[48]?=some Tryz.f48:=Tryz.func48
theorem Lp:bu Tryz.f48=false:=by kernel_rfl
abbrev F4:Nat:=49
theorem ct:Tryz.prog.funcs[49]?=some Tryz.f49:=Tryz.func49
theorem cr:bu Tryz.f49=false:=by kernel_rfl
abbrev DV:Nat:=50
theorem AA:Tryz.prog.funcs[50]?=some Tryz.f50:=Tryz.func50
theorem AH:bu Tryz.f50=false:=by kernel_rfl
abbrev Iv:Nat:=51
theorem GD:Tryz.prog.funcs[51]?=some Tryz.f51:=Tryz.func51
theorem GT:bu Tryz.f51=false:=by kernel_rfl
abbrev Hn:Nat:=52
theorem fK:Tryz.prog.funcs[52]?=some Tryz.f52:=Tryz.func52
theorem fI:bu Tryz.f52=false:=by kernel_rfl
abbrev H3:Nat:=53
theorem Ew:Tryz.prog.funcs[53]?=some Tryz.f53:=Tryz.func53
theorem GW:bu Tryz.f53=false:=by kernel_rfl
abbrev FV:Nat:=54
theorem ll:Tryz.prog.funcs[54]?=some Tryz.f54:=Tryz.func54
theorem lq:bu Tryz.f54=false:=by kernel_rfl
abbrev Ww:Nat:=55
theorem uW:Tryz.prog.funcs[55]?=some Tryz.f55:=Tryz.func55
theorem uO:bu Tryz.f55=false:=by kernel_rfl
abbrev Hu:Nat:=56
theorem Fq:Tryz.prog.funcs[56]?=some Tryz.f56:=Tryz.func56
theorem En:bu Tryz.f56=false:=by kernel_rfl
abbrev HK:Nat:=57
theorem Em:Tryz.prog.funcs[57]?=some Tryz.f57:=Tryz.func57
theorem Fi:bu Tryz.f57=false:=by kernel_rfl
abbrev Ti:Nat:=58
theorem Hc:Tryz.prog.funcs[58]?=some Tryz.f58:=Tryz.func58
theorem FS:bu Tryz.f58=false:=by kernel_rfl
abbrev Ad:Nat:=59
theorem zf:Tryz.prog.funcs[59]?=some Tryz.f59:=Tryz.func59
theorem ze:bu Tryz.f59=false:=by kernel_rfl
abbrev GQ:Nat:=60
theorem DR:Tryz.prog.funcs[60]?=some Tryz.f60:=Tryz.func60
theorem Dx:bu Tryz.f60=false:=by kernel_rfl
abbrev Iu:Nat:=64
theorem Gz:Tryz.prog.funcs[64]?=some Tryz.f64:=Tryz.func64
theorem Fp:bu Tryz.f64=false:=by kernel_rfl
abbrev DI:Nat:=65
theorem AK:Tryz.prog.funcs[65]?=some Tryz.f65:=Tryz.func65
theorem Bh:bu Tryz.f65=false:=by kernel_rfl
abbrev ni:Nat:=66
theorem iZ:Tryz.prog.funcs[66]?=some Tryz.f66:=Tryz.func66
theorem i0:bu Tryz.f66=false:=by kernel_rfl
abbrev Fz:Nat:=68
theorem rL:Tryz.prog.funcs[68]?=some Tryz.f68:=Tryz.func68
theorem rM:bu Tryz.f68=false:=by kernel_rfl
abbrev wS:Nat:=69
theorem iE:Tryz.prog.funcs[69]?=some Tryz.f69:=Tryz.func69
theorem iD:bu Tryz.f69=false:=by kernel_rfl
abbrev Lh:Nat:=71
theorem wa:Tryz.prog.funcs[71]?=some Tryz.f71:=Tryz.func71
theorem vS:bu Tryz.f71=false:=by kernel_rfl
abbrev HN:Nat:=73
theorem tV:Tryz.prog.funcs[73]?=some Tryz.f73:=Tryz.func73
theorem sB:bu Tryz.f73=false:=by kernel_rfl
abbrev Ng:Nat:=74
theorem qo:Tryz.prog.funcs[74]?=some Tryz.f74:=Tryz.func74
theorem qR:bu Tryz.f74=false:=by kernel_rfl
abbrev JI:Nat:=75
theorem wX:Tryz.prog.funcs[75]?=some Tryz.f75:=Tryz.func75
theorem xl:bu Tryz.f75=false:=by kernel_rfl
abbrev PD:Nat:=77
theorem tX:Tryz.prog.funcs[77]?=some Tryz.f77:=Tryz.func77
theorem tN:bu Tryz.f77=false:=by kernel_rfl
abbrev sJ:Nat:=78
theorem gq:Tryz.prog.funcs[78]?=some Tryz.f78:=Tryz.func78
theorem gh:bu Tryz.f78=false:=by kernel_rfl
abbrev HJ:Nat:=80
theorem sU:Tryz.prog.funcs[80]?=some Tryz.f80:=Tryz.func80
theorem sW:bu Tryz.f80=false:=by kernel_rfl
abbrev Df:Nat:=82
theorem qH:Tryz.prog.funcs[82]?=some Tryz.f82:=Tryz.func82
theorem qf:bu Tryz.f82=false:=by kernel_rfl
abbrev mB:Nat:=93
theorem vh:Tryz.prog.funcs[93]?=some Tryz.f93:=Tryz.func93
theorem vt:bu Tryz.f93=false:=by kernel_rfl
abbrev DF:Nat:=94
theorem pl:Tryz.prog.funcs[94]?=some Tryz.f94:=Tryz.func94
theorem oX:bu Tryz.f94=false:=by kernel_rfl
abbrev Hp:Nat:=95
theorem s0:Tryz.prog.funcs[95]?=some Tryz.f95:=Tryz.func95
theorem sC:bu Tryz.f95=false:=by kernel_rfl
abbrev Dw:Nat:=96
theorem kj:Tryz.prog.funcs[96]?=some Tryz.f96:=Tryz.func96
theorem kq:bu Tryz.f96=false:=by kernel_rfl
abbrev GZ:Nat:=97
theorem um:Tryz.prog.funcs[97]?=some Tryz.f97:=Tryz.func97
theorem ui:bu Tryz.f97=false:=by kernel_rfl
abbrev KK:Nat:=98
theorem Hl:Tryz.prog.funcs[98]?=some Tryz.f98:=Tryz.func98
theorem Ik:bu Tryz.f98=false:=by kernel_rfl
abbrev ES:Nat:=99
theorem DA:Tryz.prog.funcs[99]?=some Tryz.f99:=Tryz.func99
theorem DD:bu Tryz.f99=false:=by kernel_rfl
abbrev CG:Nat:=100
theorem Kk:Tryz.prog.funcs[100]?=some Tryz.f100:=Tryz.func100
theorem Kb:bu Tryz.f100=false:=by kernel_rfl
abbrev Hr:Nat:=101
theorem tQ:Tryz.prog.funcs[101]?=some Tryz.f101:=Tryz.func101
theorem uf:bu Tryz.f101=false:=by kernel_rfl
abbrev V4:Nat:=102
theorem SR:Tryz.prog.funcs[102]?=some Tryz.f102:=Tryz.func102
theorem SG:bu Tryz.f102=false:=by kernel_rfl
abbrev Be:Nat:=103
theorem y0:Tryz.prog.funcs[103]?=some Tryz.f103:=Tryz.func103
theorem zJ:bu Tryz.f103=false:=by kernel_rfl
abbrev tF:Nat:=104
theorem sq:Tryz.prog.funcs[104]?=some Tryz.f104:=Tryz.func104
theorem sn:bu Tryz.f104=false:=by kernel_rfl
abbrev mn:Nat:=105
theorem lF:Tryz.prog.funcs[105]?=some Tryz.f105:=Tryz.func105
theorem lH:bu Tryz.f105=false:=by kernel_rfl
abbrev KD:Nat:=106
theorem vX:Tryz.prog.funcs[106]?=some Tryz.f106:=Tryz.func106
theorem wc:bu Tryz.f106=false:=by kernel_rfl
abbrev oO:Nat:=107
theorem nj:Tryz.prog.funcs[107]?=some Tryz.f107:=Tryz.func107
theorem oj:bu Tryz.f107=false:=by kernel_rfl
abbrev FN:Nat:=108
theorem DX:Tryz.prog.funcs[108]?=some Tryz.f108:=Tryz.func108
theorem DT:bu Tryz.f108=false:=by kernel_rfl
abbrev E9:Nat:=109
theorem DE:Tryz.prog.funcs[109]?=some Tryz.f109:=Tryz.func109
theorem Dt:bu Tryz.f109=false:=by kernel_rfl
abbrev Lb:Nat:=110
theorem HR:Tryz.prog.funcs[110]?=some Tryz.f110:=Tryz.func110
theorem HT:bu Tryz.f110=false:=by kernel_rfl
abbrev yd:Nat:=111
theorem dQ:Tryz.prog.funcs[111]?=some Tryz.f111:=Tryz.func111
theorem dR:bu Tryz.f111=false:=by kernel_rfl
abbrev Mx:Nat:=112
theorem LA:Tryz.prog.funcs[112]?=some Tryz.f112:=Tryz.func112
theorem Lx:bu Tryz.f112=false:=by kernel_rfl
abbrev EX:Nat:=113
theorem Dn:Tryz.prog.funcs[113]?=some Tryz.f113:=Tryz.func113
theorem DO:bu Tryz.f113=false:=by kernel_rfl
abbrev PV:Nat:=114
theorem CX:Tryz.prog.funcs[114]?=some Tryz.f114:=Tryz.func114
theorem Ca:bu Tryz.f114=false:=by kernel_rfl
abbrev Ba:Nat:=115
theorem nK:Tryz.prog.funcs[115]?=some Tryz.f115:=Tryz.func115
theorem nN:bu Tryz.f115=false:=by kernel_rfl
abbrev ut:Nat:=116
theorem sm:Tryz.prog.funcs[116]?=some Tryz.f116:=Tryz.func116
theorem su:bu Tryz.f116=false:=by kernel_rfl
abbrev rU:Nat:=117
theorem Bc:Tryz.prog.funcs[117]?=some Tryz.f117:=Tryz.func117
theorem Bb:bu Tryz.f117=false:=by kernel_rfl
abbrev LW:Nat:=118
theorem we:Tryz.prog.funcs[118]?=some Tryz.f118:=Tryz.func118
theorem vU:bu Tryz.f118=false:=by kernel_rfl
abbrev rO:Nat:=119
theorem pJ:Tryz.prog.funcs[119]?=some Tryz.f119:=Tryz.func119
theorem oQ:bu Tryz.f119=false:=by kernel_rfl
abbrev Ks:Nat:=120
theorem kI:Tryz.prog.funcs[120]?=some Tryz.f120:=Tryz.func120
theorem kM:bu Tryz.f120=false:=by kernel_rfl
abbrev DS:Nat:=121
theorem eq:Tryz.prog.funcs[121]?=some Tryz.f121:=Tryz.func121
theorem eo:bu Tryz.f121=false:=by kernel_rfl
abbrev KL:Nat:=122
theorem Ir:Tryz.prog.funcs[122]?=some Tryz.f122:=Tryz.func122
theorem H0:bu Tryz.f122=false:=by kernel_rfl
abbrev La:Nat:=123
theorem Im:Tryz.prog.funcs[123]?=some Tryz.f123:=Tryz.func123
theorem Ia:bu Tryz.f123=false:=by kernel_rfl
abbrev MO:Nat:=124
theorem yl:Tryz.prog.funcs[124]?=some Tryz.f124:=Tryz.func124
theorem xS:bu Tryz.f124=false:=by kernel_rfl
abbrev LX:Nat:=125
theorem H2:Tryz.prog.funcs[125]?=some Tryz.f125:=Tryz.func125
theorem HA:bu Tryz.f125=false:=by kernel_rfl
abbrev Ow:Nat:=126
theorem qQ:Tryz.prog.funcs[126]?=some Tryz.f126:=Tryz.func126
theorem qC:bu Tryz.f126=false:=by kernel_rfl
abbrev Ot:Nat:=127
theorem Lw:Tryz.prog.funcs[127]?=some Tryz.f127:=Tryz.func127
theorem K5:bu Tryz.f127=false:=by kernel_rfl
abbrev GG:Nat:=128
theorem DK:Tryz.prog.funcs[128]?=some Tryz.f128:=Tryz.func128
theorem Dm:bu Tryz.f128=false:=by kernel_rfl
abbrev WT:Nat:=133
theorem ML:Tryz.prog.funcs[133]?=some Tryz.f133:=Tryz.func133
theorem MU:bu Tryz.f133=false:=by kernel_rfl
abbrev Fu:Nat:=134
theorem DM:Tryz.prog.funcs[134]?=some Tryz.f134:=Tryz.func134
theorem DN:bu Tryz.f134=false:=by kernel_rfl
abbrev Dr:Nat:=135
theorem kz:Tryz.prog.funcs[135]?=some Tryz.f135:=Tryz.func135
theorem jT:bu Tryz.f135=false:=by kernel_rfl
abbrev SE:Nat:=136
theorem Pe:Tryz.prog.funcs[136]?=some Tryz.f136:=Tryz.func136
theorem PO:bu Tryz.f136=false:=by kernel_rfl
abbrev EH:Nat:=138
theorem rG:Tryz.prog.funcs[138]?=some Tryz.f138:=Tryz.func138
theorem rT:bu Tryz.f138=false:=by kernel_rfl
abbrev ve:Nat:=139
theorem kR:Tryz.prog.funcs[139]?=some Tryz.f139:=Tryz.func139
theorem lf:bu Tryz.f139=false:=by kernel_rfl
abbrev Q9:Nat:=140
theorem Ns:Tryz.prog.funcs[140]?=some Tryz.f140:=Tryz.func140
theorem NA:bu Tryz.f140=false:=by kernel_rfl
abbrev ik:Nat:=141
theorem zz:Tryz.prog.funcs[141]?=some Tryz.f141:=Tryz.func141
theorem yo:bu Tryz.f141=false:=by kernel_rfl
abbrev wH:Nat:=143
theorem fP:Tryz.prog.funcs[143]?=some Tryz.f143:=Tryz.func143
theorem fO:bu Tryz.f143=false:=by kernel_rfl
abbrev L0:Nat:=144
theorem kF:Tryz.prog.funcs[144]?=some Tryz.f144:=Tryz.func144
theorem kG:bu Tryz.f144=false:=by kernel_rfl
abbrev Ty:Nat:=145
theorem wG:Tryz.prog.funcs[145]?=some Tryz.f145:=Tryz.func145
theorem wJ:bu Tryz.f145=false:=by kernel_rfl
abbrev Up:Nat:=148
theorem Jx:Tryz.prog.funcs[148]?=some Tryz.f148:=Tryz.func148
theorem JA:bu Tryz.f148=false:=by kernel_rfl
abbrev PP:Nat:=149
theorem Cn:Tryz.prog.funcs[149]?=some Tryz.f149:=Tryz.func149
theorem Dd:bu Tryz.f149=false:=by kernel_rfl
abbrev Ga:Nat:=150
theorem Dv:Tryz.prog.funcs[150]?=some Tryz.f150:=Tryz.func150
theorem DP:bu Tryz.f150=false:=by kernel_rfl
abbrev Ms:Nat:=151
theorem z9:Tryz.prog.funcs[151]?=some Tryz.f151:=Tryz.func151
theorem yY:bu Tryz.f151=false:=by kernel_rfl
abbrev OX:Nat:=156
theorem nX:Tryz.prog.funcs[156]?=some Tryz.f156:=Tryz.func156
theorem ol:bu Tryz.f156=false:=by kernel_rfl
abbrev Gu:Nat:=162
theorem rK:Tryz.prog.funcs[162]?=some Tryz.f162:=Tryz.func162
theorem rA:bu Tryz.f162=false:=by kernel_rfl
abbrev HM:Nat:=163
theorem tA:Tryz.prog.funcs[163]?=some Tryz.f163:=Tryz.func163
theorem s3:bu Tryz.f163=false:=by kernel_rfl
abbrev Hs:Nat:=164
theorem s8:Tryz.prog.funcs[164]?=some Tryz.f164:=Tryz.func164
theorem sF:bu Tryz.f164=false:=by kernel_rfl
abbrev MM:Nat:=165
theorem qz:Tryz.prog.funcs[165]?=some Tryz.f165:=Tryz.func165
theorem rj:bu Tryz.f165=false:=by kernel_rfl
abbrev AY:Nat:=166
theorem zq:Tryz.prog.funcs[166]?=some Tryz.f166:=Tryz.func166
theorem zy:bu Tryz.f166=false:=by kernel_rfl
abbrev ME:Nat:=167
theorem Kr:Tryz.prog.funcs[167]?=some Tryz.f167:=Tryz.func167
theorem LG:bu Tryz.f167=false:=by kernel_rfl
abbrev O5:Nat:=168
theorem NZ:Tryz.prog.funcs[168]?=some Tryz.f168:=Tryz.func168
theorem On:bu Tryz.f168=false:=by kernel_rfl
abbrev DC:Nat:=169
theorem As:Tryz.prog.funcs[169]?=some Tryz.f169:=Tryz.func169
theorem Ak:bu Tryz.f169=false:=by kernel_rfl
abbrev OJ:Nat:=170
theorem yM:Tryz.prog.funcs[170]?=some Tryz.f170:=Tryz.func170
theorem ya:bu Tryz.f170=false:=by kernel_rfl
abbrev Gt:Nat:=171
theorem Do:Tryz.prog.funcs[171]?=some Tryz.f171:=Tryz.func171
theorem DQ:bu Tryz.f171=false:=by kernel_rfl
abbrev OU:Nat:=172
theorem Cq:Tryz.prog.funcs[172]?=some Tryz.f172:=Tryz.func172
theorem CH:bu Tryz.f172=false:=by kernel_rfl
abbrev zP:Nat:=173
theorem wZ:Tryz.prog.funcs[173]?=some Tryz.f173:=Tryz.func173
theorem xA:bu Tryz.f173=false:=by kernel_rfl
abbrev Fo:Nat:=174
theorem iT:Tryz.prog.funcs[174]?=some Tryz.f174:=Tryz.func174
theorem iS:bu Tryz.f174=false:=by kernel_rfl
abbrev EC:Nat:=175
theorem sa:Tryz.prog.funcs[175]?=some Tryz.f175:=Tryz.func175
theorem rB:bu Tryz.f175=false:=by kernel_rfl
abbrev HC:Nat:=176
theorem Hf:Tryz.prog.funcs[176]?=some Tryz.f176:=Tryz.func176
theorem EE:bu Tryz.f176=false:=by kernel_rfl
abbrev TJ:Nat:=177
theorem G6:Tryz.prog.funcs[177]?=some Tryz.f177:=Tryz.func177
theorem Hh:bu Tryz.f177=false:=by kernel_rfl
abbrev NE:Nat:=178
theorem qs:Tryz.prog.funcs[178]?=some Tryz.f178:=Tryz.func178
theorem qr:bu Tryz.f178=false:=by kernel_rfl
abbrev PT:Nat:=179
theorem tW:Tryz.prog.funcs[179]?=some Tryz.f179:=Tryz.func179
theorem tO:bu Tryz.f179=false:=by kernel_rfl
abbrev LU:Nat:=180
theorem HX:Tryz.prog.funcs[180]?=some Tryz.f180:=Tryz.func180
theorem HH:bu Tryz.f180=false:=by kernel_rfl
abbrev P1:Nat:=181
theorem C7:Tryz.prog.funcs[181]?=some Tryz.f181:=Tryz.func181
theorem Cy:bu Tryz.f181=false:=by kernel_rfl
abbrev QF:Nat:=182
theorem C8:Tryz.prog.funcs[182]?=some Tryz.f182:=Tryz.func182
theorem Cj:bu Tryz.f182=false:=by kernel_rfl
abbrev QK:Nat:=183
theorem og:Tryz.prog.funcs[183]?=some Tryz.f183:=Tryz.func183
theorem nM:bu Tryz.f183=false:=by kernel_rfl
abbrev LC:Nat:=184
theorem wn:Tryz.prog.funcs[184]?=some Tryz.f184:=Tryz.func184
theorem ww:bu Tryz.f184=false:=by kernel_rfl
abbrev KQ:Nat:=189
theorem HS:Tryz.prog.funcs[189]?=some Tryz.f189:=Tryz.func189
theorem Hw:bu Tryz.f189=false:=by kernel_rfl
abbrev KR:Nat:=190
theorem HF:Tryz.prog.funcs[190]?=some Tryz.f190:=Tryz.func190
theorem H1:bu Tryz.f190=false:=by kernel_rfl
abbrev n_i_holds:Nat:=191
theorem fn_i_holds:Tryz.prog.funcs[191]?=some Tryz.f191:=Tryz.func191
theorem nm_i_holds:bu Tryz.f191=false:=by kernel_rfl
abbrev GH:Nat:=192
theorem lA:Tryz.prog.funcs[192]?=some Tryz.f192:=Tryz.func192
theorem lo:bu Tryz.f192=false:=by kernel_rfl
abbrev SM:Nat:=193
theorem mD:Tryz.prog.funcs[193]?=some Tryz.f193:=Tryz.func193
theorem mI:bu Tryz.f193=false:=by kernel_rfl
abbrev QJ:Nat:=194
theorem Cc:Tryz.prog.funcs[194]?=some Tryz.f194:=Tryz.func194
theorem Ci:bu Tryz.f194=false:=by kernel_rfl
abbrev p8:Nat:=200
theorem nI:Tryz.prog.funcs[200]?=some Tryz.f200:=Tryz.func200
theorem nz:bu Tryz.f200=false:=by kernel_rfl
abbrev Hq:Nat:=203
theorem Hg:Tryz.prog.funcs[203]?=some Tryz.f203:=Tryz.func203
theorem Gk:bu Tryz.f203=false:=by kernel_rfl
abbrev Qv:Nat:=204
theorem OP:Tryz.prog.funcs[204]?=some Tryz.f204:=Tryz.func204
theorem Ml:bu Tryz.f204=false:=by kernel_rfl
abbrev Tq:Nat:=213
theorem GS:Tryz.prog.funcs[213]?=some Tryz.f213:=Tryz.func213
theorem Et:bu Tryz.f213=false:=by kernel_rfl
abbrev Hy:Nat:=217
theorem uD:Tryz.prog.funcs[217]?=some Tryz.f217:=Tryz.func217
theorem te:bu Tryz.f217=false:=by kernel_rfl
abbrev oN:Nat:=220
theorem zt:Tryz.prog.funcs[220]?=some Tryz.f220:=Tryz.func220
theorem zu:bu Tryz.f220=false:=by kernel_rfl
abbrev Pu:Nat:=221
theorem Nl:Tryz.prog.funcs[221]?=some Tryz.f221:=Tryz.func221
theorem MC:bu Tryz.f221=false:=by kernel_rfl
abbrev OE:Nat:=222
theorem zw:Tryz.prog.funcs[222]?=some Tryz.f222:=Tryz.func222
theorem ye:bu Tryz.f222=false:=by kernel_rfl
abbrev NM:Nat:=223
theorem xN:Tryz.prog.funcs[223]?=some Tryz.f223:=Tryz.func223
theorem zY:bu Tryz.f223=false:=by kernel_rfl
abbrev P0:Nat:=224
theorem Dg:Tryz.prog.funcs[224]?=some Tryz.f224:=Tryz.func224
theorem B9:bu Tryz.f224=false:=by kernel_rfl
abbrev M5:Nat:=225
theorem gi:Tryz.prog.funcs[225]?=some Tryz.f225:=Tryz.func225
theorem gg:bu Tryz.f225=false:=by kernel_rfl
abbrev Qj:Nat:=226
theorem gX:Tryz.prog.funcs[226]?=some Tryz.f226:=Tryz.func226
theorem gW:bu Tryz.f226=false:=by kernel_rfl
abbrev Qk:Nat:=227
theorem dw:Tryz.prog.funcs[227]?=some Tryz.f227:=Tryz.func227
theorem dv:bu Tryz.f227=false:=by kernel_rfl
abbrev AG:Nat:=228
theorem zR:Tryz.prog.funcs[228]?=some Tryz.f228:=Tryz.func228
theorem xX:bu Tryz.f228=false:=by kernel_rfl
abbrev Bj:Nat:=229
theorem jq:Tryz.prog.funcs[229]?=some Tryz.f229:=Tryz.func229
theorem jl:bu Tryz.f229=false:=by kernel_rfl
abbrev NP:Nat:=239
theorem l0:Tryz.prog.funcs[239]?=some Tryz.f239:=Tryz.func239
theorem lW:bu Tryz.f239=false:=by kernel_rfl
abbrev KJ:Nat:=240
theorem Hx:Tryz.prog.funcs[240]?=some Tryz.f240:=Tryz.func240
theorem HY:bu Tryz.f240=false:=by kernel_rfl
abbrev QM:Nat:=242
theorem CL:Tryz.prog.funcs[242]?=some Tryz.f242:=Tryz.func242
theorem CF:bu Tryz.f242=false:=by kernel_rfl
abbrev QC:Nat:=244
theorem M4:Tryz.prog.funcs[244]?=some Tryz.f244:=Tryz.func244
theorem MX:bu Tryz.f244=false:=by kernel_rfl
abbrev Mp:Nat:=245
theorem Mc:Tryz.prog.funcs[245]?=some Tryz.f245:=Tryz.func245
theorem Ma:bu Tryz.f245=false:=by kernel_rfl
abbrev SY:Nat:=253
theorem O1:Tryz.prog.funcs[253]?=some Tryz.f253:=Tryz.func253
theorem P2:bu Tryz.f253=false:=by kernel_rfl
abbrev M0:Nat:=254
theorem L3:Tryz.prog.funcs[254]?=some Tryz.f254:=Tryz.func254
theorem Ki:bu Tryz.f254=false:=by kernel_rfl
abbrev Us:Nat:=255
theorem Tx:Tryz.prog.funcs[255]?=some Tryz.f255:=Tryz.func255
theorem SQ:bu Tryz.f255=false:=by kernel_rfl
abbrev Qt:Nat:=256
theorem Ob:Tryz.prog.funcs[256]?=some Tryz.f256:=Tryz.func256
theorem NU:bu Tryz.f256=false:=by kernel_rfl
abbrev wU:Nat:=257
theorem vg:Tryz.prog.funcs[257]?=some Tryz.f257:=Tryz.func257
theorem vk:bu Tryz.f257=false:=by kernel_rfl
abbrev Qy:Nat:=270
theorem Oy:Tryz.prog.funcs[270]?=some Tryz.f270:=Tryz.func270
theorem Mw:bu Tryz.f270=false:=by kernel_rfl
abbrev Na:Nat:=271
theorem yF:Tryz.prog.funcs[271]?=some Tryz.f271:=Tryz.func271
theorem z1:bu Tryz.f271=false:=by kernel_rfl
abbrev N0:Nat:=272
theorem yA:Tryz.prog.funcs[272]?=some Tryz.f272:=Tryz.func272
theorem xY:bu Tryz.f272=false:=by kernel_rfl
abbrev Oh:Nat:=273
theorem yB:Tryz.prog.funcs[273]?=some Tryz.f273:=Tryz.func273
theorem zm:bu Tryz.f273=false:=by kernel_rfl
abbrev LH:Nat:=274
theorem H8:Tryz.prog.funcs[274]?=some Tryz.f274:=Tryz.func274
theorem Id:bu Tryz.f274=false:=by kernel_rfl
abbrev SF:Nat:=275
theorem Qn:Tryz.prog.funcs[275]?=some Tryz.f275:=Tryz.func275
theorem QU:bu Tryz.f275=false:=by kernel_rfl
abbrev QA:Nat:=276
theorem ue:Tryz.prog.funcs[276]?=some Tryz.f276:=Tryz.func276
theorem sO:bu Tryz.f276=false:=by kernel_rfl
abbrev H7:Nat:=286
theorem FJ:Tryz.prog.funcs[286]?=some Tryz.f286:=Tryz.func286
theorem Ex:bu Tryz.f286=false:=by kernel_rfl
abbrev Mj:Nat:=288
theorem Lt:Tryz.prog.funcs[288]?=some Tryz.f288:=Tryz.func288
theorem Ly:bu Tryz.f288=false:=by kernel_rfl
abbrev MZ:Nat:=289
theorem yq:Tryz.prog.funcs[289]?=some Tryz.f289:=Tryz.func289
theorem yt:bu Tryz.f289=false:=by kernel_rfl
abbrev Pv:Nat:=290
theorem gZ:Tryz.prog.funcs[290]?=some Tryz.f290:=Tryz.func290
theorem g8:bu Tryz.f290=false:=by kernel_rfl
abbrev Pm:Nat:=302
theorem CW:Tryz.prog.funcs[302]?=some Tryz.f302:=Tryz.func302
theorem Di:bu Tryz.f302=false:=by kernel_rfl
abbrev Ta:Nat:=303
theorem Pj:Tryz.prog.funcs[303]?=some Tryz.f303:=Tryz.func303
theorem O2:bu Tryz.f303=false:=by kernel_rfl
abbrev Tc:Nat:=307
theorem PR:Tryz.prog.funcs[307]?=some Tryz.f307:=Tryz.func307
theorem QL:bu Tryz.f307=false:=by kernel_rfl
abbrev OV:Nat:=308
theorem Nz:Tryz.prog.funcs[308]?=some Tryz.f308:=Tryz.func308
theorem MV:bu Tryz.f308=false:=by kernel_rfl
abbrev Nt:Nat:=309
theorem zF:Tryz.prog.funcs[309]?=some Tryz.f309:=Tryz.func309
theorem zZ:bu Tryz.f309=false:=by kernel_rfl
abbrev Ph:Nat:=310
theorem N2:Tryz.prog.funcs[310]?=some Tryz.f310:=Tryz.func310
theorem Og:bu Tryz.f310=false:=by kernel_rfl
abbrev L6:Nat:=311
theorem Is:Tryz.prog.funcs[311]?=some Tryz.f311:=Tryz.func311
theorem Ib:bu Tryz.f311=false:=by kernel_rfl
abbrev OL:Nat:=312
theorem K1:Tryz.prog.funcs[312]?=some Tryz.f312:=Tryz.func312
theorem Kv:bu Tryz.f312=false:=by kernel_rfl
abbrev Qm:Nat:=313
theorem tS:Tryz.prog.funcs[313]?=some Tryz.f313:=Tryz.func313
theorem tI:bu Tryz.f313=false:=by kernel_rfl
abbrev QY:Nat:=328
theorem Cv:Tryz.prog.funcs[328]?=some Tryz.f328:=Tryz.func328
theorem C0:bu Tryz.f328=false:=by kernel_rfl
abbrev HL:Nat:=329
theorem tw:Tryz.prog.funcs[329]?=some Tryz.f329:=Tryz.func329
theorem uI:bu Tryz.f329=false:=by kernel_rfl
abbrev Mv:Nat:=330
theorem KN:Tryz.prog.funcs[330]?=some Tryz.f330:=Tryz.func330
theorem LK:bu Tryz.f330=false:=by kernel_rfl

end Go.Proofs.YtgllldjiaglkcaaGreatDoor
