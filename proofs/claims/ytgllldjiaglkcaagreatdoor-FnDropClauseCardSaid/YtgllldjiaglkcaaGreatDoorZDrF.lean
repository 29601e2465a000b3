/- Made by program: names for the numbers of functions and types, and closed facts on them. -/
import Derived.Test.YtgllldjiaglkcaaGreatDoorZDrS
import Derived.Test.YtgllldjiaglkcaaGreatDoorProg
import Derived.KernelRfl
namespace Go.Proofs.YtgllldjiaglkcaaGreatDoor
open Go
abbrev aW (f:Func):Bool:=f.name == "runtime.NumGoroutine" || f.body.isNone
abbrev bE:Nat:=3
theorem aE:ib Tryz.prog 3=true:=by kernel_rfl
theorem Lp:fo Tryz.prog 3=some (.int .i64 0):=by kernel_rfl
theorem fl:Tryz.prog.underlying 3=some (.int .i64):=by kernel_rfl
abbrev G8:Nat:=4
theorem Jz:ib Tryz.prog 4=true:=by kernel_rfl
theorem xN:Tryz.prog.underlying 4=some .bool:=by kernel_rfl
abbrev C7:Nat:=5
theorem Ak:ib Tryz.prog 5=true:=by kernel_rfl
theorem eL:Tryz.prog.underlying 5=some (.int .u8):=by kernel_rfl
abbrev eN:Nat:=9
theorem aL:ib Tryz.prog 9=true:=by kernel_rfl
theorem aF:Tryz.prog.underlying 9=some .string:=by kernel_rfl
abbrev EP:Nat:=22
theorem fG:ib Tryz.prog 22=true:=by kernel_rfl
theorem ud:kz Tryz.prog 22=some (5,1,1,(.int .u8 0)):=by kernel_rfl
theorem cM:bW Tryz.prog 22=some (5,1):=by kernel_rfl
abbrev Hb:Nat:=23
theorem oo:ib Tryz.prog 23=true:=by kernel_rfl
theorem cj:kz Tryz.prog 23=some (33,5,80,(.agg #[(.int .i64 0),(.int .i64 0),(.string ⟨#[]⟩),(.slice none 0 0),(.slice none 0 0)])):=by kernel_rfl
theorem aP:bW Tryz.prog 23=some (33,5):=by kernel_rfl
abbrev oD:Nat:=29
theorem aj:ib Tryz.prog 29=true:=by kernel_rfl
theorem bu:kz Tryz.prog 29=some (31,4,56,(.agg #[(.int .i64 0),(.int .i64 0),(.string ⟨#[]⟩),(.slice none 0 0)])):=by kernel_rfl
theorem ah:bW Tryz.prog 29=some (31,4):=by kernel_rfl
abbrev ab:Nat:=31
theorem ac:nE Tryz.prog 31=some 4:=by kernel_rfl
theorem aU:fo Tryz.prog 31=some (.agg #[(.int .i64 0),(.int .i64 0),(.string ⟨#[]⟩),(.slice none 0 0)]):=by kernel_rfl
theorem aQ:bj Tryz.prog 31 0=some 0:=by kernel_rfl
theorem ba:bj Tryz.prog 31 1=some 1:=by kernel_rfl
theorem aR:bj Tryz.prog 31 2=some 2:=by kernel_rfl
theorem au:bj Tryz.prog 31 3=some 3:=by kernel_rfl
abbrev af:Nat:=33
theorem aY:nE Tryz.prog 33=some 5:=by kernel_rfl
theorem cZ:fo Tryz.prog 33=some (.agg #[(.int .i64 0),(.int .i64 0),(.string ⟨#[]⟩),(.slice none 0 0),(.slice none 0 0)]):=by kernel_rfl
theorem bM:bj Tryz.prog 33 0=some 0:=by kernel_rfl
theorem bb:bj Tryz.prog 33 1=some 4:=by kernel_rfl
theorem EU:kz Tryz.prog 34=some (57,1,24,(.agg #[(.slice none 0 0)])):=by kernel_rfl
theorem fH:bW Tryz.prog 34=some (57,1):=by kernel_rfl
abbrev dE:Nat:=47
abbrev tx:Nat:=53
abbrev dv:Nat:=57
theorem yr:nE Tryz.prog 57=some 1:=by kernel_rfl
theorem HO:fo Tryz.prog 57=some (.agg #[(.slice none 0 0)]):=by kernel_rfl
theorem r3:bj Tryz.prog 57 0=some 0:=by kernel_rfl
abbrev Cd:Nat:=69
theorem Al:kz Tryz.prog 69=some (9,1,16,(.string ⟨#[]⟩)):=by kernel_rfl
theorem bF:bW Tryz.prog 69=some (9,1):=by kernel_rfl
abbrev oV:Nat:=81
theorem fR:ib Tryz.prog 81=true:=by kernel_rfl
theorem N7:fo Tryz.prog 81=some (.slice none 0 0):=by kernel_rfl
theorem py:kz Tryz.prog 81=some (3,1,8,(.int .i64 0)):=by kernel_rfl
theorem de:bW Tryz.prog 81=some (3,1):=by kernel_rfl
abbrev cd:Nat:=85
theorem zZ:nE Tryz.prog 85=some 2:=by kernel_rfl
theorem L0:fo Tryz.prog 85=some (.agg #[(.string ⟨#[]⟩),(.int .i64 0)]):=by kernel_rfl
abbrev i0:Nat:=94
theorem dH:ib Tryz.prog 94=true:=by kernel_rfl
theorem cK:ib Tryz.prog 95=true:=by kernel_rfl
theorem cV:ib Tryz.prog 96=true:=by kernel_rfl
theorem vD:kz Tryz.prog 96=some (194,9,112,(.agg #[(.int .i64 0),(.int .i64 0),(.string ⟨#[]⟩),(.slice none 0 0),(.int .i64 0),(.pointer none),(.slice none 0 0),(.int .i64 0),(.int .i64 0)])):=by kernel_rfl
theorem eP:bW Tryz.prog 96=some (194,9):=by kernel_rfl
theorem gM:ib Tryz.prog 97=true:=by kernel_rfl
theorem CE:kz Tryz.prog 97=some (102,6,72,(.agg #[(.int .i64 0),(.int .i64 0),(.string ⟨#[]⟩),(.slice none 0 0),(.int .i64 0),(.int .i64 0)])):=by kernel_rfl
theorem pu:bW Tryz.prog 97=some (102,6):=by kernel_rfl
abbrev k0:Nat:=99
theorem ef:bj Tryz.prog 99 0=some 0:=by kernel_rfl
theorem l9:bj Tryz.prog 99 1=some 1:=by kernel_rfl
theorem Et:bj Tryz.prog 99 2=some 2:=by kernel_rfl
theorem Dj:bj Tryz.prog 99 3=some 3:=by kernel_rfl
theorem Do:bj Tryz.prog 99 4=some 4:=by kernel_rfl
theorem Du:bj Tryz.prog 99 5=some 5:=by kernel_rfl
theorem mr:bj Tryz.prog 99 6=some 6:=by kernel_rfl
theorem mf:bj Tryz.prog 99 7=some 7:=by kernel_rfl
theorem eX:bj Tryz.prog 99 8=some 8:=by kernel_rfl
theorem cL:bj Tryz.prog 99 9=some 9:=by kernel_rfl
theorem dK:bj Tryz.prog 99 10=some 10:=by kernel_rfl
theorem qE:bj Tryz.prog 99 11=some 11:=by kernel_rfl
abbrev iI:Nat:=102
theorem Hy:bj Tryz.prog 102 2=some 5:=by kernel_rfl
abbrev GE:Nat:=127
theorem dU:bj Tryz.prog 127 0=some 0:=by kernel_rfl
theorem pf:bj Tryz.prog 127 1=some 1:=by kernel_rfl
abbrev ko:Nat:=146
theorem za:bj Tryz.prog 146 0=some 0:=by kernel_rfl
theorem yX:bj Tryz.prog 146 1=some 4:=by kernel_rfl
theorem Ac:bj Tryz.prog 146 2=some 5:=by kernel_rfl
theorem jd:bj Tryz.prog 146 3=some 6:=by kernel_rfl
abbrev mj:Nat:=151
theorem Dd:ib Tryz.prog 151=true:=by kernel_rfl
theorem Az:ib Tryz.prog 158=true:=by kernel_rfl
theorem gT:Tryz.prog.underlying 158=some (.map 3 31):=by kernel_rfl
abbrev bV:Nat:=177
theorem ph:bj Tryz.prog 177 0=some 0:=by kernel_rfl
theorem dY:bj Tryz.prog 177 1=some 1:=by kernel_rfl
abbrev cS:Nat:=194
theorem zU:nE Tryz.prog 194=some 9:=by kernel_rfl
theorem HS:fo Tryz.prog 194=some (.agg #[(.int .i64 0),(.int .i64 0),(.string ⟨#[]⟩),(.slice none 0 0),(.int .i64 0),(.pointer none),(.slice none 0 0),(.int .i64 0),(.int .i64 0)]):=by kernel_rfl
theorem EB:bj Tryz.prog 194 0=some 0:=by kernel_rfl
theorem ED:bj Tryz.prog 194 1=some 4:=by kernel_rfl
theorem Ea:bj Tryz.prog 194 2=some 5:=by kernel_rfl
theorem De:bj Tryz.prog 194 3=some 6:=by kernel_rfl
theorem DQ:bj Tryz.prog 194 4=some 7:=by kernel_rfl
theorem Dh:bj Tryz.prog 194 5=some 8:=by kernel_rfl
abbrev fK:Nat:=226
abbrev bQ:Nat:=3
abbrev rg:Nat:=8
theorem pV:Tryz.prog.funcs[8]?=some Tryz.f8:=Tryz.func8
theorem pW:aW Tryz.f8=false:=by kernel_rfl
abbrev z3:Nat:=9
theorem xu:Tryz.prog.funcs[9]?=some Tryz.f9:=Tryz.func9
theorem xc:aW Tryz.f9=false:=by kernel_rfl
abbrev zm:Nat:=10
theorem xm:Tryz.prog.funcs[10]?=some Tryz.f10:=Tryz.func10
theorem xJ:aW Tryz.f10=false:=by kernel_rfl
abbrev A4:Nat:=11
theorem nH:Tryz.prog.funcs[11]?=some Tryz.f11:=Tryz.func11
theorem oj:aW Tryz.f11=false:=by kernel_rfl
abbrev Ku:Nat:=12
theorem ya:Tryz.prog.funcs[12]?=some Tryz.f12:=Tryz.func12
theorem yp:aW Tryz.f12=false:=by kernel_rfl
abbrev xB:Nat:=13
theorem uB:Tryz.prog.funcs[13]?=some Tryz.f13:=Tryz.func13
theorem ve:aW Tryz.f13=false:=by kernel_rfl
abbrev oy:Nat:=14
theorem nz:Tryz.prog.funcs[14]?=some Tryz.f14:=Tryz.func14
theorem nw:aW Tryz.f14=false:=by kernel_rfl
abbrev mc:Nat:=23
theorem kI:Tryz.prog.funcs[23]?=some Tryz.f23:=Tryz.func23
theorem kF:aW Tryz.f23=false:=by kernel_rfl
abbrev AL:Nat:=25
theorem Ab:Tryz.prog.funcs[25]?=some Tryz.f25:=Tryz.func25
theorem zg:aW Tryz.f25=false:=by kernel_rfl
abbrev AA:Nat:=26
theorem zN:Tryz.prog.funcs[26]?=some Tryz.f26:=Tryz.func26
theorem Aa:aW Tryz.f26=false:=by kernel_rfl
abbrev uS:Nat:=33
theorem gi:Tryz.prog.funcs[33]?=some Tryz.f33:=Tryz.func33
theorem fT:aW Tryz.f33=false:=by kernel_rfl
abbrev Iq:Nat:=34
theorem dT:Tryz.prog.funcs[34]?=some Tryz.f34:=Tryz.func34
theorem dX:aW Tryz.f34=false:=by kernel_rfl
abbrev tG:Nat:=35
theorem rp:Tryz.prog.funcs[35]?=some Tryz.f35:=Tryz.func35
theorem rC:aW Tryz.f35=false:=by kernel_rfl
abbrev y6:Nat:=36
theorem xC:Tryz.prog.funcs[36]?=some Tryz.f36:=Tryz.func36
theorem xL:aW Tryz.f36=false:=by kernel_rfl
abbrev uw:Nat:=37
theorem rG:Tryz.prog.funcs[37]?=some Tryz.f37:=Tryz.func37
theorem s4:aW Tryz.f37=false:=by kernel_rfl
abbrev Fb:Nat:=38
theorem Er:Tryz.prog.funcs[38]?=some Tryz.f38:=Tryz.func38
theorem CW:aW Tryz.f38=false:=by kernel_rfl
abbrev nI:Nat:=39
theorem wS:Tryz.prog.funcs[39]?=some Tryz.f39:=Tryz.func39
theorem xo:aW Tryz.f39=false:=by kernel_rfl
abbrev KT:Nat:=40
theorem Hj:Tryz.prog.funcs[40]?=some Tryz.f40:=Tryz.func40
theorem Hr:aW Tryz.f40=false:=by kernel_rfl
abbrev eE:Nat:=41
theorem ra:Tryz.prog.funcs[41]?=some Tryz.f41:=Tryz.func41
theorem rh:aW Tryz.f41=false:=by kernel_rfl
abbrev EM:Nat:=42
theorem mv:Tryz.prog.funcs[42]?=some Tryz.f42:=Tryz.func42
theorem mp:aW Tryz.f42=false:=by kernel_rfl
abbrev p7:Nat:=43
theorem dC:Tryz.prog.funcs[43]?=some Tryz.f43:=Tryz.func43
theorem dz:aW Tryz.f43=false:=by kernel_rfl
abbrev kV:Nat:=44
theorem ft:Tryz.prog.funcs[44]?=some Tryz.f44:=Tryz.func44
theorem fw:aW Tryz.f44=false:=by kernel_rfl
abbrev jS:Nat:=45
theorem qP:Tryz.prog.funcs[45]?=some Tryz.f45:=Tryz.func45
theorem rB:aW Tryz.f45=false:=by kernel_rfl
abbrev gy:Nat:=46
theorem c8:Tryz.prog.funcs[46]?=some Tryz.f46:=Tryz.func46
theorem c9:aW Tryz.f46=false:=by kernel_rfl
abbrev Gt:Nat:=47
theorem Es:Tryz.prog.funcs[47]?=some Tryz.f47:=Tryz.func47
theorem Ef:aW Tryz.f47=false:=by kernel_rfl
abbrev Gp:Nat:=48
theorem Da:Tryz.prog.funcs[48]?=some Tryz.f48:=Tryz.func48
theorem Dg:aW Tryz.f48=false:=by kernel_rfl
abbrev yk:Nat:=49
theorem bz:Tryz.prog.funcs[49]?=some Tryz.f49:=Tryz.func49
theorem bA:aW Tryz.f49=false:=by kernel_rfl
abbrev xq:Nat:=50
theorem uO:Tryz.prog.funcs[50]?=some Tryz.f50:=Tryz.func50
theorem ux:aW Tryz.f50=false:=by kernel_rfl
abbrev AR:Nat:=51
theorem z6:Tryz.prog.funcs[51]?=some Tryz.f51:=Tryz.func51
theorem y7:aW Tryz.f51=false:=by kernel_rfl
abbrev Bi:Nat:=52
theorem dR:Tryz.prog.funcs[52]?=some Tryz.f52:=Tryz.func52
theorem dN:aW Tryz.f52=false:=by kernel_rfl
abbrev yd:Nat:=54
theorem xh:Tryz.prog.funcs[54]?=some Tryz.f54:=Tryz.func54
theorem xy:aW Tryz.f54=false:=by kernel_rfl
abbrev L9:Nat:=55
theorem Ca:Tryz.prog.funcs[55]?=some Tryz.f55:=Tryz.func55
theorem BP:aW Tryz.f55=false:=by kernel_rfl
abbrev AP:Nat:=64
theorem yS:Tryz.prog.funcs[64]?=some Tryz.f64:=Tryz.func64
theorem zQ:aW Tryz.f64=false:=by kernel_rfl
abbrev xi:Nat:=65
theorem uY:Tryz.prog.funcs[65]?=some Tryz.f65:=Tryz.func65
theorem uV:aW Tryz.f65=false:=by kernel_rfl
abbrev jX:Nat:=66
theorem jp:Tryz.prog.funcs[66]?=some Tryz.f66:=Tryz.func66
theorem je:aW Tryz.f66=false:=by kernel_rfl
abbrev Ai:Nat:=68
theorem xE:Tryz.prog.funcs[68]?=some Tryz.f68:=Tryz.func68
theorem wQ:aW Tryz.f68=false:=by kernel_rfl
abbrev rr:Nat:=69
theorem iy:Tryz.prog.funcs[69]?=some Tryz.f69:=Tryz.func69
theorem iF:aW Tryz.f69=false:=by kernel_rfl
abbrev El:Nat:=71
theorem qs:Tryz.prog.funcs[71]?=some Tryz.f71:=Tryz.func71
theorem qy:aW Tryz.f71=false:=by kernel_rfl
abbrev AH:Nat:=73
theorem ot:Tryz.prog.funcs[73]?=some Tryz.f73:=Tryz.func73
theorem oY:aW Tryz.f73=false:=by kernel_rfl
abbrev Gx:Nat:=74
theorem mu:Tryz.prog.funcs[74]?=some Tryz.f74:=Tryz.func74
theorem mt:aW Tryz.f74=false:=by kernel_rfl
abbrev J0:Nat:=75
theorem yJ:Tryz.prog.funcs[75]?=some Tryz.f75:=Tryz.func75
theorem yb:aW Tryz.f75=false:=by kernel_rfl
abbrev HU:Nat:=77
theorem ox:Tryz.prog.funcs[77]?=some Tryz.f77:=Tryz.func77
theorem oQ:aW Tryz.f77=false:=by kernel_rfl
abbrev oM:Nat:=78
theorem gn:Tryz.prog.funcs[78]?=some Tryz.f78:=Tryz.func78
theorem fZ:aW Tryz.f78=false:=by kernel_rfl
abbrev Bm:Nat:=80
theorem oh:Tryz.prog.funcs[80]?=some Tryz.f80:=Tryz.func80
theorem o5:aW Tryz.f80=false:=by kernel_rfl
abbrev wK:Nat:=82
theorem lP:Tryz.prog.funcs[82]?=some Tryz.f82:=Tryz.func82
theorem l7:aW Tryz.f82=false:=by kernel_rfl
abbrev i9:Nat:=93
theorem pT:Tryz.prog.funcs[93]?=some Tryz.f93:=Tryz.func93
theorem pX:aW Tryz.f93=false:=by kernel_rfl
abbrev xH:Nat:=94
theorem u0:Tryz.prog.funcs[94]?=some Tryz.f94:=Tryz.func94
theorem tZ:aW Tryz.f94=false:=by kernel_rfl
abbrev Ba:Nat:=95
theorem zY:Tryz.prog.funcs[95]?=some Tryz.f95:=Tryz.func95
theorem y0:aW Tryz.f95=false:=by kernel_rfl
abbrev xr:Nat:=96
theorem lz:Tryz.prog.funcs[96]?=some Tryz.f96:=Tryz.func96
theorem lo:aW Tryz.f96=false:=by kernel_rfl
abbrev zt:Nat:=97
theorem n6:Tryz.prog.funcs[97]?=some Tryz.f97:=Tryz.func97
theorem oe:aW Tryz.f97=false:=by kernel_rfl
abbrev CR:Nat:=98
theorem AQ:Tryz.prog.funcs[98]?=some Tryz.f98:=Tryz.func98
theorem Bl:aW Tryz.f98=false:=by kernel_rfl
abbrev z2:Nat:=99
theorem xI:Tryz.prog.funcs[99]?=some Tryz.f99:=Tryz.func99
theorem xj:aW Tryz.f99=false:=by kernel_rfl
abbrev vX:Nat:=100
theorem Dm:Tryz.prog.funcs[100]?=some Tryz.f100:=Tryz.func100
theorem C5:aW Tryz.f100=false:=by kernel_rfl
abbrev Bc:Nat:=101
theorem o9:Tryz.prog.funcs[101]?=some Tryz.f101:=Tryz.func101
theorem oJ:aW Tryz.f101=false:=by kernel_rfl
abbrev Mj:Nat:=102
theorem KF:Tryz.prog.funcs[102]?=some Tryz.f102:=Tryz.func102
theorem KD:aW Tryz.f102=false:=by kernel_rfl
abbrev vg:Nat:=103
theorem tj:Tryz.prog.funcs[103]?=some Tryz.f103:=Tryz.func103
theorem su:aW Tryz.f103=false:=by kernel_rfl
abbrev nT:Nat:=104
theorem nu:Tryz.prog.funcs[104]?=some Tryz.f104:=Tryz.func104
theorem nt:aW Tryz.f104=false:=by kernel_rfl
abbrev jz:Nat:=105
theorem iz:Tryz.prog.funcs[105]?=some Tryz.f105:=Tryz.func105
theorem iD:aW Tryz.f105=false:=by kernel_rfl
abbrev CZ:Nat:=106
theorem qw:Tryz.prog.funcs[106]?=some Tryz.f106:=Tryz.func106
theorem qI:aW Tryz.f106=false:=by kernel_rfl
abbrev lN:Nat:=107
theorem jN:Tryz.prog.funcs[107]?=some Tryz.f107:=Tryz.func107
theorem jG:aW Tryz.f107=false:=by kernel_rfl
abbrev yL:Nat:=108
theorem xG:Tryz.prog.funcs[108]?=some Tryz.f108:=Tryz.func108
theorem wU:aW Tryz.f108=false:=by kernel_rfl
abbrev zO:Nat:=109
theorem wR:Tryz.prog.funcs[109]?=some Tryz.f109:=Tryz.func109
theorem xd:aW Tryz.f109=false:=by kernel_rfl
abbrev DH:Nat:=110
theorem AN:Tryz.prog.funcs[110]?=some Tryz.f110:=Tryz.func110
theorem A8:aW Tryz.f110=false:=by kernel_rfl
abbrev sa:Nat:=111
theorem cJ:Tryz.prog.funcs[111]?=some Tryz.f111:=Tryz.func111
theorem cH:aW Tryz.f111=false:=by kernel_rfl
abbrev GS:Nat:=112
theorem Dr:Tryz.prog.funcs[112]?=some Tryz.f112:=Tryz.func112
theorem Dw:aW Tryz.f112=false:=by kernel_rfl
abbrev um:Nat:=115
theorem tS:Tryz.prog.funcs[115]?=some Tryz.f115:=Tryz.func115
theorem sM:aW Tryz.f115=false:=by kernel_rfl
abbrev DS:Nat:=118
theorem Ay:Tryz.prog.funcs[118]?=some Tryz.f118:=Tryz.func118
theorem AE:aW Tryz.f118=false:=by kernel_rfl
abbrev D3:Nat:=120
theorem kL:Tryz.prog.funcs[120]?=some Tryz.f120:=Tryz.func120
theorem kw:aW Tryz.f120=false:=by kernel_rfl
abbrev wO:Nat:=121
theorem dh:Tryz.prog.funcs[121]?=some Tryz.f121:=Tryz.func121
theorem dg:aW Tryz.f121=false:=by kernel_rfl
abbrev NV:Nat:=133
theorem F5:Tryz.prog.funcs[133]?=some Tryz.f133:=Tryz.func133
theorem FW:aW Tryz.f133=false:=by kernel_rfl
abbrev yt:Nat:=134
theorem wW:Tryz.prog.funcs[134]?=some Tryz.f134:=Tryz.func134
theorem xA:aW Tryz.f134=false:=by kernel_rfl
abbrev xe:Nat:=135
theorem gN:Tryz.prog.funcs[135]?=some Tryz.f135:=Tryz.func135
theorem gD:aW Tryz.f135=false:=by kernel_rfl
abbrev KJ:Nat:=136
theorem IF:Tryz.prog.funcs[136]?=some Tryz.f136:=Tryz.func136
theorem Ii:aW Tryz.f136=false:=by kernel_rfl
abbrev y3:Nat:=138
theorem mJ:Tryz.prog.funcs[138]?=some Tryz.f138:=Tryz.func138
theorem mC:aW Tryz.f138=false:=by kernel_rfl
abbrev pY:Nat:=139
theorem il:Tryz.prog.funcs[139]?=some Tryz.f139:=Tryz.func139
theorem ia:aW Tryz.f139=false:=by kernel_rfl
abbrev JL:Nat:=140
theorem GU:Tryz.prog.funcs[140]?=some Tryz.f140:=Tryz.func140
theorem FJ:aW Tryz.f140=false:=by kernel_rfl
abbrev fb:Nat:=141
theorem sq:Tryz.prog.funcs[141]?=some Tryz.f141:=Tryz.func141
theorem s0:aW Tryz.f141=false:=by kernel_rfl
abbrev rf:Nat:=143
theorem dV:Tryz.prog.funcs[143]?=some Tryz.f143:=Tryz.func143
theorem dZ:aW Tryz.f143=false:=by kernel_rfl
abbrev C0:Nat:=144
theorem gY:Tryz.prog.funcs[144]?=some Tryz.f144:=Tryz.func144
theorem gU:aW Tryz.f144=false:=by kernel_rfl
abbrev KI:Nat:=145
theorem qT:Tryz.prog.funcs[145]?=some Tryz.f145:=Tryz.func145
theorem rn:aW Tryz.f145=false:=by kernel_rfl
abbrev MB:Nat:=148
theorem Cm:Tryz.prog.funcs[148]?=some Tryz.f148:=Tryz.func148
theorem BH:aW Tryz.f148=false:=by kernel_rfl
abbrev HF:Nat:=149
theorem wd:Tryz.prog.funcs[149]?=some Tryz.f149:=Tryz.func149
theorem wh:aW Tryz.f149=false:=by kernel_rfl
abbrev yT:Nat:=150
theorem xl:Tryz.prog.funcs[150]?=some Tryz.f150:=Tryz.func150
theorem xt:aW Tryz.f150=false:=by kernel_rfl
abbrev GO:Nat:=151
theorem rK:Tryz.prog.funcs[151]?=some Tryz.f151:=Tryz.func151
theorem ti:aW Tryz.f151=false:=by kernel_rfl
abbrev HY:Nat:=156
theorem ki:Tryz.prog.funcs[156]?=some Tryz.f156:=Tryz.func156
theorem jT:aW Tryz.f156=false:=by kernel_rfl
abbrev ze:Nat:=162
theorem m8:Tryz.prog.funcs[162]?=some Tryz.f162:=Tryz.func162
theorem mT:aW Tryz.f162=false:=by kernel_rfl
abbrev AK:Nat:=163
theorem n5:Tryz.prog.funcs[163]?=some Tryz.f163:=Tryz.func163
theorem oi:aW Tryz.f163=false:=by kernel_rfl
abbrev Bz:Nat:=164
theorem oL:Tryz.prog.funcs[164]?=some Tryz.f164:=Tryz.func164
theorem nR:aW Tryz.f164=false:=by kernel_rfl
abbrev FP:Nat:=165
theorem r6:Tryz.prog.funcs[165]?=some Tryz.f165:=Tryz.func165
theorem sF:aW Tryz.f165=false:=by kernel_rfl
abbrev u3:Nat:=166
theorem rY:Tryz.prog.funcs[166]?=some Tryz.f166:=Tryz.func166
theorem tW:aW Tryz.f166=false:=by kernel_rfl
abbrev Fr:Nat:=167
theorem DE:Tryz.prog.funcs[167]?=some Tryz.f167:=Tryz.func167
theorem CT:aW Tryz.f167=false:=by kernel_rfl
abbrev HW:Nat:=168
theorem E8:Tryz.prog.funcs[168]?=some Tryz.f168:=Tryz.func168
theorem E9:aW Tryz.f168=false:=by kernel_rfl
abbrev xF:Nat:=169
theorem uC:Tryz.prog.funcs[169]?=some Tryz.f169:=Tryz.func169
theorem un:aW Tryz.f169=false:=by kernel_rfl
abbrev Gk:Nat:=170
theorem tf:Tryz.prog.funcs[170]?=some Tryz.f170:=Tryz.func170
theorem tp:aW Tryz.f170=false:=by kernel_rfl
abbrev zM:Nat:=171
theorem wX:Tryz.prog.funcs[171]?=some Tryz.f171:=Tryz.func171
theorem xz:aW Tryz.f171=false:=by kernel_rfl
abbrev Iv:Nat:=172
theorem vS:Tryz.prog.funcs[172]?=some Tryz.f172:=Tryz.func172
theorem vK:aW Tryz.f172=false:=by kernel_rfl
abbrev Ap:Nat:=174
theorem fC:Tryz.prog.funcs[174]?=some Tryz.f174:=Tryz.func174
theorem fE:aW Tryz.f174=false:=by kernel_rfl
abbrev zp:Nat:=175
theorem mA:Tryz.prog.funcs[175]?=some Tryz.f175:=Tryz.func175
theorem mO:aW Tryz.f175=false:=by kernel_rfl
abbrev KN:Nat:=177
theorem Hn:Tryz.prog.funcs[177]?=some Tryz.f177:=Tryz.func177
theorem Hi:aW Tryz.f177=false:=by kernel_rfl
abbrev D9:Nat:=189
theorem Ax:Tryz.prog.funcs[189]?=some Tryz.f189:=Tryz.func189
theorem AO:aW Tryz.f189=false:=by kernel_rfl
abbrev DI:Nat:=190
theorem BA:Tryz.prog.funcs[190]?=some Tryz.f190:=Tryz.func190
theorem Bj:aW Tryz.f190=false:=by kernel_rfl
abbrev n_i_holds:Nat:=191
theorem fn_i_holds:Tryz.prog.funcs[191]?=some Tryz.f191:=Tryz.func191
theorem nm_i_holds:aW Tryz.f191=false:=by kernel_rfl
abbrev zr:Nat:=192
theorem ip:Tryz.prog.funcs[192]?=some Tryz.f192:=Tryz.func192
theorem io:aW Tryz.f192=false:=by kernel_rfl
abbrev KU:Nat:=193
theorem jm:Tryz.prog.funcs[193]?=some Tryz.f193:=Tryz.func193
theorem jj:aW Tryz.f193=false:=by kernel_rfl
abbrev Iw:Nat:=194
theorem vR:Tryz.prog.funcs[194]?=some Tryz.f194:=Tryz.func194
theorem wB:aW Tryz.f194=false:=by kernel_rfl
abbrev lM:Nat:=200
theorem jE:Tryz.prog.funcs[200]?=some Tryz.f200:=Tryz.func200
theorem kj:aW Tryz.f200=false:=by kernel_rfl
abbrev AZ:Nat:=203
theorem zX:Tryz.prog.funcs[203]?=some Tryz.f203:=Tryz.func203
theorem zC:aW Tryz.f203=false:=by kernel_rfl
abbrev HZ:Nat:=204
theorem Ft:Tryz.prog.funcs[204]?=some Tryz.f204:=Tryz.func204
theorem Fq:aW Tryz.f204=false:=by kernel_rfl
abbrev KP:Nat:=213
theorem Ag:Tryz.prog.funcs[213]?=some Tryz.f213:=Tryz.func213
theorem z1:aW Tryz.f213=false:=by kernel_rfl
abbrev Au:Nat:=217
theorem pn:Tryz.prog.funcs[217]?=some Tryz.f217:=Tryz.func217
theorem pq:aW Tryz.f217=false:=by kernel_rfl
abbrev lL:Nat:=220
theorem tJ:Tryz.prog.funcs[220]?=some Tryz.f220:=Tryz.func220
theorem r2:aW Tryz.f220=false:=by kernel_rfl
abbrev IH:Nat:=221
theorem FU:Tryz.prog.funcs[221]?=some Tryz.f221:=Tryz.func221
theorem FH:aW Tryz.f221=false:=by kernel_rfl
abbrev Gq:Nat:=222
theorem tI:Tryz.prog.funcs[222]?=some Tryz.f222:=Tryz.func222
theorem sA:aW Tryz.f222=false:=by kernel_rfl
abbrev Gy:Nat:=223
theorem tq:Tryz.prog.funcs[223]?=some Tryz.f223:=Tryz.func223
theorem tP:aW Tryz.f223=false:=by kernel_rfl
abbrev GY:Nat:=224
theorem wM:Tryz.prog.funcs[224]?=some Tryz.f224:=Tryz.func224
theorem wn:aW Tryz.f224=false:=by kernel_rfl
abbrev FA:Nat:=225
theorem eh:Tryz.prog.funcs[225]?=some Tryz.f225:=Tryz.func225
theorem ew:aW Tryz.f225=false:=by kernel_rfl
abbrev G1:Nat:=226
theorem eT:Tryz.prog.funcs[226]?=some Tryz.f226:=Tryz.func226
theorem eR:aW Tryz.f226=false:=by kernel_rfl
abbrev H4:Nat:=227
theorem bZ:Tryz.prog.funcs[227]?=some Tryz.f227:=Tryz.func227
theorem bY:aW Tryz.f227=false:=by kernel_rfl
abbrev vp:Nat:=228
theorem rJ:Tryz.prog.funcs[228]?=some Tryz.f228:=Tryz.func228
theorem sf:aW Tryz.f228=false:=by kernel_rfl
abbrev uo:Nat:=229
theorem fY:Tryz.prog.funcs[229]?=some Tryz.f229:=Tryz.func229
theorem fU:aW Tryz.f229=false:=by kernel_rfl
abbrev Gf:Nat:=239
theorem iK:Tryz.prog.funcs[239]?=some Tryz.f239:=Tryz.func239
theorem iO:aW Tryz.f239=false:=by kernel_rfl
abbrev Dk:Nat:=240
theorem Av:Tryz.prog.funcs[240]?=some Tryz.f240:=Tryz.func240
theorem Bb:aW Tryz.f240=false:=by kernel_rfl
abbrev HD:Nat:=242
theorem wg:Tryz.prog.funcs[242]?=some Tryz.f242:=Tryz.func242
theorem wb:aW Tryz.f242=false:=by kernel_rfl
abbrev HV:Nat:=244
theorem GT:Tryz.prog.funcs[244]?=some Tryz.f244:=Tryz.func244
theorem FO:aW Tryz.f244=false:=by kernel_rfl
abbrev F7:Nat:=245
theorem DN:Tryz.prog.funcs[245]?=some Tryz.f245:=Tryz.func245
theorem DC:aW Tryz.f245=false:=by kernel_rfl
abbrev Ky:Nat:=253
theorem IO:Tryz.prog.funcs[253]?=some Tryz.f253:=Tryz.func253
theorem G6:aW Tryz.f253=false:=by kernel_rfl
abbrev FZ:Nat:=254
theorem Ds:Tryz.prog.funcs[254]?=some Tryz.f254:=Tryz.func254
theorem CY:aW Tryz.f254=false:=by kernel_rfl
abbrev LR:Nat:=255
theorem KA:Tryz.prog.funcs[255]?=some Tryz.f255:=Tryz.func255
theorem KO:aW Tryz.f255=false:=by kernel_rfl
abbrev He:Nat:=256
theorem Gz:Tryz.prog.funcs[256]?=some Tryz.f256:=Tryz.func256
theorem F0:aW Tryz.f256=false:=by kernel_rfl
abbrev qW:Nat:=257
theorem pN:Tryz.prog.funcs[257]?=some Tryz.f257:=Tryz.func257
theorem pO:aW Tryz.f257=false:=by kernel_rfl
abbrev HG:Nat:=270
theorem Fz:Tryz.prog.funcs[270]?=some Tryz.f270:=Tryz.func270
theorem GG:aW Tryz.f270=false:=by kernel_rfl
abbrev GW:Nat:=271
theorem s6:Tryz.prog.funcs[271]?=some Tryz.f271:=Tryz.func271
theorem s3:aW Tryz.f271=false:=by kernel_rfl
abbrev FT:Nat:=272
theorem tY:Tryz.prog.funcs[272]?=some Tryz.f272:=Tryz.func272
theorem rT:aW Tryz.f272=false:=by kernel_rfl
abbrev FG:Nat:=273
theorem sH:Tryz.prog.funcs[273]?=some Tryz.f273:=Tryz.func273
theorem sU:aW Tryz.f273=false:=by kernel_rfl
abbrev EE:Nat:=274
theorem Bx:Tryz.prog.funcs[274]?=some Tryz.f274:=Tryz.func274
theorem AV:aW Tryz.f274=false:=by kernel_rfl
abbrev KB:Nat:=275
theorem G2:Tryz.prog.funcs[275]?=some Tryz.f275:=Tryz.func275
theorem HR:aW Tryz.f275=false:=by kernel_rfl
abbrev HJ:Nat:=276
theorem oI:Tryz.prog.funcs[276]?=some Tryz.f276:=Tryz.func276
theorem nP:aW Tryz.f276=false:=by kernel_rfl
abbrev Bh:Nat:=286
theorem ym:Tryz.prog.funcs[286]?=some Tryz.f286:=Tryz.func286
theorem zL:aW Tryz.f286=false:=by kernel_rfl
abbrev FN:Nat:=288
theorem Eo:Tryz.prog.funcs[288]?=some Tryz.f288:=Tryz.func288
theorem Dl:aW Tryz.f288=false:=by kernel_rfl
abbrev EW:Nat:=289
theorem s9:Tryz.prog.funcs[289]?=some Tryz.f289:=Tryz.func289
theorem sR:aW Tryz.f289=false:=by kernel_rfl
abbrev Il:Nat:=290
theorem eH:Tryz.prog.funcs[290]?=some Tryz.f290:=Tryz.func290
theorem eO:aW Tryz.f290=false:=by kernel_rfl
abbrev HH:Nat:=302
theorem vI:Tryz.prog.funcs[302]?=some Tryz.f302:=Tryz.func302
theorem wq:aW Tryz.f302=false:=by kernel_rfl
abbrev Kr:Nat:=303
theorem IC:Tryz.prog.funcs[303]?=some Tryz.f303:=Tryz.func303
theorem Ho:aW Tryz.f303=false:=by kernel_rfl
abbrev Kg:Nat:=307
theorem Iy:Tryz.prog.funcs[307]?=some Tryz.f307:=Tryz.func307
theorem Iu:aW Tryz.f307=false:=by kernel_rfl
abbrev HP:Nat:=308
theorem Fd:Tryz.prog.funcs[308]?=some Tryz.f308:=Tryz.func308
theorem Fp:aW Tryz.f308=false:=by kernel_rfl
abbrev ER:Nat:=309
theorem tm:Tryz.prog.funcs[309]?=some Tryz.f309:=Tryz.func309
theorem tM:aW Tryz.f309=false:=by kernel_rfl
abbrev HN:Nat:=310
theorem FX:Tryz.prog.funcs[310]?=some Tryz.f310:=Tryz.func310
theorem GP:aW Tryz.f310=false:=by kernel_rfl
abbrev Ey:Nat:=311
theorem Bn:Tryz.prog.funcs[311]?=some Tryz.f311:=Tryz.func311
theorem Be:aW Tryz.f311=false:=by kernel_rfl
abbrev Fk:Nat:=312
theorem DV:Tryz.prog.funcs[312]?=some Tryz.f312:=Tryz.func312
theorem EC:aW Tryz.f312=false:=by kernel_rfl
abbrev Ig:Nat:=313
theorem od:Tryz.prog.funcs[313]?=some Tryz.f313:=Tryz.func313
theorem pd:aW Tryz.f313=false:=by kernel_rfl
abbrev HM:Nat:=328
theorem v7:Tryz.prog.funcs[328]?=some Tryz.f328:=Tryz.func328
theorem vW:aW Tryz.f328=false:=by kernel_rfl
abbrev AW:Nat:=329
theorem nO:Tryz.prog.funcs[329]?=some Tryz.f329:=Tryz.func329
theorem nM:aW Tryz.f329=false:=by kernel_rfl
abbrev Fe:Nat:=330
theorem En:Tryz.prog.funcs[330]?=some Tryz.f330:=Tryz.func330
theorem DT:aW Tryz.f330=false:=by kernel_rfl

end Go.Proofs.YtgllldjiaglkcaaGreatDoor
