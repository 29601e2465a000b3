/- Made by program: names for the numbers of functions and types, and closed facts on them. -/
import Derived.Test.YtgllldjiaglkcaaGreatDoorZMpS
import Derived.Test.YtgllldjiaglkcaaGreatDoorProg
import Derived.KernelRfl
namespace Go.Proofs.YtgllldjiaglkcaaGreatDoor
open Go
abbrev bh (f:Func):Bool:=f.name == "runtime.NumGoroutine" || f.body.isNone
abbrev bV:Nat:=3
theorem aG:jI Tryz.prog 3=true:=by kernel_rfl
theorem Ri:fL Tryz.prog 3=some (.int .i64 0):=by kernel_rfl
theorem fK:Tryz.prog.underlying 3=some (.int .i64):=by kernel_rfl
abbrev MF:Nat:=4
theorem Ma:jI Tryz.prog 4=true:=by kernel_rfl
theorem E9:Tryz.prog.underlying 4=some .bool:=by kernel_rfl
abbrev ND:Nat:=5
theorem G3:jI Tryz.prog 5=true:=by kernel_rfl
theorem gY:Tryz.prog.underlying 5=some (.int .u8):=by kernel_rfl
abbrev g9:Nat:=9
theorem aU:jI Tryz.prog 9=true:=by kernel_rfl
theorem ba:Tryz.prog.underlying 9=some .string:=by kernel_rfl
abbrev OJ:Nat:=22
theorem jo:jI Tryz.prog 22=true:=by kernel_rfl
theorem Cz:mU Tryz.prog 22=some (5,1,1,(.int .u8 0)):=by kernel_rfl
theorem ec:cG Tryz.prog 22=some (5,1):=by kernel_rfl
theorem td:jI Tryz.prog 23=true:=by kernel_rfl
theorem ld:mU Tryz.prog 23=some (33,5,80,(.agg #[(.int .i64 0),(.int .i64 0),(.string ⟨#[]⟩),(.slice none 0 0),(.slice none 0 0)])):=by kernel_rfl
theorem b0:cG Tryz.prog 23=some (33,5):=by kernel_rfl
abbrev cA:Nat:=29
theorem aj:jI Tryz.prog 29=true:=by kernel_rfl
theorem bo:mU Tryz.prog 29=some (31,4,56,(.agg #[(.int .i64 0),(.int .i64 0),(.string ⟨#[]⟩),(.slice none 0 0)])):=by kernel_rfl
theorem ag:cG Tryz.prog 29=some (31,4):=by kernel_rfl
abbrev ab:Nat:=31
theorem ad:sa Tryz.prog 31=some 4:=by kernel_rfl
theorem aZ:fL Tryz.prog 31=some (.agg #[(.int .i64 0),(.int .i64 0),(.string ⟨#[]⟩),(.slice none 0 0)]):=by kernel_rfl
theorem aR:bG Tryz.prog 31 0=some 0:=by kernel_rfl
theorem bf:bG Tryz.prog 31 1=some 1:=by kernel_rfl
theorem bb:bG Tryz.prog 31 2=some 2:=by kernel_rfl
theorem ao:bG Tryz.prog 31 3=some 3:=by kernel_rfl
abbrev aq:Nat:=33
theorem bx:sa Tryz.prog 33=some 5:=by kernel_rfl
theorem eI:fL Tryz.prog 33=some (.agg #[(.int .i64 0),(.int .i64 0),(.string ⟨#[]⟩),(.slice none 0 0),(.slice none 0 0)]):=by kernel_rfl
theorem cE:bG Tryz.prog 33 0=some 0:=by kernel_rfl
theorem bj:bG Tryz.prog 33 1=some 4:=by kernel_rfl
theorem Ok:mU Tryz.prog 34=some (57,1,24,(.agg #[(.slice none 0 0)])):=by kernel_rfl
theorem oi:cG Tryz.prog 34=some (57,1):=by kernel_rfl
theorem g8:jI Tryz.prog 45=true:=by kernel_rfl
theorem FA:mU Tryz.prog 45=some (47,6,88,(.agg #[(.int .i64 0),(.int .i64 0),(.string ⟨#[]⟩),(.slice none 0 0),(.int .i64 0),(.slice none 0 0)])):=by kernel_rfl
theorem ic:cG Tryz.prog 45=some (47,6):=by kernel_rfl
abbrev aK:Nat:=47
theorem cM:sa Tryz.prog 47=some 6:=by kernel_rfl
theorem pl:fL Tryz.prog 47=some (.agg #[(.int .i64 0),(.int .i64 0),(.string ⟨#[]⟩),(.slice none 0 0),(.int .i64 0),(.slice none 0 0)]):=by kernel_rfl
theorem ib:bG Tryz.prog 47 0=some 0:=by kernel_rfl
theorem jl:bG Tryz.prog 47 1=some 4:=by kernel_rfl
theorem fH:bG Tryz.prog 47 2=some 5:=by kernel_rfl
abbrev fp:Nat:=57
theorem Hn:sa Tryz.prog 57=some 1:=by kernel_rfl
theorem Rq:fL Tryz.prog 57=some (.agg #[(.slice none 0 0)]):=by kernel_rfl
theorem yN:bG Tryz.prog 57 0=some 0:=by kernel_rfl
abbrev K5:Nat:=69
theorem FO:mU Tryz.prog 69=some (9,1,16,(.string ⟨#[]⟩)):=by kernel_rfl
theorem cR:cG Tryz.prog 69=some (9,1):=by kernel_rfl
abbrev kw:Nat:=81
theorem il:jI Tryz.prog 81=true:=by kernel_rfl
theorem TB:fL Tryz.prog 81=some (.slice none 0 0):=by kernel_rfl
theorem kF:mU Tryz.prog 81=some (3,1,8,(.int .i64 0)):=by kernel_rfl
theorem dd:cG Tryz.prog 81=some (3,1):=by kernel_rfl
abbrev dq:Nat:=85
theorem HN:sa Tryz.prog 85=some 2:=by kernel_rfl
theorem Xs:fL Tryz.prog 85=some (.agg #[(.string ⟨#[]⟩),(.int .i64 0)]):=by kernel_rfl
abbrev mc:Nat:=94
theorem fh:jI Tryz.prog 94=true:=by kernel_rfl
theorem dC:jI Tryz.prog 95=true:=by kernel_rfl
theorem eD:jI Tryz.prog 96=true:=by kernel_rfl
theorem Dt:mU Tryz.prog 96=some (194,9,112,(.agg #[(.int .i64 0),(.int .i64 0),(.string ⟨#[]⟩),(.slice none 0 0),(.int .i64 0),(.pointer none),(.slice none 0 0),(.int .i64 0),(.int .i64 0)])):=by kernel_rfl
theorem gP:cG Tryz.prog 96=some (194,9):=by kernel_rfl
theorem gC:jI Tryz.prog 97=true:=by kernel_rfl
theorem JV:mU Tryz.prog 97=some (102,6,72,(.agg #[(.int .i64 0),(.int .i64 0),(.string ⟨#[]⟩),(.slice none 0 0),(.int .i64 0),(.int .i64 0)])):=by kernel_rfl
theorem gA:cG Tryz.prog 97=some (102,6):=by kernel_rfl
abbrev pB:Nat:=99
theorem fC:bG Tryz.prog 99 0=some 0:=by kernel_rfl
theorem qV:bG Tryz.prog 99 1=some 1:=by kernel_rfl
theorem LU:bG Tryz.prog 99 2=some 2:=by kernel_rfl
theorem Ne:bG Tryz.prog 99 3=some 3:=by kernel_rfl
theorem yK:bG Tryz.prog 99 4=some 4:=by kernel_rfl
theorem Nd:bG Tryz.prog 99 5=some 5:=by kernel_rfl
theorem qC:bG Tryz.prog 99 6=some 6:=by kernel_rfl
theorem qr:bG Tryz.prog 99 7=some 7:=by kernel_rfl
theorem gq:bG Tryz.prog 99 8=some 8:=by kernel_rfl
theorem dY:bG Tryz.prog 99 9=some 9:=by kernel_rfl
theorem dS:bG Tryz.prog 99 10=some 10:=by kernel_rfl
theorem v6:bG Tryz.prog 99 11=some 11:=by kernel_rfl
abbrev iY:Nat:=102
theorem Pn:sa Tryz.prog 102=some 6:=by kernel_rfl
theorem Wa:fL Tryz.prog 102=some (.agg #[(.int .i64 0),(.int .i64 0),(.string ⟨#[]⟩),(.slice none 0 0),(.int .i64 0),(.int .i64 0)]):=by kernel_rfl
theorem SL:bG Tryz.prog 102 0=some 0:=by kernel_rfl
theorem R8:bG Tryz.prog 102 1=some 4:=by kernel_rfl
theorem H0:bG Tryz.prog 102 2=some 5:=by kernel_rfl
abbrev Qf:Nat:=127
theorem fX:bG Tryz.prog 127 0=some 0:=by kernel_rfl
theorem sV:bG Tryz.prog 127 1=some 1:=by kernel_rfl
abbrev lk:Nat:=146
theorem HW:bG Tryz.prog 146 0=some 0:=by kernel_rfl
theorem FP:bG Tryz.prog 146 1=some 4:=by kernel_rfl
theorem FT:bG Tryz.prog 146 2=some 5:=by kernel_rfl
theorem nf:bG Tryz.prog 146 3=some 6:=by kernel_rfl
abbrev iB:Nat:=151
theorem uS:jI Tryz.prog 151=true:=by kernel_rfl
theorem wh:jI Tryz.prog 158=true:=by kernel_rfl
theorem eA:Tryz.prog.underlying 158=some (.map 3 31):=by kernel_rfl
theorem Vv:mU Tryz.prog 163=some (248,5,64,(.agg #[(.int .i64 0),(.int .i64 0),(.int .i64 0),(.string ⟨#[]⟩),(.slice none 0 0)])):=by kernel_rfl
theorem Vf:cG Tryz.prog 163=some (248,5):=by kernel_rfl
abbrev cQ:Nat:=177
theorem oH:bG Tryz.prog 177 0=some 0:=by kernel_rfl
theorem f4:bG Tryz.prog 177 1=some 1:=by kernel_rfl
abbrev ez:Nat:=194
theorem Gt:sa Tryz.prog 194=some 9:=by kernel_rfl
theorem RG:fL Tryz.prog 194=some (.agg #[(.int .i64 0),(.int .i64 0),(.string ⟨#[]⟩),(.slice none 0 0),(.int .i64 0),(.pointer none),(.slice none 0 0),(.int .i64 0),(.int .i64 0)]):=by kernel_rfl
theorem Nr:bG Tryz.prog 194 0=some 0:=by kernel_rfl
theorem Mq:bG Tryz.prog 194 1=some 4:=by kernel_rfl
theorem LZ:bG Tryz.prog 194 2=some 5:=by kernel_rfl
theorem L0:bG Tryz.prog 194 3=some 6:=by kernel_rfl
theorem L7:bG Tryz.prog 194 4=some 7:=by kernel_rfl
theorem LR:bG Tryz.prog 194 5=some 8:=by kernel_rfl
abbrev jh:Nat:=226
abbrev nC:Nat:=248
abbrev c9:Nat:=5
abbrev Vq:Nat:=12
theorem Ss:Tryz.prog.funcs[12]?=some Tryz.f12:=Tryz.func12
theorem R0:bh Tryz.f12=false:=by kernel_rfl
abbrev xp:Nat:=18
theorem ve:Tryz.prog.funcs[18]?=some Tryz.f18:=Tryz.func18
theorem u9:bh Tryz.f18=false:=by kernel_rfl
abbrev F5:Nat:=19
theorem EA:Tryz.prog.funcs[19]?=some Tryz.f19:=Tryz.func19
theorem Eh:bh Tryz.f19=false:=by kernel_rfl
abbrev Ge:Nat:=20
theorem El:Tryz.prog.funcs[20]?=some Tryz.f20:=Tryz.func20
theorem Ex:bh Tryz.f20=false:=by kernel_rfl
abbrev N0:Nat:=21
theorem AG:Tryz.prog.funcs[21]?=some Tryz.f21:=Tryz.func21
theorem yq:bh Tryz.f21=false:=by kernel_rfl
abbrev Jl:Nat:=22
theorem G0:Tryz.prog.funcs[22]?=some Tryz.f22:=Tryz.func22
theorem Gm:bh Tryz.f22=false:=by kernel_rfl
abbrev lS:Nat:=23
theorem iH:Tryz.prog.funcs[23]?=some Tryz.f23:=Tryz.func23
theorem iL:bh Tryz.f23=false:=by kernel_rfl
abbrev Jb:Nat:=25
theorem mX:Tryz.prog.funcs[25]?=some Tryz.f25:=Tryz.func25
theorem mL:bh Tryz.f25=false:=by kernel_rfl
abbrev IY:Nat:=26
theorem Gj:Tryz.prog.funcs[26]?=some Tryz.f26:=Tryz.func26
theorem HK:bh Tryz.f26=false:=by kernel_rfl
abbrev Fm:Nat:=31
theorem ER:Tryz.prog.funcs[31]?=some Tryz.f31:=Tryz.func31
theorem EO:bh Tryz.f31=false:=by kernel_rfl
abbrev A8:Nat:=33
theorem gK:Tryz.prog.funcs[33]?=some Tryz.f33:=Tryz.func33
theorem gM:bh Tryz.f33=false:=by kernel_rfl
abbrev Ti:Nat:=34
theorem fu:Tryz.prog.funcs[34]?=some Tryz.f34:=Tryz.func34
theorem fD:bh Tryz.f34=false:=by kernel_rfl
abbrev Bp:Nat:=37
theorem oo:Tryz.prog.funcs[37]?=some Tryz.f37:=Tryz.func37
theorem nD:bh Tryz.f37=false:=by kernel_rfl
abbrev UL:Nat:=40
theorem QO:Tryz.prog.funcs[40]?=some Tryz.f40:=Tryz.func40
theorem Sv:bh Tryz.f40=false:=by kernel_rfl
abbrev Pk:Nat:=42
theorem qy:Tryz.prog.funcs[42]?=some Tryz.f42:=Tryz.func42
theorem ra:bh Tryz.f42=false:=by kernel_rfl
abbrev vw:Nat:=43
theorem gW:Tryz.prog.funcs[43]?=some Tryz.f43:=Tryz.func43
theorem gZ:bh Tryz.f43=false:=by kernel_rfl
abbrev pq:Nat:=44
theorem iJ:Tryz.prog.funcs[44]?=some Tryz.f44:=Tryz.func44
theorem iQ:bh Tryz.f44=false:=by kernel_rfl
abbrev jQ:Nat:=46
theorem d5:Tryz.prog.funcs[46]?=some Tryz.f46:=Tryz.func46
theorem d4:bh Tryz.f46=false:=by kernel_rfl
abbrev PK:Nat:=47
theorem Nw:Tryz.prog.funcs[47]?=some Tryz.f47:=Tryz.func47
theorem MR:bh Tryz.f47=false:=by kernel_rfl
abbrev Fq:Nat:=49
theorem cP:Tryz.prog.funcs[49]?=some Tryz.f49:=Tryz.func49
theorem cO:bh Tryz.f49=false:=by kernel_rfl
abbrev EM:Nat:=50
theorem Cj:Tryz.prog.funcs[50]?=some Tryz.f50:=Tryz.func50
theorem BQ:bh Tryz.f50=false:=by kernel_rfl
abbrev JH:Nat:=51
theorem Fz:Tryz.prog.funcs[51]?=some Tryz.f51:=Tryz.func51
theorem GV:bh Tryz.f51=false:=by kernel_rfl
abbrev IF:Nat:=52
theorem g5:Tryz.prog.funcs[52]?=some Tryz.f52:=Tryz.func52
theorem gN:bh Tryz.f52=false:=by kernel_rfl
abbrev Ij:Nat:=54
theorem Eo:Tryz.prog.funcs[54]?=some Tryz.f54:=Tryz.func54
theorem Ed:bh Tryz.f54=false:=by kernel_rfl
abbrev VT:Nat:=55
theorem Kd:Tryz.prog.funcs[55]?=some Tryz.f55:=Tryz.func55
theorem KM:bh Tryz.f55=false:=by kernel_rfl
abbrev vu:Nat:=61
theorem ux:Tryz.prog.funcs[61]?=some Tryz.f61:=Tryz.func61
theorem tW:bh Tryz.f61=false:=by kernel_rfl
abbrev Hy:Nat:=62
theorem EW:Tryz.prog.funcs[62]?=some Tryz.f62:=Tryz.func62
theorem Ev:bh Tryz.f62=false:=by kernel_rfl
abbrev GF:Nat:=63
theorem EI:Tryz.prog.funcs[63]?=some Tryz.f63:=Tryz.func63
theorem Ez:bh Tryz.f63=false:=by kernel_rfl
abbrev IB:Nat:=64
theorem tU:Tryz.prog.funcs[64]?=some Tryz.f64:=Tryz.func64
theorem tj:bh Tryz.f64=false:=by kernel_rfl
abbrev Ey:Nat:=65
theorem pf:Tryz.prog.funcs[65]?=some Tryz.f65:=Tryz.func65
theorem pC:bh Tryz.f65=false:=by kernel_rfl
abbrev nO:Nat:=66
theorem gi:Tryz.prog.funcs[66]?=some Tryz.f66:=Tryz.func66
theorem gt:bh Tryz.f66=false:=by kernel_rfl
abbrev NP:Nat:=67
theorem zk:Tryz.prog.funcs[67]?=some Tryz.f67:=Tryz.func67
theorem yQ:bh Tryz.f67=false:=by kernel_rfl
abbrev FY:Nat:=68
theorem rQ:Tryz.prog.funcs[68]?=some Tryz.f68:=Tryz.func68
theorem rl:bh Tryz.f68=false:=by kernel_rfl
abbrev wZ:Nat:=69
theorem vk:Tryz.prog.funcs[69]?=some Tryz.f69:=Tryz.func69
theorem vg:bh Tryz.f69=false:=by kernel_rfl
abbrev HC:Nat:=70
theorem ET:Tryz.prog.funcs[70]?=some Tryz.f70:=Tryz.func70
theorem EE:bh Tryz.f70=false:=by kernel_rfl
abbrev Lx:Nat:=71
theorem wv:Tryz.prog.funcs[71]?=some Tryz.f71:=Tryz.func71
theorem wj:bh Tryz.f71=false:=by kernel_rfl
abbrev Je:Nat:=73
theorem mw:Tryz.prog.funcs[73]?=some Tryz.f73:=Tryz.func73
theorem nl:bh Tryz.f73=false:=by kernel_rfl
abbrev OL:Nat:=74
theorem jy:Tryz.prog.funcs[74]?=some Tryz.f74:=Tryz.func74
theorem jx:bh Tryz.f74=false:=by kernel_rfl
abbrev UN:Nat:=75
theorem ml:Tryz.prog.funcs[75]?=some Tryz.f75:=Tryz.func75
theorem mu:bh Tryz.f75=false:=by kernel_rfl
abbrev Tg:Nat:=77
theorem n8:Tryz.prog.funcs[77]?=some Tryz.f77:=Tryz.func77
theorem oE:bh Tryz.f77=false:=by kernel_rfl
abbrev uy:Nat:=78
theorem im:Tryz.prog.funcs[78]?=some Tryz.f78:=Tryz.func78
theorem ie:bh Tryz.f78=false:=by kernel_rfl
abbrev Ju:Nat:=80
theorem sK:Tryz.prog.funcs[80]?=some Tryz.f80:=Tryz.func80
theorem tA:bh Tryz.f80=false:=by kernel_rfl
abbrev DI:Nat:=82
theorem qF:Tryz.prog.funcs[82]?=some Tryz.f82:=Tryz.func82
theorem qT:bh Tryz.f82=false:=by kernel_rfl
abbrev H3:Nat:=84
theorem En:Tryz.prog.funcs[84]?=some Tryz.f84:=Tryz.func84
theorem Ef:bh Tryz.f84=false:=by kernel_rfl
abbrev Gu:Nat:=89
theorem EU:Tryz.prog.funcs[89]?=some Tryz.f89:=Tryz.func89
theorem EL:bh Tryz.f89=false:=by kernel_rfl
abbrev SA:Nat:=90
theorem CK:Tryz.prog.funcs[90]?=some Tryz.f90:=Tryz.func90
theorem Dy:bh Tryz.f90=false:=by kernel_rfl
abbrev mJ:Nat:=93
theorem vq:Tryz.prog.funcs[93]?=some Tryz.f93:=Tryz.func93
theorem vi:bh Tryz.f93=false:=by kernel_rfl
abbrev ES:Nat:=94
theorem Cx:Tryz.prog.funcs[94]?=some Tryz.f94:=Tryz.func94
theorem BR:bh Tryz.f94=false:=by kernel_rfl
abbrev Er:Nat:=96
theorem pY:Tryz.prog.funcs[96]?=some Tryz.f96:=Tryz.func96
theorem pQ:bh Tryz.f96=false:=by kernel_rfl
abbrev GT:Nat:=97
theorem CZ:Tryz.prog.funcs[97]?=some Tryz.f97:=Tryz.func97
theorem DL:bh Tryz.f97=false:=by kernel_rfl
abbrev LQ:Nat:=98
theorem Jv:Tryz.prog.funcs[98]?=some Tryz.f98:=Tryz.func98
theorem Ja:bh Tryz.f98=false:=by kernel_rfl
abbrev Hv:Nat:=99
theorem EG:Tryz.prog.funcs[99]?=some Tryz.f99:=Tryz.func99
theorem Ei:bh Tryz.f99=false:=by kernel_rfl
abbrev DC:Nat:=100
theorem Mt:Tryz.prog.funcs[100]?=some Tryz.f100:=Tryz.func100
theorem LK:bh Tryz.f100=false:=by kernel_rfl
abbrev IJ:Nat:=101
theorem ui:Tryz.prog.funcs[101]?=some Tryz.f101:=Tryz.func101
theorem s4:bh Tryz.f101=false:=by kernel_rfl
abbrev WL:Nat:=102
theorem Vd:Tryz.prog.funcs[102]?=some Tryz.f102:=Tryz.func102
theorem VA:bh Tryz.f102=false:=by kernel_rfl
abbrev BE:Nat:=103
theorem zn:Tryz.prog.funcs[103]?=some Tryz.f103:=Tryz.func103
theorem Aj:bh Tryz.f103=false:=by kernel_rfl
abbrev sY:Nat:=104
theorem si:Tryz.prog.funcs[104]?=some Tryz.f104:=Tryz.func104
theorem se:bh Tryz.f104=false:=by kernel_rfl
abbrev my:Nat:=105
theorem lD:Tryz.prog.funcs[105]?=some Tryz.f105:=Tryz.func105
theorem lM:bh Tryz.f105=false:=by kernel_rfl
abbrev pg:Nat:=107
theorem om:Tryz.prog.funcs[107]?=some Tryz.f107:=Tryz.func107
theorem og:bh Tryz.f107=false:=by kernel_rfl
abbrev MH:Nat:=110
theorem Jm:Tryz.prog.funcs[110]?=some Tryz.f110:=Tryz.func110
theorem Jw:bh Tryz.f110=false:=by kernel_rfl
abbrev zd:Nat:=111
theorem dT:Tryz.prog.funcs[111]?=some Tryz.f111:=Tryz.func111
theorem dP:bh Tryz.f111=false:=by kernel_rfl
abbrev Ql:Nat:=112
theorem M7:Tryz.prog.funcs[112]?=some Tryz.f112:=Tryz.func112
theorem Nk:bh Tryz.f112=false:=by kernel_rfl
abbrev Cs:Nat:=115
theorem nt:Tryz.prog.funcs[115]?=some Tryz.f115:=Tryz.func115
theorem nS:bh Tryz.f115=false:=by kernel_rfl
abbrev s3:Nat:=116
theorem sq:Tryz.prog.funcs[116]?=some Tryz.f116:=Tryz.func116
theorem sm:bh Tryz.f116=false:=by kernel_rfl
abbrev Lv:Nat:=118
theorem wq:Tryz.prog.funcs[118]?=some Tryz.f118:=Tryz.func118
theorem wl:bh Tryz.f118=false:=by kernel_rfl
abbrev LH:Nat:=120
theorem oM:Tryz.prog.funcs[120]?=some Tryz.f120:=Tryz.func120
theorem oR:bh Tryz.f120=false:=by kernel_rfl
abbrev EZ:Nat:=121
theorem eW:Tryz.prog.funcs[121]?=some Tryz.f121:=Tryz.func121
theorem eX:bh Tryz.f121=false:=by kernel_rfl
abbrev Rs:Nat:=129
theorem Pi:Tryz.prog.funcs[129]?=some Tryz.f129:=Tryz.func129
theorem Qm:bh Tryz.f129=false:=by kernel_rfl
abbrev EV:Nat:=130
theorem BX:Tryz.prog.funcs[130]?=some Tryz.f130:=Tryz.func130
theorem AR:bh Tryz.f130=false:=by kernel_rfl
abbrev NE:Nat:=131
theorem IP:Tryz.prog.funcs[131]?=some Tryz.f131:=Tryz.func131
theorem Jd:bh Tryz.f131=false:=by kernel_rfl
abbrev Oz:Nat:=132
theorem MD:Tryz.prog.funcs[132]?=some Tryz.f132:=Tryz.func132
theorem M3:bh Tryz.f132=false:=by kernel_rfl
abbrev YD:Nat:=133
theorem PV:Tryz.prog.funcs[133]?=some Tryz.f133:=Tryz.func133
theorem PW:bh Tryz.f133=false:=by kernel_rfl
abbrev F9:Nat:=134
theorem rq:Tryz.prog.funcs[134]?=some Tryz.f134:=Tryz.func134
theorem rZ:bh Tryz.f134=false:=by kernel_rfl
abbrev EY:Nat:=135
theorem jV:Tryz.prog.funcs[135]?=some Tryz.f135:=Tryz.func135
theorem j7:bh Tryz.f135=false:=by kernel_rfl
abbrev UW:Nat:=136
theorem Rz:Tryz.prog.funcs[136]?=some Tryz.f136:=Tryz.func136
theorem Rv:bh Tryz.f136=false:=by kernel_rfl
abbrev Gh:Nat:=138
theorem r3:Tryz.prog.funcs[138]?=some Tryz.f138:=Tryz.func138
theorem rU:bh Tryz.f138=false:=by kernel_rfl
abbrev vx:Nat:=139
theorem kL:Tryz.prog.funcs[139]?=some Tryz.f139:=Tryz.func139
theorem kO:bh Tryz.f139=false:=by kernel_rfl
abbrev TL:Nat:=140
theorem HA:Tryz.prog.funcs[140]?=some Tryz.f140:=Tryz.func140
theorem G9:bh Tryz.f140=false:=by kernel_rfl
abbrev ij:Nat:=141
theorem AK:Tryz.prog.funcs[141]?=some Tryz.f141:=Tryz.func141
theorem zH:bh Tryz.f141=false:=by kernel_rfl
abbrev Mb:Nat:=142
theorem Js:Tryz.prog.funcs[142]?=some Tryz.f142:=Tryz.func142
theorem JK:bh Tryz.f142=false:=by kernel_rfl
abbrev xJ:Nat:=143
theorem fy:Tryz.prog.funcs[143]?=some Tryz.f143:=Tryz.func143
theorem fB:bh Tryz.f143=false:=by kernel_rfl
abbrev LL:Nat:=144
theorem kC:Tryz.prog.funcs[144]?=some Tryz.f144:=Tryz.func144
theorem kD:bh Tryz.f144=false:=by kernel_rfl
abbrev UM:Nat:=145
theorem xl:Tryz.prog.funcs[145]?=some Tryz.f145:=Tryz.func145
theorem xN:bh Tryz.f145=false:=by kernel_rfl
abbrev X4:Nat:=148
theorem KB:Tryz.prog.funcs[148]?=some Tryz.f148:=Tryz.func148
theorem KA:bh Tryz.f148=false:=by kernel_rfl
abbrev Sj:Nat:=149
theorem Dx:Tryz.prog.funcs[149]?=some Tryz.f149:=Tryz.func149
theorem D1:bh Tryz.f149=false:=by kernel_rfl
abbrev Gz:Nat:=150
theorem EP:Tryz.prog.funcs[150]?=some Tryz.f150:=Tryz.func150
theorem ED:bh Tryz.f150=false:=by kernel_rfl
abbrev Pr:Nat:=151
theorem qL:Tryz.prog.funcs[151]?=some Tryz.f151:=Tryz.func151
theorem qO:bh Tryz.f151=false:=by kernel_rfl
abbrev Lw:Nat:=153
theorem iO:Tryz.prog.funcs[153]?=some Tryz.f153:=Tryz.func153
theorem iU:bh Tryz.f153=false:=by kernel_rfl
abbrev R4:Nat:=156
theorem nI:Tryz.prog.funcs[156]?=some Tryz.f156:=Tryz.func156
theorem nK:bh Tryz.f156=false:=by kernel_rfl
abbrev IR:Nat:=157
theorem uJ:Tryz.prog.funcs[157]?=some Tryz.f157:=Tryz.func157
theorem tE:bh Tryz.f157=false:=by kernel_rfl
abbrev EJ:Nat:=158
theorem Bt:Tryz.prog.funcs[158]?=some Tryz.f158:=Tryz.func158
theorem Ck:bh Tryz.f158=false:=by kernel_rfl
abbrev F1:Nat:=162
theorem rB:Tryz.prog.funcs[162]?=some Tryz.f162:=Tryz.func162
theorem rA:bh Tryz.f162=false:=by kernel_rfl
abbrev IV:Nat:=163
theorem GP:Tryz.prog.funcs[163]?=some Tryz.f163:=Tryz.func163
theorem HD:bh Tryz.f163=false:=by kernel_rfl
abbrev Jt:Nat:=164
theorem sP:Tryz.prog.funcs[164]?=some Tryz.f164:=Tryz.func164
theorem ug:bh Tryz.f164=false:=by kernel_rfl
abbrev Qc:Nat:=165
theorem qP:Tryz.prog.funcs[165]?=some Tryz.f165:=Tryz.func165
theorem re:bh Tryz.f165=false:=by kernel_rfl
abbrev Bn:Nat:=166
theorem y0:Tryz.prog.funcs[166]?=some Tryz.f166:=Tryz.func166
theorem ye:bh Tryz.f166=false:=by kernel_rfl
abbrev Pg:Nat:=167
theorem MG:Tryz.prog.funcs[167]?=some Tryz.f167:=Tryz.func167
theorem Md:bh Tryz.f167=false:=by kernel_rfl
abbrev R2:Nat:=168
theorem NX:Tryz.prog.funcs[168]?=some Tryz.f168:=Tryz.func168
theorem Px:bh Tryz.f168=false:=by kernel_rfl
abbrev EQ:Nat:=169
theorem Bm:Tryz.prog.funcs[169]?=some Tryz.f169:=Tryz.func169
theorem Cd:bh Tryz.f169=false:=by kernel_rfl
abbrev Pa:Nat:=170
theorem Nz:Tryz.prog.funcs[170]?=some Tryz.f170:=Tryz.func170
theorem Ms:bh Tryz.f170=false:=by kernel_rfl
abbrev Sq:Nat:=172
theorem Ea:Tryz.prog.funcs[172]?=some Tryz.f172:=Tryz.func172
theorem DU:bh Tryz.f172=false:=by kernel_rfl
abbrev AA:Nat:=173
theorem xt:Tryz.prog.funcs[173]?=some Tryz.f173:=Tryz.func173
theorem xf:bh Tryz.f173=false:=by kernel_rfl
abbrev FG:Nat:=174
theorem iV:Tryz.prog.funcs[174]?=some Tryz.f174:=Tryz.func174
theorem iX:bh Tryz.f174=false:=by kernel_rfl
abbrev Fv:Nat:=175
theorem rz:Tryz.prog.funcs[175]?=some Tryz.f175:=Tryz.func175
theorem r2:bh Tryz.f175=false:=by kernel_rfl
abbrev UR:Nat:=177
theorem QT:Tryz.prog.funcs[177]?=some Tryz.f177:=Tryz.func177
theorem RU:bh Tryz.f177=false:=by kernel_rfl
abbrev Th:Nat:=183
theorem uj:Tryz.prog.funcs[183]?=some Tryz.f183:=Tryz.func183
theorem uh:bh Tryz.f183=false:=by kernel_rfl
abbrev Et:Nat:=185
theorem Cv:Tryz.prog.funcs[185]?=some Tryz.f185:=Tryz.func185
theorem BN:bh Tryz.f185=false:=by kernel_rfl
abbrev VG:Nat:=186
theorem Ru:Tryz.prog.funcs[186]?=some Tryz.f186:=Tryz.func186
theorem Sl:bh Tryz.f186=false:=by kernel_rfl
abbrev Is:Nat:=187
theorem FX:Tryz.prog.funcs[187]?=some Tryz.f187:=Tryz.func187
theorem FN:bh Tryz.f187=false:=by kernel_rfl
abbrev LP:Nat:=188
theorem JP:Tryz.prog.funcs[188]?=some Tryz.f188:=Tryz.func188
theorem JB:bh Tryz.f188=false:=by kernel_rfl
abbrev Mj:Nat:=189
theorem JJ:Tryz.prog.funcs[189]?=some Tryz.f189:=Tryz.func189
theorem JD:bh Tryz.f189=false:=by kernel_rfl
abbrev LB:Nat:=190
theorem IO:Tryz.prog.funcs[190]?=some Tryz.f190:=Tryz.func190
theorem Ix:bh Tryz.f190=false:=by kernel_rfl
abbrev n_i_holds:Nat:=191
theorem fn_i_holds:Tryz.prog.funcs[191]?=some Tryz.f191:=Tryz.func191
theorem nm_i_holds:bh Tryz.f191=false:=by kernel_rfl
abbrev Fp:Nat:=192
theorem lq:Tryz.prog.funcs[192]?=some Tryz.f192:=Tryz.func192
theorem lx:bh Tryz.f192=false:=by kernel_rfl
abbrev Va:Nat:=193
theorem mN:Tryz.prog.funcs[193]?=some Tryz.f193:=Tryz.func193
theorem mF:bh Tryz.f193=false:=by kernel_rfl
abbrev QP:Nat:=194
theorem Df:Tryz.prog.funcs[194]?=some Tryz.f194:=Tryz.func194
theorem DK:bh Tryz.f194=false:=by kernel_rfl
abbrev pA:Nat:=200
theorem nu:Tryz.prog.funcs[200]?=some Tryz.f200:=Tryz.func200
theorem nG:bh Tryz.f200=false:=by kernel_rfl
abbrev IA:Nat:=203
theorem Hk:Tryz.prog.funcs[203]?=some Tryz.f203:=Tryz.func203
theorem HO:bh Tryz.f203=false:=by kernel_rfl
abbrev QI:Nat:=204
theorem PG:Tryz.prog.funcs[204]?=some Tryz.f204:=Tryz.func204
theorem OY:bh Tryz.f204=false:=by kernel_rfl
abbrev Vy:Nat:=213
theorem Hs:Tryz.prog.funcs[213]?=some Tryz.f213:=Tryz.func213
theorem FC:bh Tryz.f213=false:=by kernel_rfl
abbrev rh:Nat:=214
theorem py:Tryz.prog.funcs[214]?=some Tryz.f214:=Tryz.func214
theorem pm:bh Tryz.f214=false:=by kernel_rfl
abbrev Eg:Nat:=215
theorem BO:Tryz.prog.funcs[215]?=some Tryz.f215:=Tryz.func215
theorem Ce:bh Tryz.f215=false:=by kernel_rfl
abbrev IW:Nat:=216
theorem Gk:Tryz.prog.funcs[216]?=some Tryz.f216:=Tryz.func216
theorem FK:bh Tryz.f216=false:=by kernel_rfl
abbrev Jc:Nat:=217
theorem sx:Tryz.prog.funcs[217]?=some Tryz.f217:=Tryz.func217
theorem tw:bh Tryz.f217=false:=by kernel_rfl
abbrev Oq:Nat:=219
theorem yT:Tryz.prog.funcs[219]?=some Tryz.f219:=Tryz.func219
theorem zX:bh Tryz.f219=false:=by kernel_rfl
abbrev p8:Nat:=220
theorem zP:Tryz.prog.funcs[220]?=some Tryz.f220:=Tryz.func220
theorem yl:bh Tryz.f220=false:=by kernel_rfl
abbrev Q6:Nat:=221
theorem PE:Tryz.prog.funcs[221]?=some Tryz.f221:=Tryz.func221
theorem NU:bh Tryz.f221=false:=by kernel_rfl
abbrev P5:Nat:=222
theorem yJ:Tryz.prog.funcs[222]?=some Tryz.f222:=Tryz.func222
theorem Ay:bh Tryz.f222=false:=by kernel_rfl
abbrev Pe:Nat:=223
theorem yz:Tryz.prog.funcs[223]?=some Tryz.f223:=Tryz.func223
theorem yr:bh Tryz.f223=false:=by kernel_rfl
abbrev Q3:Nat:=224
theorem Dd:Tryz.prog.funcs[224]?=some Tryz.f224:=Tryz.func224
theorem CG:bh Tryz.f224=false:=by kernel_rfl
abbrev PQ:Nat:=225
theorem gg:Tryz.prog.funcs[225]?=some Tryz.f225:=Tryz.func225
theorem gf:bh Tryz.f225=false:=by kernel_rfl
abbrev Sa:Nat:=226
theorem g7:Tryz.prog.funcs[226]?=some Tryz.f226:=Tryz.func226
theorem gT:bh Tryz.f226=false:=by kernel_rfl
abbrev QR:Nat:=227
theorem dj:Tryz.prog.funcs[227]?=some Tryz.f227:=Tryz.func227
theorem dp:bh Tryz.f227=false:=by kernel_rfl
abbrev Cm:Nat:=228
theorem Al:Tryz.prog.funcs[228]?=some Tryz.f228:=Tryz.func228
theorem yn:bh Tryz.f228=false:=by kernel_rfl
abbrev Bu:Nat:=229
theorem jq:Tryz.prog.funcs[229]?=some Tryz.f229:=Tryz.func229
theorem jr:bh Tryz.f229=false:=by kernel_rfl
abbrev nT:Nat:=230
theorem xF:Tryz.prog.funcs[230]?=some Tryz.f230:=Tryz.func230
theorem xC:bh Tryz.f230=false:=by kernel_rfl
abbrev Gn:Nat:=231
theorem Ew:Tryz.prog.funcs[231]?=some Tryz.f231:=Tryz.func231
theorem Eu:bh Tryz.f231=false:=by kernel_rfl
abbrev OE:Nat:=232
theorem yB:Tryz.prog.funcs[232]?=some Tryz.f232:=Tryz.func232
theorem y4:bh Tryz.f232=false:=by kernel_rfl
abbrev Ob:Nat:=233
theorem L6:Tryz.prog.funcs[233]?=some Tryz.f233:=Tryz.func233
theorem LO:bh Tryz.f233=false:=by kernel_rfl
abbrev R6:Nat:=234
theorem QC:Tryz.prog.funcs[234]?=some Tryz.f234:=Tryz.func234
theorem N8:bh Tryz.f234=false:=by kernel_rfl
abbrev Ol:Nat:=235
theorem yy:Tryz.prog.funcs[235]?=some Tryz.f235:=Tryz.func235
theorem yw:bh Tryz.f235=false:=by kernel_rfl
abbrev Vl:Nat:=236
theorem Rj:Tryz.prog.funcs[236]?=some Tryz.f236:=Tryz.func236
theorem R1:bh Tryz.f236=false:=by kernel_rfl
abbrev Ov:Nat:=237
theorem zi:Tryz.prog.funcs[237]?=some Tryz.f237:=Tryz.func237
theorem AN:bh Tryz.f237=false:=by kernel_rfl
abbrev Od:Nat:=239
theorem l4:Tryz.prog.funcs[239]?=some Tryz.f239:=Tryz.func239
theorem lZ:bh Tryz.f239=false:=by kernel_rfl
abbrev Nf:Nat:=240
theorem JF:Tryz.prog.funcs[240]?=some Tryz.f240:=Tryz.func240
theorem IZ:bh Tryz.f240=false:=by kernel_rfl
abbrev QS:Nat:=242
theorem DN:Tryz.prog.funcs[242]?=some Tryz.f242:=Tryz.func242
theorem CX:bh Tryz.f242=false:=by kernel_rfl
abbrev Tc:Nat:=244
theorem Ps:Tryz.prog.funcs[244]?=some Tryz.f244:=Tryz.func244
theorem Pm:bh Tryz.f244=false:=by kernel_rfl
abbrev Ox:Nat:=245
theorem M5:Tryz.prog.funcs[245]?=some Tryz.f245:=Tryz.func245
theorem M4:bh Tryz.f245=false:=by kernel_rfl
abbrev vb:Nat:=250
theorem uc:Tryz.prog.funcs[250]?=some Tryz.f250:=Tryz.func250
theorem th:bh Tryz.f250=false:=by kernel_rfl
abbrev Mk:Nat:=252
theorem oN:Tryz.prog.funcs[252]?=some Tryz.f252:=Tryz.func252
theorem oL:bh Tryz.f252=false:=by kernel_rfl
abbrev U4:Nat:=253
theorem Sd:Tryz.prog.funcs[253]?=some Tryz.f253:=Tryz.func253
theorem Q1:bh Tryz.f253=false:=by kernel_rfl
abbrev NZ:Nat:=254
theorem MX:Tryz.prog.funcs[254]?=some Tryz.f254:=Tryz.func254
theorem MM:bh Tryz.f254=false:=by kernel_rfl
abbrev WK:Nat:=255
theorem U8:Tryz.prog.funcs[255]?=some Tryz.f255:=Tryz.func255
theorem U5:bh Tryz.f255=false:=by kernel_rfl
abbrev Sr:Nat:=256
theorem O9:Tryz.prog.funcs[256]?=some Tryz.f256:=Tryz.func256
theorem OA:bh Tryz.f256=false:=by kernel_rfl
abbrev wW:Nat:=257
theorem vz:Tryz.prog.funcs[257]?=some Tryz.f257:=Tryz.func257
theorem vo:bh Tryz.f257=false:=by kernel_rfl
abbrev Sz:Nat:=258
theorem CH:Tryz.prog.funcs[258]?=some Tryz.f258:=Tryz.func258
theorem CR:bh Tryz.f258=false:=by kernel_rfl
abbrev qq:Nat:=259
theorem z5:Tryz.prog.funcs[259]?=some Tryz.f259:=Tryz.func259
theorem Ax:bh Tryz.f259=false:=by kernel_rfl
abbrev Bv:Nat:=260
theorem yY:Tryz.prog.funcs[260]?=some Tryz.f260:=Tryz.func260
theorem zv:bh Tryz.f260=false:=by kernel_rfl
abbrev Ji:Nat:=261
theorem F7:Tryz.prog.funcs[261]?=some Tryz.f261:=Tryz.func261
theorem Hm:bh Tryz.f261=false:=by kernel_rfl
abbrev Eb:Nat:=262
theorem Cc:Tryz.prog.funcs[262]?=some Tryz.f262:=Tryz.func262
theorem B5:bh Tryz.f262=false:=by kernel_rfl
abbrev nn:Nat:=263
theorem mq:Tryz.prog.funcs[263]?=some Tryz.f263:=Tryz.func263
theorem mY:bh Tryz.f263=false:=by kernel_rfl
abbrev jg:Nat:=264
theorem qW:Tryz.prog.funcs[264]?=some Tryz.f264:=Tryz.func264
theorem qG:bh Tryz.f264=false:=by kernel_rfl
abbrev EX:Nat:=265
theorem BI:Tryz.prog.funcs[265]?=some Tryz.f265:=Tryz.func265
theorem Cl:bh Tryz.f265=false:=by kernel_rfl
abbrev Sy:Nat:=266
theorem OS:Tryz.prog.funcs[266]?=some Tryz.f266:=Tryz.func266
theorem OH:bh Tryz.f266=false:=by kernel_rfl
abbrev PN:Nat:=267
theorem ME:Tryz.prog.funcs[267]?=some Tryz.f267:=Tryz.func267
theorem Me:bh Tryz.f267=false:=by kernel_rfl
abbrev LV:Nat:=268
theorem Iw:Tryz.prog.funcs[268]?=some Tryz.f268:=Tryz.func268
theorem Iz:bh Tryz.f268=false:=by kernel_rfl
abbrev Rx:Nat:=270
theorem On:Tryz.prog.funcs[270]?=some Tryz.f270:=Tryz.func270
theorem PP:bh Tryz.f270=false:=by kernel_rfl
abbrev Oy:Nat:=271
theorem yb:Tryz.prog.funcs[271]?=some Tryz.f271:=Tryz.func271
theorem yM:bh Tryz.f271=false:=by kernel_rfl
abbrev Qr:Nat:=272
theorem zE:Tryz.prog.funcs[272]?=some Tryz.f272:=Tryz.func272
theorem yi:bh Tryz.f272=false:=by kernel_rfl
abbrev Qt:Nat:=273
theorem Ap:Tryz.prog.funcs[273]?=some Tryz.f273:=Tryz.func273
theorem zS:bh Tryz.f273=false:=by kernel_rfl
abbrev LI:Nat:=274
theorem Jo:Tryz.prog.funcs[274]?=some Tryz.f274:=Tryz.func274
theorem Iu:bh Tryz.f274=false:=by kernel_rfl
abbrev UY:Nat:=275
theorem SG:Tryz.prog.funcs[275]?=some Tryz.f275:=Tryz.func275
theorem QV:bh Tryz.f275=false:=by kernel_rfl
abbrev Rb:Nat:=276
theorem tQ:Tryz.prog.funcs[276]?=some Tryz.f276:=Tryz.func276
theorem tS:bh Tryz.f276=false:=by kernel_rfl
abbrev Ir:Nat:=286
theorem Hq:Tryz.prog.funcs[286]?=some Tryz.f286:=Tryz.func286
theorem F3:bh Tryz.f286=false:=by kernel_rfl
abbrev Ou:Nat:=288
theorem MY:Tryz.prog.funcs[288]?=some Tryz.f288:=Tryz.func288
theorem L5:bh Tryz.f288=false:=by kernel_rfl
abbrev OU:Nat:=289
theorem zB:Tryz.prog.funcs[289]?=some Tryz.f289:=Tryz.func289
theorem Aw:bh Tryz.f289=false:=by kernel_rfl
abbrev RD:Nat:=290
theorem gS:Tryz.prog.funcs[290]?=some Tryz.f290:=Tryz.func290
theorem hH:bh Tryz.f290=false:=by kernel_rfl
abbrev zm:Nat:=291
theorem Jh:Tryz.prog.funcs[291]?=some Tryz.f291:=Tryz.func291
theorem Jj:bh Tryz.f291=false:=by kernel_rfl
abbrev SY:Nat:=293
theorem Pw:Tryz.prog.funcs[293]?=some Tryz.f293:=Tryz.func293
theorem OD:bh Tryz.f293=false:=by kernel_rfl
abbrev EF:Nat:=294
theorem jY:Tryz.prog.funcs[294]?=some Tryz.f294:=Tryz.func294
theorem j8:bh Tryz.f294=false:=by kernel_rfl
abbrev V3:Nat:=295
theorem Kf:Tryz.prog.funcs[295]?=some Tryz.f295:=Tryz.func295
theorem Kr:bh Tryz.f295=false:=by kernel_rfl
abbrev xY:Nat:=296
theorem vd:Tryz.prog.funcs[296]?=some Tryz.f296:=Tryz.func296
theorem vj:bh Tryz.f296=false:=by kernel_rfl
abbrev tL:Nat:=297
theorem sg:Tryz.prog.funcs[297]?=some Tryz.f297:=Tryz.func297
theorem r8:bh Tryz.f297=false:=by kernel_rfl
abbrev Jg:Nat:=300
theorem tf:Tryz.prog.funcs[300]?=some Tryz.f300:=Tryz.func300
theorem tq:bh Tryz.f300=false:=by kernel_rfl
abbrev RY:Nat:=302
theorem Da:Tryz.prog.funcs[302]?=some Tryz.f302:=Tryz.func302
theorem Dg:bh Tryz.f302=false:=by kernel_rfl
abbrev VI:Nat:=303
theorem RF:Tryz.prog.funcs[303]?=some Tryz.f303:=Tryz.func303
theorem Ry:bh Tryz.f303=false:=by kernel_rfl
abbrev UO:Nat:=307
theorem St:Tryz.prog.funcs[307]?=some Tryz.f307:=Tryz.func307
theorem Sh:bh Tryz.f307=false:=by kernel_rfl
abbrev Sb:Nat:=308
theorem Qy:Tryz.prog.funcs[308]?=some Tryz.f308:=Tryz.func308
theorem NS:bh Tryz.f308=false:=by kernel_rfl
abbrev Qh:Nat:=309
theorem yL:Tryz.prog.funcs[309]?=some Tryz.f309:=Tryz.func309
theorem yu:bh Tryz.f309=false:=by kernel_rfl
abbrev Rw:Nat:=310
theorem Qn:Tryz.prog.funcs[310]?=some Tryz.f310:=Tryz.func310
theorem Pc:bh Tryz.f310=false:=by kernel_rfl
abbrev Mz:Nat:=311
theorem Jp:Tryz.prog.funcs[311]?=some Tryz.f311:=Tryz.func311
theorem IU:bh Tryz.f311=false:=by kernel_rfl
abbrev P1:Nat:=312
theorem LM:Tryz.prog.funcs[312]?=some Tryz.f312:=Tryz.func312
theorem Mu:bh Tryz.f312=false:=by kernel_rfl
abbrev R9:Nat:=313
theorem sN:Tryz.prog.funcs[313]?=some Tryz.f313:=Tryz.func313
theorem uf:bh Tryz.f313=false:=by kernel_rfl
abbrev JO:Nat:=314
theorem tg:Tryz.prog.funcs[314]?=some Tryz.f314:=Tryz.func314
theorem sH:bh Tryz.f314=false:=by kernel_rfl
abbrev A2:Nat:=315
theorem nJ:Tryz.prog.funcs[315]?=some Tryz.f315:=Tryz.func315
theorem oB:bh Tryz.f315=false:=by kernel_rfl
abbrev RR:Nat:=317
theorem nw:Tryz.prog.funcs[317]?=some Tryz.f317:=Tryz.func317
theorem nN:bh Tryz.f317=false:=by kernel_rfl
abbrev Si:Nat:=318
theorem uC:Tryz.prog.funcs[318]?=some Tryz.f318:=Tryz.func318
theorem tm:bh Tryz.f318=false:=by kernel_rfl
abbrev Mx:Nat:=319
theorem IC:Tryz.prog.funcs[319]?=some Tryz.f319:=Tryz.func319
theorem II:bh Tryz.f319=false:=by kernel_rfl
abbrev SW:Nat:=328
theorem DD:Tryz.prog.funcs[328]?=some Tryz.f328:=Tryz.func328
theorem C1:bh Tryz.f328=false:=by kernel_rfl
abbrev Jx:Nat:=329
theorem tY:Tryz.prog.funcs[329]?=some Tryz.f329:=Tryz.func329
theorem ti:bh Tryz.f329=false:=by kernel_rfl
abbrev Qs:Nat:=330
theorem LW:Tryz.prog.funcs[330]?=some Tryz.f330:=Tryz.func330
theorem MK:bh Tryz.f330=false:=by kernel_rfl

end Go.Proofs.YtgllldjiaglkcaaGreatDoor
