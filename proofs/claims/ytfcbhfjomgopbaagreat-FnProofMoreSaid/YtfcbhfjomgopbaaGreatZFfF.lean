/- Made by program: names for the numbers of functions and types, and closed facts on them. -/
import Derived.Test.YtfcbhfjomgopbaaGreatZFfS
import Derived.Test.YtfcbhfjomgopbaaGreatProg
import Derived.KernelRfl
namespace Go.Proofs.YtfcbhfjomgopbaaGreat
open Go
abbrev aZ (f:Func):Bool:=f.name == "runtime.NumGoroutine" || f.body.isNone
abbrev cD:Nat:=3
theorem aw:iM Tryz.prog 3=true:=by kernel_rfl
theorem OM:fC Tryz.prog 3=some (.int .i64 0):=by kernel_rfl
theorem eW:Tryz.prog.underlying 3=some (.int .i64):=by kernel_rfl
abbrev KY:Nat:=4
theorem l8:Tryz.prog.underlying 4=some .bool:=by kernel_rfl
abbrev Gy:Nat:=5
theorem A5:iM Tryz.prog 5=true:=by kernel_rfl
theorem fT:Tryz.prog.underlying 5=some (.int .u8):=by kernel_rfl
abbrev jF:Nat:=9
theorem aJ:iM Tryz.prog 9=true:=by kernel_rfl
theorem aR:Tryz.prog.underlying 9=some .string:=by kernel_rfl
theorem pq:cB Tryz.prog 22=some (60,5):=by kernel_rfl
theorem Ey:iM Tryz.prog 23=true:=by kernel_rfl
theorem xM:cB Tryz.prog 23=some (25,4):=by kernel_rfl
theorem Ji:lm Tryz.prog 25=some 4:=by kernel_rfl
theorem Kw:bP Tryz.prog 25 0=some 0:=by kernel_rfl
theorem J0:bP Tryz.prog 25 1=some 1:=by kernel_rfl
theorem Kr:bP Tryz.prog 25 2=some 2:=by kernel_rfl
theorem Lv:bP Tryz.prog 25 3=some 3:=by kernel_rfl
abbrev Ct:Nat:=32
theorem eE:fQ Tryz.prog 32=some (56,5,80,(.agg #[(.int .i64 0),(.int .i64 0),(.string ⟨#[]⟩),(.slice none 0 0),(.slice none 0 0)])):=by kernel_rfl
theorem bz:cB Tryz.prog 32=some (56,5):=by kernel_rfl
abbrev vR:Nat:=34
theorem ag:iM Tryz.prog 34=true:=by kernel_rfl
theorem bm:fQ Tryz.prog 34=some (36,4,56,(.agg #[(.int .i64 0),(.int .i64 0),(.string ⟨#[]⟩),(.slice none 0 0)])):=by kernel_rfl
theorem af:cB Tryz.prog 34=some (36,4):=by kernel_rfl
abbrev ab:Nat:=36
theorem ac:lm Tryz.prog 36=some 4:=by kernel_rfl
theorem aP:fC Tryz.prog 36=some (.agg #[(.int .i64 0),(.int .i64 0),(.string ⟨#[]⟩),(.slice none 0 0)]):=by kernel_rfl
theorem aE:bP Tryz.prog 36 0=some 0:=by kernel_rfl
theorem aK:bP Tryz.prog 36 1=some 1:=by kernel_rfl
theorem aM:bP Tryz.prog 36 2=some 2:=by kernel_rfl
theorem al:bP Tryz.prog 36 3=some 3:=by kernel_rfl
abbrev DZ:Nat:=37
theorem bp:iM Tryz.prog 37=true:=by kernel_rfl
theorem g0:fQ Tryz.prog 37=some (39,6,88,(.agg #[(.int .i64 0),(.int .i64 0),(.string ⟨#[]⟩),(.slice none 0 0),(.int .i64 0),(.slice none 0 0)])):=by kernel_rfl
theorem bS:cB Tryz.prog 37=some (39,6):=by kernel_rfl
abbrev ah:Nat:=39
theorem aT:lm Tryz.prog 39=some 6:=by kernel_rfl
theorem dG:fC Tryz.prog 39=some (.agg #[(.int .i64 0),(.int .i64 0),(.string ⟨#[]⟩),(.slice none 0 0),(.int .i64 0),(.slice none 0 0)]):=by kernel_rfl
theorem cP:bP Tryz.prog 39 0=some 0:=by kernel_rfl
theorem cN:bP Tryz.prog 39 1=some 4:=by kernel_rfl
theorem bk:bP Tryz.prog 39 2=some 5:=by kernel_rfl
abbrev HZ:Nat:=44
theorem hH:iM Tryz.prog 44=true:=by kernel_rfl
theorem xW:fQ Tryz.prog 44=some (5,1,1,(.int .u8 0)):=by kernel_rfl
theorem dg:cB Tryz.prog 44=some (5,1):=by kernel_rfl
abbrev Lz:Nat:=49
theorem eG:iM Tryz.prog 49=true:=by kernel_rfl
theorem lB:fQ Tryz.prog 49=some (3,1,8,(.int .i64 0)):=by kernel_rfl
theorem cQ:cB Tryz.prog 49=some (3,1):=by kernel_rfl
abbrev av:Nat:=56
theorem bl:lm Tryz.prog 56=some 5:=by kernel_rfl
theorem dB:fC Tryz.prog 56=some (.agg #[(.int .i64 0),(.int .i64 0),(.string ⟨#[]⟩),(.slice none 0 0),(.slice none 0 0)]):=by kernel_rfl
theorem co:bP Tryz.prog 56 0=some 0:=by kernel_rfl
theorem bi:bP Tryz.prog 56 1=some 4:=by kernel_rfl
theorem Kf:lm Tryz.prog 60=some 5:=by kernel_rfl
theorem E6:bP Tryz.prog 60 0=some 0:=by kernel_rfl
theorem FS:bP Tryz.prog 60 1=some 4:=by kernel_rfl
abbrev gI:Nat:=70
theorem rb:iM Tryz.prog 70=true:=by kernel_rfl
theorem ri:fQ Tryz.prog 88=some (162,5,64,(.agg #[(.int .i64 0),(.int .i64 0),(.int .i64 0),(.string ⟨#[]⟩),(.slice none 0 0)])):=by kernel_rfl
theorem EH:cB Tryz.prog 88=some (162,5):=by kernel_rfl
theorem rI:iM Tryz.prog 92=true:=by kernel_rfl
theorem dO:Tryz.prog.underlying 92=some (.map 3 36):=by kernel_rfl
abbrev HY:Nat:=98
theorem fm:bP Tryz.prog 98 0=some 0:=by kernel_rfl
theorem pA:bP Tryz.prog 98 1=some 1:=by kernel_rfl
abbrev kB:Nat:=113
theorem tu:iM Tryz.prog 113=true:=by kernel_rfl
abbrev wQ:Nat:=120
theorem K9:iM Tryz.prog 120=true:=by kernel_rfl
theorem Bh:fQ Tryz.prog 120=some (9,1,16,(.string ⟨#[]⟩)):=by kernel_rfl
theorem cg:cB Tryz.prog 120=some (9,1):=by kernel_rfl
theorem fk:iM Tryz.prog 127=true:=by kernel_rfl
theorem pM:fQ Tryz.prog 127=some (175,5,64,(.agg #[(.int .i64 0),(.int .i64 0),(.string ⟨#[]⟩),(.slice none 0 0),(.int .i64 0)])):=by kernel_rfl
theorem jr:cB Tryz.prog 127=some (175,5):=by kernel_rfl
theorem dl:iM Tryz.prog 128=true:=by kernel_rfl
theorem eq:fQ Tryz.prog 128=some (180,7,128,(.agg #[(.int .i64 0),(.int .i64 0),(.string ⟨#[]⟩),(.slice none 0 0),(.slice none 0 0),(.slice none 0 0),(.slice none 0 0)])):=by kernel_rfl
theorem gK:cB Tryz.prog 128=some (180,7):=by kernel_rfl
abbrev bK:Nat:=130
theorem bY:lm Tryz.prog 130=some 3:=by kernel_rfl
theorem fR:fC Tryz.prog 130=some (.agg #[(.slice none 0 0),(.slice none 0 0),(.slice none 0 0)]):=by kernel_rfl
theorem fJ:bP Tryz.prog 130 0=some 0:=by kernel_rfl
theorem jc:bP Tryz.prog 130 1=some 1:=by kernel_rfl
theorem dh:bP Tryz.prog 130 2=some 2:=by kernel_rfl
abbrev pQ:Nat:=132
theorem gC:iM Tryz.prog 132=true:=by kernel_rfl
theorem eD:fQ Tryz.prog 132=some (183,6,72,(.agg #[(.int .i64 0),(.int .i64 0),(.string ⟨#[]⟩),(.slice none 0 0),(.int .i64 0),(.int .i64 0)])):=by kernel_rfl
theorem Gj:cB Tryz.prog 132=some (183,6):=by kernel_rfl
abbrev Fo:Nat:=133
theorem gL:iM Tryz.prog 133=true:=by kernel_rfl
theorem jh:fQ Tryz.prog 133=some (132,1,24,(.slice none 0 0)):=by kernel_rfl
theorem sq:cB Tryz.prog 133=some (132,1):=by kernel_rfl
abbrev aN:Nat:=135
theorem aQ:lm Tryz.prog 135=some 5:=by kernel_rfl
theorem dz:fC Tryz.prog 135=some (.agg #[(.slice none 0 0),(.slice none 0 0),(.slice none 0 0),(.slice none 0 0),(.slice none 0 0)]):=by kernel_rfl
theorem bJ:bP Tryz.prog 135 0=some 0:=by kernel_rfl
theorem fI:bP Tryz.prog 135 1=some 3:=by kernel_rfl
theorem fH:bP Tryz.prog 135 2=some 4:=by kernel_rfl
abbrev dj:Nat:=155
theorem lK:bP Tryz.prog 155 0=some 0:=by kernel_rfl
theorem ge:bP Tryz.prog 155 1=some 1:=by kernel_rfl
abbrev df:Nat:=162
theorem Hu:cB Tryz.prog 169=some (120,1):=by kernel_rfl
abbrev i6:Nat:=175
theorem Bu:lm Tryz.prog 175=some 5:=by kernel_rfl
theorem Ln:fC Tryz.prog 175=some (.agg #[(.int .i64 0),(.int .i64 0),(.string ⟨#[]⟩),(.slice none 0 0),(.int .i64 0)]):=by kernel_rfl
theorem GR:bP Tryz.prog 175 0=some 0:=by kernel_rfl
abbrev cq:Nat:=180
theorem dt:lm Tryz.prog 180=some 7:=by kernel_rfl
theorem j9:fC Tryz.prog 180=some (.agg #[(.int .i64 0),(.int .i64 0),(.string ⟨#[]⟩),(.slice none 0 0),(.slice none 0 0),(.slice none 0 0),(.slice none 0 0)]):=by kernel_rfl
theorem kU:bP Tryz.prog 180 0=some 0:=by kernel_rfl
theorem pK:bP Tryz.prog 180 1=some 4:=by kernel_rfl
theorem dk:bP Tryz.prog 180 2=some 5:=by kernel_rfl
theorem lr:bP Tryz.prog 180 3=some 6:=by kernel_rfl
abbrev gZ:Nat:=183
theorem CV:bP Tryz.prog 183 0=some 0:=by kernel_rfl
theorem Dd:bP Tryz.prog 183 1=some 4:=by kernel_rfl
theorem C6:bP Tryz.prog 183 2=some 5:=by kernel_rfl
abbrev g8:Nat:=207
abbrev du:Nat:=6
abbrev dr:Nat:=7
abbrev A8:Nat:=11
theorem gW:Tryz.prog.funcs[11]?=some Tryz.f11:=Tryz.func11
theorem gQ:aZ Tryz.f11=false:=by kernel_rfl
abbrev sN:Nat:=12
theorem AS:Tryz.prog.funcs[12]?=some Tryz.f12:=Tryz.func12
theorem Cu:aZ Tryz.f12=false:=by kernel_rfl
abbrev Cc:Nat:=14
theorem gR:Tryz.prog.funcs[14]?=some Tryz.f14:=Tryz.func14
theorem gS:aZ Tryz.f14=false:=by kernel_rfl
abbrev AP:Nat:=20
theorem z5:Tryz.prog.funcs[20]?=some Tryz.f20:=Tryz.func20
theorem zE:aZ Tryz.f20=false:=by kernel_rfl
abbrev tk:Nat:=25
theorem jT:Tryz.prog.funcs[25]?=some Tryz.f25:=Tryz.func25
theorem j0:aZ Tryz.f25=false:=by kernel_rfl
abbrev xp:Nat:=26
theorem ii:Tryz.prog.funcs[26]?=some Tryz.f26:=Tryz.func26
theorem iw:aZ Tryz.f26=false:=by kernel_rfl
abbrev xr:Nat:=30
theorem u3:Tryz.prog.funcs[30]?=some Tryz.f30:=Tryz.func30
theorem ub:aZ Tryz.f30=false:=by kernel_rfl
abbrev BL:Nat:=31
theorem o9:Tryz.prog.funcs[31]?=some Tryz.f31:=Tryz.func31
theorem o0:aZ Tryz.f31=false:=by kernel_rfl
abbrev GA:Nat:=32
theorem rT:Tryz.prog.funcs[32]?=some Tryz.f32:=Tryz.func32
theorem sz:aZ Tryz.f32=false:=by kernel_rfl
abbrev tQ:Nat:=33
theorem sV:Tryz.prog.funcs[33]?=some Tryz.f33:=Tryz.func33
theorem sX:aZ Tryz.f33=false:=by kernel_rfl
abbrev s9:Nat:=34
theorem qR:Tryz.prog.funcs[34]?=some Tryz.f34:=Tryz.func34
theorem px:aZ Tryz.f34=false:=by kernel_rfl
abbrev Kq:Nat:=36
theorem zq:Tryz.prog.funcs[36]?=some Tryz.f36:=Tryz.func36
theorem zl:aZ Tryz.f36=false:=by kernel_rfl
abbrev Dp:Nat:=41
theorem qp:Tryz.prog.funcs[41]?=some Tryz.f41:=Tryz.func41
theorem pH:aZ Tryz.f41=false:=by kernel_rfl
abbrev In:Nat:=42
theorem vx:Tryz.prog.funcs[42]?=some Tryz.f42:=Tryz.func42
theorem tU:aZ Tryz.f42=false:=by kernel_rfl
abbrev Jj:Nat:=45
theorem Fk:Tryz.prog.funcs[45]?=some Tryz.f45:=Tryz.func45
theorem EY:aZ Tryz.f45=false:=by kernel_rfl
abbrev Hl:Nat:=46
theorem Fu:Tryz.prog.funcs[46]?=some Tryz.f46:=Tryz.func46
theorem GF:aZ Tryz.f46=false:=by kernel_rfl
abbrev Bk:Nat:=47
theorem bO:Tryz.prog.funcs[47]?=some Tryz.f47:=Tryz.func47
theorem bN:aZ Tryz.f47=false:=by kernel_rfl
abbrev zR:Nat:=48
theorem xG:Tryz.prog.funcs[48]?=some Tryz.f48:=Tryz.func48
theorem xN:aZ Tryz.f48=false:=by kernel_rfl
abbrev sj:Nat:=49
theorem pn:Tryz.prog.funcs[49]?=some Tryz.f49:=Tryz.func49
theorem qA:aZ Tryz.f49=false:=by kernel_rfl
abbrev nw:Nat:=50
theorem mq:Tryz.prog.funcs[50]?=some Tryz.f50:=Tryz.func50
theorem mB:aZ Tryz.f50=false:=by kernel_rfl
abbrev kV:Nat:=51
theorem rE:Tryz.prog.funcs[51]?=some Tryz.f51:=Tryz.func51
theorem rr:aZ Tryz.f51=false:=by kernel_rfl
abbrev zw:Nat:=52
theorem wX:Tryz.prog.funcs[52]?=some Tryz.f52:=Tryz.func52
theorem xD:aZ Tryz.f52=false:=by kernel_rfl
abbrev Ab:Nat:=54
theorem mH:Tryz.prog.funcs[54]?=some Tryz.f54:=Tryz.func54
theorem nS:aZ Tryz.f54=false:=by kernel_rfl
abbrev GG:Nat:=55
theorem rM:Tryz.prog.funcs[55]?=some Tryz.f55:=Tryz.func55
theorem rW:aZ Tryz.f55=false:=by kernel_rfl
abbrev Hz:Nat:=56
theorem EV:Tryz.prog.funcs[56]?=some Tryz.f56:=Tryz.func56
theorem Gk:aZ Tryz.f56=false:=by kernel_rfl
abbrev pv:Nat:=57
theorem nY:Tryz.prog.funcs[57]?=some Tryz.f57:=Tryz.func57
theorem oz:aZ Tryz.f57=false:=by kernel_rfl
abbrev zN:Nat:=58
theorem xz:Tryz.prog.funcs[58]?=some Tryz.f58:=Tryz.func58
theorem xi:aZ Tryz.f58=false:=by kernel_rfl
abbrev Ju:Nat:=59
theorem j6:Tryz.prog.funcs[59]?=some Tryz.f59:=Tryz.func59
theorem j5:aZ Tryz.f59=false:=by kernel_rfl
abbrev GX:Nat:=60
theorem ji:Tryz.prog.funcs[60]?=some Tryz.f60:=Tryz.func60
theorem i8:aZ Tryz.f60=false:=by kernel_rfl
abbrev MT:Nat:=61
theorem oe:Tryz.prog.funcs[61]?=some Tryz.f61:=Tryz.func61
theorem om:aZ Tryz.f61=false:=by kernel_rfl
abbrev Dm:Nat:=63
theorem pX:Tryz.prog.funcs[63]?=some Tryz.f63:=Tryz.func63
theorem qL:aZ Tryz.f63=false:=by kernel_rfl
abbrev Lq:Nat:=64
theorem g7:Tryz.prog.funcs[64]?=some Tryz.f64:=Tryz.func64
theorem ia:aZ Tryz.f64=false:=by kernel_rfl
abbrev ow:Nat:=65
theorem mE:Tryz.prog.funcs[65]?=some Tryz.f65:=Tryz.func65
theorem ne:aZ Tryz.f65=false:=by kernel_rfl
abbrev zU:Nat:=66
theorem xX:Tryz.prog.funcs[66]?=some Tryz.f66:=Tryz.func66
theorem xR:aZ Tryz.f66=false:=by kernel_rfl
abbrev IG:Nat:=67
theorem FE:Tryz.prog.funcs[67]?=some Tryz.f67:=Tryz.func67
theorem GE:aZ Tryz.f67=false:=by kernel_rfl
abbrev Hk:Nat:=68
theorem FO:Tryz.prog.funcs[68]?=some Tryz.f68:=Tryz.func68
theorem GI:aZ Tryz.f68=false:=by kernel_rfl
abbrev FU:Nat:=69
theorem Db:Tryz.prog.funcs[69]?=some Tryz.f69:=Tryz.func69
theorem CK:aZ Tryz.f69=false:=by kernel_rfl
abbrev uh:Nat:=70
theorem di:Tryz.prog.funcs[70]?=some Tryz.f70:=Tryz.func70
theorem dp:aZ Tryz.f70=false:=by kernel_rfl
abbrev tg:Nat:=71
theorem eo:Tryz.prog.funcs[71]?=some Tryz.f71:=Tryz.func71
theorem ei:aZ Tryz.f71=false:=by kernel_rfl
abbrev Dk:Nat:=72
theorem ez:Tryz.prog.funcs[72]?=some Tryz.f72:=Tryz.func72
theorem ey:aZ Tryz.f72=false:=by kernel_rfl
abbrev Fd:Nat:=73
theorem mo:Tryz.prog.funcs[73]?=some Tryz.f73:=Tryz.func73
theorem mx:aZ Tryz.f73=false:=by kernel_rfl
abbrev Kj:Nat:=74
theorem js:Tryz.prog.funcs[74]?=some Tryz.f74:=Tryz.func74
theorem jB:aZ Tryz.f74=false:=by kernel_rfl
abbrev qC:Nat:=75
theorem pg:Tryz.prog.funcs[75]?=some Tryz.f75:=Tryz.func75
theorem ph:aZ Tryz.f75=false:=by kernel_rfl
abbrev Dn:Nat:=76
theorem lu:Tryz.prog.funcs[76]?=some Tryz.f76:=Tryz.func76
theorem lq:aZ Tryz.f76=false:=by kernel_rfl
abbrev Jb:Nat:=77
theorem wg:Tryz.prog.funcs[77]?=some Tryz.f77:=Tryz.func77
theorem wd:aZ Tryz.f77=false:=by kernel_rfl
abbrev CB:Nat:=78
theorem zD:Tryz.prog.funcs[78]?=some Tryz.f78:=Tryz.func78
theorem zG:aZ Tryz.f78=false:=by kernel_rfl
abbrev Di:Nat:=79
theorem kK:Tryz.prog.funcs[79]?=some Tryz.f79:=Tryz.func79
theorem kQ:aZ Tryz.f79=false:=by kernel_rfl
abbrev DL:Nat:=80
theorem fW:Tryz.prog.funcs[80]?=some Tryz.f80:=Tryz.func80
theorem gd:aZ Tryz.f80=false:=by kernel_rfl
abbrev IB:Nat:=81
theorem uS:Tryz.prog.funcs[81]?=some Tryz.f81:=Tryz.func81
theorem u5:aZ Tryz.f81=false:=by kernel_rfl
abbrev DG:Nat:=82
theorem gj:Tryz.prog.funcs[82]?=some Tryz.f82:=Tryz.func82
theorem f1:aZ Tryz.f82=false:=by kernel_rfl
abbrev FQ:Nat:=83
theorem Ds:Tryz.prog.funcs[83]?=some Tryz.f83:=Tryz.func83
theorem CU:aZ Tryz.f83=false:=by kernel_rfl
abbrev HQ:Nat:=84
theorem ol:Tryz.prog.funcs[84]?=some Tryz.f84:=Tryz.func84
theorem oc:aZ Tryz.f84=false:=by kernel_rfl
abbrev Nt:Nat:=85
theorem oi:Tryz.prog.funcs[85]?=some Tryz.f85:=Tryz.func85
theorem ox:aZ Tryz.f85=false:=by kernel_rfl
abbrev Fs:Nat:=86
theorem C5:Tryz.prog.funcs[86]?=some Tryz.f86:=Tryz.func86
theorem Dw:aZ Tryz.f86=false:=by kernel_rfl
abbrev AN:Nat:=87
theorem Aa:Tryz.prog.funcs[87]?=some Tryz.f87:=Tryz.func87
theorem zB:aZ Tryz.f87=false:=by kernel_rfl
abbrev CM:Nat:=88
theorem Cf:Tryz.prog.funcs[88]?=some Tryz.f88:=Tryz.func88
theorem AF:aZ Tryz.f88=false:=by kernel_rfl
abbrev CN:Nat:=89
theorem AO:Tryz.prog.funcs[89]?=some Tryz.f89:=Tryz.func89
theorem BH:aZ Tryz.f89=false:=by kernel_rfl
abbrev oB:Nat:=90
theorem mz:Tryz.prog.funcs[90]?=some Tryz.f90:=Tryz.func90
theorem mC:aZ Tryz.f90=false:=by kernel_rfl
abbrev KZ:Nat:=91
theorem yt:Tryz.prog.funcs[91]?=some Tryz.f91:=Tryz.func91
theorem yA:aZ Tryz.f91=false:=by kernel_rfl
abbrev rl:Nat:=92
theorem ql:Tryz.prog.funcs[92]?=some Tryz.f92:=Tryz.func92
theorem pR:aZ Tryz.f92=false:=by kernel_rfl
abbrev mN:Nat:=93
theorem l5:Tryz.prog.funcs[93]?=some Tryz.f93:=Tryz.func93
theorem lP:aZ Tryz.f93=false:=by kernel_rfl
abbrev IA:Nat:=94
theorem vX:Tryz.prog.funcs[94]?=some Tryz.f94:=Tryz.func94
theorem vL:aZ Tryz.f94=false:=by kernel_rfl
abbrev FW:Nat:=95
theorem DI:Tryz.prog.funcs[95]?=some Tryz.f95:=Tryz.func95
theorem DN:aZ Tryz.f95=false:=by kernel_rfl
abbrev Ky:Nat:=96
theorem IZ:Tryz.prog.funcs[96]?=some Tryz.f96:=Tryz.func96
theorem Hr:aZ Tryz.f96=false:=by kernel_rfl
abbrev Jt:Nat:=97
theorem FK:Tryz.prog.funcs[97]?=some Tryz.f97:=Tryz.func97
theorem Fl:aZ Tryz.f97=false:=by kernel_rfl
abbrev Kp:Nat:=98
theorem Js:Tryz.prog.funcs[98]?=some Tryz.f98:=Tryz.func98
theorem Jh:aZ Tryz.f98=false:=by kernel_rfl
abbrev Ht:Nat:=99
theorem Fb:Tryz.prog.funcs[99]?=some Tryz.f99:=Tryz.func99
theorem GK:aZ Tryz.f99=false:=by kernel_rfl
abbrev GC:Nat:=100
theorem sF:Tryz.prog.funcs[100]?=some Tryz.f100:=Tryz.func100
theorem sM:aZ Tryz.f100=false:=by kernel_rfl
abbrev sa:Nat:=101
theorem qG:Tryz.prog.funcs[101]?=some Tryz.f101:=Tryz.func101
theorem p9:aZ Tryz.f101=false:=by kernel_rfl
abbrev Jw:Nat:=102
theorem wv:Tryz.prog.funcs[102]?=some Tryz.f102:=Tryz.func102
theorem vw:aZ Tryz.f102=false:=by kernel_rfl
abbrev CE:Nat:=103
theorem yF:Tryz.prog.funcs[103]?=some Tryz.f103:=Tryz.func103
theorem yT:aZ Tryz.f103=false:=by kernel_rfl
abbrev Km:Nat:=104
theorem yu:Tryz.prog.funcs[104]?=some Tryz.f104:=Tryz.func104
theorem zr:aZ Tryz.f104=false:=by kernel_rfl
abbrev Gw:Nat:=105
theorem i9:Tryz.prog.funcs[105]?=some Tryz.f105:=Tryz.func105
theorem jl:aZ Tryz.f105=false:=by kernel_rfl
abbrev Nh:Nat:=106
theorem nV:Tryz.prog.funcs[106]?=some Tryz.f106:=Tryz.func106
theorem ou:aZ Tryz.f106=false:=by kernel_rfl
abbrev ML:Nat:=107
theorem BS:Tryz.prog.funcs[107]?=some Tryz.f107:=Tryz.func107
theorem BQ:aZ Tryz.f107=false:=by kernel_rfl
abbrev Ow:Nat:=108
theorem Er:Tryz.prog.funcs[108]?=some Tryz.f108:=Tryz.func108
theorem Ew:aZ Tryz.f108=false:=by kernel_rfl
abbrev Dc:Nat:=109
theorem pZ:Tryz.prog.funcs[109]?=some Tryz.f109:=Tryz.func109
theorem pk:aZ Tryz.f109=false:=by kernel_rfl
abbrev O4:Nat:=110
theorem MF:Tryz.prog.funcs[110]?=some Tryz.f110:=Tryz.func110
theorem Nm:aZ Tryz.f110=false:=by kernel_rfl
abbrev iG:Nat:=111
theorem ft:Tryz.prog.funcs[111]?=some Tryz.f111:=Tryz.func111
theorem fF:aZ Tryz.f111=false:=by kernel_rfl
abbrev mP:Nat:=112
theorem um:Tryz.prog.funcs[112]?=some Tryz.f112:=Tryz.func112
theorem ul:aZ Tryz.f112=false:=by kernel_rfl
abbrev KQ:Nat:=113
theorem JA:Tryz.prog.funcs[113]?=some Tryz.f113:=Tryz.func113
theorem Hi:aZ Tryz.f113=false:=by kernel_rfl
abbrev Ih:Nat:=114
theorem uX:Tryz.prog.funcs[114]?=some Tryz.f114:=Tryz.func114
theorem uY:aZ Tryz.f114=false:=by kernel_rfl
abbrev Hy:Nat:=115
theorem vC:Tryz.prog.funcs[115]?=some Tryz.f115:=Tryz.func115
theorem uC:aZ Tryz.f115=false:=by kernel_rfl
abbrev JY:Nat:=116
theorem yo:Tryz.prog.funcs[116]?=some Tryz.f116:=Tryz.func116
theorem zn:aZ Tryz.f116=false:=by kernel_rfl
abbrev Ip:Nat:=117
theorem eF:Tryz.prog.funcs[117]?=some Tryz.f117:=Tryz.func117
theorem eH:aZ Tryz.f117=false:=by kernel_rfl
abbrev zM:Nat:=118
theorem wZ:Tryz.prog.funcs[118]?=some Tryz.f118:=Tryz.func118
theorem wY:aZ Tryz.f118=false:=by kernel_rfl
abbrev Gt:Nat:=119
theorem mA:Tryz.prog.funcs[119]?=some Tryz.f119:=Tryz.func119
theorem my:aZ Tryz.f119=false:=by kernel_rfl
abbrev GP:Nat:=120
theorem CY:Tryz.prog.funcs[120]?=some Tryz.f120:=Tryz.func120
theorem C7:aZ Tryz.f120=false:=by kernel_rfl
abbrev GO:Nat:=121
theorem DF:Tryz.prog.funcs[121]?=some Tryz.f121:=Tryz.func121
theorem CZ:aZ Tryz.f121=false:=by kernel_rfl
abbrev n_i_holds:Nat:=122
theorem fn_i_holds:Tryz.prog.funcs[122]?=some Tryz.f122:=Tryz.func122
theorem nm_i_holds:aZ Tryz.f122=false:=by kernel_rfl
abbrev z6:Nat:=123
theorem eT:Tryz.prog.funcs[123]?=some Tryz.f123:=Tryz.func123
theorem eZ:aZ Tryz.f123=false:=by kernel_rfl
abbrev BT:Nat:=124
theorem zu:Tryz.prog.funcs[124]?=some Tryz.f124:=Tryz.func124
theorem zt:aZ Tryz.f124=false:=by kernel_rfl
abbrev MZ:Nat:=125
theorem kO:Tryz.prog.funcs[125]?=some Tryz.f125:=Tryz.func125
theorem kS:aZ Tryz.f125=false:=by kernel_rfl
abbrev Kc:Nat:=126
theorem zh:Tryz.prog.funcs[126]?=some Tryz.f126:=Tryz.func126
theorem yg:aZ Tryz.f126=false:=by kernel_rfl
abbrev tP:Nat:=127
theorem tB:Tryz.prog.funcs[127]?=some Tryz.f127:=Tryz.func127
theorem tx:aZ Tryz.f127=false:=by kernel_rfl
abbrev tC:Nat:=128
theorem rz:Tryz.prog.funcs[128]?=some Tryz.f128:=Tryz.func128
theorem rA:aZ Tryz.f128=false:=by kernel_rfl
abbrev LF:Nat:=129
theorem HR:Tryz.prog.funcs[129]?=some Tryz.f129:=Tryz.func129
theorem Ig:aZ Tryz.f129=false:=by kernel_rfl
abbrev zy:Nat:=130
theorem xn:Tryz.prog.funcs[130]?=some Tryz.f130:=Tryz.func130
theorem xJ:aZ Tryz.f130=false:=by kernel_rfl
abbrev Kd:Nat:=131
theorem fl:Tryz.prog.funcs[131]?=some Tryz.f131:=Tryz.func131
theorem fq:aZ Tryz.f131=false:=by kernel_rfl
abbrev Jg:Nat:=132
theorem Gq:Tryz.prog.funcs[132]?=some Tryz.f132:=Tryz.func132
theorem FF:aZ Tryz.f132=false:=by kernel_rfl
abbrev Cl:Nat:=133
theorem o7:Tryz.prog.funcs[133]?=some Tryz.f133:=Tryz.func133
theorem oY:aZ Tryz.f133=false:=by kernel_rfl
abbrev y9:Nat:=134
theorem uB:Tryz.prog.funcs[134]?=some Tryz.f134:=Tryz.func134
theorem wl:aZ Tryz.f134=false:=by kernel_rfl
abbrev Im:Nat:=135
theorem uW:Tryz.prog.funcs[135]?=some Tryz.f135:=Tryz.func135
theorem vU:aZ Tryz.f135=false:=by kernel_rfl
abbrev Jq:Nat:=136
theorem uH:Tryz.prog.funcs[136]?=some Tryz.f136:=Tryz.func136
theorem wm:aZ Tryz.f136=false:=by kernel_rfl
abbrev MR:Nat:=137
theorem KG:Tryz.prog.funcs[137]?=some Tryz.f137:=Tryz.func137
theorem K7:aZ Tryz.f137=false:=by kernel_rfl
abbrev Hm:Nat:=138
theorem vQ:Tryz.prog.funcs[138]?=some Tryz.f138:=Tryz.func138
theorem we:aZ Tryz.f138=false:=by kernel_rfl
abbrev FA:Nat:=139
theorem sr:Tryz.prog.funcs[139]?=some Tryz.f139:=Tryz.func139
theorem rP:aZ Tryz.f139=false:=by kernel_rfl
abbrev Ki:Nat:=140
theorem jI:Tryz.prog.funcs[140]?=some Tryz.f140:=Tryz.func140
theorem jq:aZ Tryz.f140=false:=by kernel_rfl
abbrev C2:Nat:=141
theorem Bl:Tryz.prog.funcs[141]?=some Tryz.f141:=Tryz.func141
theorem AL:aZ Tryz.f141=false:=by kernel_rfl
abbrev KO:Nat:=142
theorem IY:Tryz.prog.funcs[142]?=some Tryz.f142:=Tryz.func142
theorem Iv:aZ Tryz.f142=false:=by kernel_rfl
abbrev Ii:Nat:=143
theorem Gr:Tryz.prog.funcs[143]?=some Tryz.f143:=Tryz.func143
theorem FZ:aZ Tryz.f143=false:=by kernel_rfl
abbrev kT:Nat:=144
theorem jX:Tryz.prog.funcs[144]?=some Tryz.f144:=Tryz.func144
theorem jV:aZ Tryz.f144=false:=by kernel_rfl
abbrev MY:Nat:=145
theorem K6:Tryz.prog.funcs[145]?=some Tryz.f145:=Tryz.func145
theorem Li:aZ Tryz.f145=false:=by kernel_rfl
abbrev Bb:Nat:=146
theorem mi:Tryz.prog.funcs[146]?=some Tryz.f146:=Tryz.func146
theorem l6:aZ Tryz.f146=false:=by kernel_rfl
abbrev rt:Nat:=147
theorem gr:Tryz.prog.funcs[147]?=some Tryz.f147:=Tryz.func147
theorem fU:aZ Tryz.f147=false:=by kernel_rfl
abbrev BU:Nat:=148
theorem gT:Tryz.prog.funcs[148]?=some Tryz.f148:=Tryz.func148
theorem gV:aZ Tryz.f148=false:=by kernel_rfl
abbrev At:Nat:=149
theorem oQ:Tryz.prog.funcs[149]?=some Tryz.f149:=Tryz.func149
theorem o8:aZ Tryz.f149=false:=by kernel_rfl
abbrev rD:Nat:=150
theorem jE:Tryz.prog.funcs[150]?=some Tryz.f150:=Tryz.func150
theorem jv:aZ Tryz.f150=false:=by kernel_rfl
abbrev J3:Nat:=151
theorem cV:Tryz.prog.funcs[151]?=some Tryz.f151:=Tryz.func151
theorem cU:aZ Tryz.f151=false:=by kernel_rfl
abbrev Id:Nat:=152
theorem vN:Tryz.prog.funcs[152]?=some Tryz.f152:=Tryz.func152
theorem u6:aZ Tryz.f152=false:=by kernel_rfl
abbrev xj:Nat:=153
theorem wy:Tryz.prog.funcs[153]?=some Tryz.f153:=Tryz.func153
theorem tW:aZ Tryz.f153=false:=by kernel_rfl
abbrev HL:Nat:=154
theorem Fi:Tryz.prog.funcs[154]?=some Tryz.f154:=Tryz.func154
theorem GN:aZ Tryz.f154=false:=by kernel_rfl
abbrev N4:Nat:=155
theorem Ns:Tryz.prog.funcs[155]?=some Tryz.f155:=Tryz.func155
theorem MI:aZ Tryz.f155=false:=by kernel_rfl
abbrev DA:Nat:=156
theorem Bj:Tryz.prog.funcs[156]?=some Tryz.f156:=Tryz.func156
theorem Be:aZ Tryz.f156=false:=by kernel_rfl
abbrev AJ:Nat:=157
theorem Ac:Tryz.prog.funcs[157]?=some Tryz.f157:=Tryz.func157
theorem z0:aZ Tryz.f157=false:=by kernel_rfl
abbrev H8:Nat:=158
theorem oy:Tryz.prog.funcs[158]?=some Tryz.f158:=Tryz.func158
theorem oq:aZ Tryz.f158=false:=by kernel_rfl
abbrev Ke:Nat:=159
theorem yG:Tryz.prog.funcs[159]?=some Tryz.f159:=Tryz.func159
theorem yH:aZ Tryz.f159=false:=by kernel_rfl
abbrev Gl:Nat:=160
theorem DC:Tryz.prog.funcs[160]?=some Tryz.f160:=Tryz.func160
theorem Dr:aZ Tryz.f160=false:=by kernel_rfl
abbrev K2:Nat:=161
theorem dU:Tryz.prog.funcs[161]?=some Tryz.f161:=Tryz.func161
theorem dT:aZ Tryz.f161=false:=by kernel_rfl
abbrev JF:Nat:=162
theorem fG:Tryz.prog.funcs[162]?=some Tryz.f162:=Tryz.func162
theorem fB:aZ Tryz.f162=false:=by kernel_rfl
abbrev Jp:Nat:=163
theorem ip:Tryz.prog.funcs[163]?=some Tryz.f163:=Tryz.func163
theorem iD:aZ Tryz.f163=false:=by kernel_rfl
abbrev Ne:Nat:=164
theorem JN:Tryz.prog.funcs[164]?=some Tryz.f164:=Tryz.func164
theorem Lx:aZ Tryz.f164=false:=by kernel_rfl
abbrev BX:Nat:=165
theorem zV:Tryz.prog.funcs[165]?=some Tryz.f165:=Tryz.func165
theorem zW:aZ Tryz.f165=false:=by kernel_rfl
abbrev DP:Nat:=166
theorem AZ:Tryz.prog.funcs[166]?=some Tryz.f166:=Tryz.func166
theorem Ba:aZ Tryz.f166=false:=by kernel_rfl
abbrev Lc:Nat:=167
theorem Jx:Tryz.prog.funcs[167]?=some Tryz.f167:=Tryz.func167
theorem HM:aZ Tryz.f167=false:=by kernel_rfl
abbrev Hq:Nat:=168
theorem E0:Tryz.prog.funcs[168]?=some Tryz.f168:=Tryz.func168
theorem Gn:aZ Tryz.f168=false:=by kernel_rfl
abbrev C1:Nat:=169
theorem BK:Tryz.prog.funcs[169]?=some Tryz.f169:=Tryz.func169
theorem AX:aZ Tryz.f169=false:=by kernel_rfl
abbrev Cv:Nat:=170
theorem lX:Tryz.prog.funcs[170]?=some Tryz.f170:=Tryz.func170
theorem lF:aZ Tryz.f170=false:=by kernel_rfl
abbrev xe:Nat:=171
theorem vE:Tryz.prog.funcs[171]?=some Tryz.f171:=Tryz.func171
theorem uM:aZ Tryz.f171=false:=by kernel_rfl
abbrev xC:Nat:=172
theorem il:Tryz.prog.funcs[172]?=some Tryz.f172:=Tryz.func172
theorem ix:aZ Tryz.f172=false:=by kernel_rfl
abbrev JR:Nat:=173
theorem Jk:Tryz.prog.funcs[173]?=some Tryz.f173:=Tryz.func173
theorem Ic:aZ Tryz.f173=false:=by kernel_rfl
abbrev Hg:Nat:=175
theorem GU:Tryz.prog.funcs[175]?=some Tryz.f175:=Tryz.func175
theorem Fr:aZ Tryz.f175=false:=by kernel_rfl
abbrev JG:Nat:=176
theorem kl:Tryz.prog.funcs[176]?=some Tryz.f176:=Tryz.func176
theorem j8:aZ Tryz.f176=false:=by kernel_rfl
abbrev EX:Nat:=177
theorem Dq:Tryz.prog.funcs[177]?=some Tryz.f177:=Tryz.func177
theorem C3:aZ Tryz.f177=false:=by kernel_rfl
abbrev KA:Nat:=178
theorem zb:Tryz.prog.funcs[178]?=some Tryz.f178:=Tryz.func178
theorem yi:aZ Tryz.f178=false:=by kernel_rfl
abbrev Ij:Nat:=179
theorem ug:Tryz.prog.funcs[179]?=some Tryz.f179:=Tryz.func179
theorem vV:aZ Tryz.f179=false:=by kernel_rfl
abbrev Nf:Nat:=180
theorem Ks:Tryz.prog.funcs[180]?=some Tryz.f180:=Tryz.func180
theorem Kk:aZ Tryz.f180=false:=by kernel_rfl
abbrev FY:Nat:=181
theorem Dx:Tryz.prog.funcs[181]?=some Tryz.f181:=Tryz.func181
theorem Df:aZ Tryz.f181=false:=by kernel_rfl
abbrev OI:Nat:=182
theorem Nd:Tryz.prog.funcs[182]?=some Tryz.f182:=Tryz.func182
theorem MV:aZ Tryz.f182=false:=by kernel_rfl
abbrev Ix:Nat:=183
theorem FP:Tryz.prog.funcs[183]?=some Tryz.f183:=Tryz.func183
theorem FT:aZ Tryz.f183=false:=by kernel_rfl
abbrev M0:Nat:=184
theorem JK:Tryz.prog.funcs[184]?=some Tryz.f184:=Tryz.func184
theorem KT:aZ Tryz.f184=false:=by kernel_rfl
abbrev HH:Nat:=185
theorem uZ:Tryz.prog.funcs[185]?=some Tryz.f185:=Tryz.func185
theorem vI:aZ Tryz.f185=false:=by kernel_rfl
abbrev tl:Nat:=186
theorem ry:Tryz.prog.funcs[186]?=some Tryz.f186:=Tryz.func186
theorem rC:aZ Tryz.f186=false:=by kernel_rfl
abbrev Lj:Nat:=187
theorem fZ:Tryz.prog.funcs[187]?=some Tryz.f187:=Tryz.func187
theorem gp:aZ Tryz.f187=false:=by kernel_rfl
abbrev Jm:Nat:=188
theorem wu:Tryz.prog.funcs[188]?=some Tryz.f188:=Tryz.func188
theorem uq:aZ Tryz.f188=false:=by kernel_rfl
abbrev La:Nat:=189
theorem Hx:Tryz.prog.funcs[189]?=some Tryz.f189:=Tryz.func189
theorem IK:aZ Tryz.f189=false:=by kernel_rfl
abbrev IO:Nat:=190
theorem vu:Tryz.prog.funcs[190]?=some Tryz.f190:=Tryz.func190
theorem un:aZ Tryz.f190=false:=by kernel_rfl
abbrev JB:Nat:=191
theorem GH:Tryz.prog.funcs[191]?=some Tryz.f191:=Tryz.func191
theorem GL:aZ Tryz.f191=false:=by kernel_rfl
abbrev FD:Nat:=192
theorem mr:Tryz.prog.funcs[192]?=some Tryz.f192:=Tryz.func192
theorem mu:aZ Tryz.f192=false:=by kernel_rfl
abbrev MD:Nat:=193
theorem KK:Tryz.prog.funcs[193]?=some Tryz.f193:=Tryz.func193
theorem LD:aZ Tryz.f193=false:=by kernel_rfl
abbrev Nc:Nat:=194
theorem KF:Tryz.prog.funcs[194]?=some Tryz.f194:=Tryz.func194
theorem JZ:aZ Tryz.f194=false:=by kernel_rfl
abbrev KV:Nat:=195
theorem pB:Tryz.prog.funcs[195]?=some Tryz.f195:=Tryz.func195
theorem qr:aZ Tryz.f195=false:=by kernel_rfl
abbrev K1:Nat:=196
theorem Je:Tryz.prog.funcs[196]?=some Tryz.f196:=Tryz.func196
theorem Jz:aZ Tryz.f196=false:=by kernel_rfl
abbrev HX:Nat:=197
theorem vy:Tryz.prog.funcs[197]?=some Tryz.f197:=Tryz.func197
theorem wb:aZ Tryz.f197=false:=by kernel_rfl
abbrev LG:Nat:=198
theorem Jv:Tryz.prog.funcs[198]?=some Tryz.f198:=Tryz.func198
theorem Hs:aZ Tryz.f198=false:=by kernel_rfl
abbrev GJ:Nat:=199
theorem CP:Tryz.prog.funcs[199]?=some Tryz.f199:=Tryz.func199
theorem Dg:aZ Tryz.f199=false:=by kernel_rfl
abbrev H7:Nat:=200
theorem Gf:Tryz.prog.funcs[200]?=some Tryz.f200:=Tryz.func200
theorem E9:aZ Tryz.f200=false:=by kernel_rfl
abbrev Lm:Nat:=201
theorem qh:Tryz.prog.funcs[201]?=some Tryz.f201:=Tryz.func201
theorem qS:aZ Tryz.f201=false:=by kernel_rfl
abbrev Lb:Nat:=202
theorem Hj:Tryz.prog.funcs[202]?=some Tryz.f202:=Tryz.func202
theorem IW:aZ Tryz.f202=false:=by kernel_rfl
abbrev K5:Nat:=203
theorem IE:Tryz.prog.funcs[203]?=some Tryz.f203:=Tryz.func203
theorem Iw:aZ Tryz.f203=false:=by kernel_rfl
abbrev M5:Nat:=204
theorem KL:Tryz.prog.funcs[204]?=some Tryz.f204:=Tryz.func204
theorem Lh:aZ Tryz.f204=false:=by kernel_rfl
abbrev KI:Nat:=205
theorem yf:Tryz.prog.funcs[205]?=some Tryz.f205:=Tryz.func205
theorem y7:aZ Tryz.f205=false:=by kernel_rfl
abbrev C9:Nat:=206
theorem qj:Tryz.prog.funcs[206]?=some Tryz.f206:=Tryz.func206
theorem pp:aZ Tryz.f206=false:=by kernel_rfl
abbrev Io:Nat:=207
theorem Gm:Tryz.prog.funcs[207]?=some Tryz.f207:=Tryz.func207
theorem Fc:aZ Tryz.f207=false:=by kernel_rfl
abbrev Gz:Nat:=208
theorem DK:Tryz.prog.funcs[208]?=some Tryz.f208:=Tryz.func208
theorem CR:aZ Tryz.f208=false:=by kernel_rfl
abbrev Nu:Nat:=209
theorem KD:Tryz.prog.funcs[209]?=some Tryz.f209:=Tryz.func209
theorem Le:aZ Tryz.f209=false:=by kernel_rfl
abbrev Lw:Nat:=211
theorem ye:Tryz.prog.funcs[211]?=some Tryz.f211:=Tryz.func211
theorem yP:aZ Tryz.f211=false:=by kernel_rfl

end Go.Proofs.YtfcbhfjomgopbaaGreat
