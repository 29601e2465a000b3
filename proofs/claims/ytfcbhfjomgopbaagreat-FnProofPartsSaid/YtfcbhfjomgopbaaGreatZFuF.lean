/- Made by program: names for the numbers of functions and types, and closed facts on them. -/
import Derived.Test.YtfcbhfjomgopbaaGreatZFuS
import Derived.Test.YtfcbhfjomgopbaaGreatProg
import Derived.KernelRfl
namespace Go.Proofs.YtfcbhfjomgopbaaGreat
open Go
abbrev aY (f:Func):Bool:=f.name == "runtime.NumGoroutine" || f.body.isNone
abbrev bZ:Nat:=3
theorem av:iq Tryz.prog 3=true:=by kernel_rfl
theorem K2:fg Tryz.prog 3=some (.int .i64 0):=by kernel_rfl
theorem fj:Tryz.prog.underlying 3=some (.int .i64):=by kernel_rfl
abbrev CH:Nat:=4
theorem HR:iq Tryz.prog 4=true:=by kernel_rfl
theorem ry:Tryz.prog.underlying 4=some .bool:=by kernel_rfl
abbrev HW:Nat:=5
theorem BX:iq Tryz.prog 5=true:=by kernel_rfl
theorem ge:Tryz.prog.underlying 5=some (.int .u8):=by kernel_rfl
abbrev jx:Nat:=9
theorem aJ:iq Tryz.prog 9=true:=by kernel_rfl
theorem aT:Tryz.prog.underlying 9=some .string:=by kernel_rfl
theorem pU:cF Tryz.prog 22=some (60,5):=by kernel_rfl
theorem Ft:iq Tryz.prog 23=true:=by kernel_rfl
theorem xV:cF Tryz.prog 23=some (25,4):=by kernel_rfl
theorem Jh:kj Tryz.prog 25=some 4:=by kernel_rfl
theorem MH:bO Tryz.prog 25 0=some 0:=by kernel_rfl
theorem LH:bO Tryz.prog 25 1=some 1:=by kernel_rfl
theorem LP:bO Tryz.prog 25 2=some 2:=by kernel_rfl
theorem Li:bO Tryz.prog 25 3=some 3:=by kernel_rfl
abbrev Ml:Nat:=32
theorem hY:fN Tryz.prog 32=some (56,5,80,(.agg #[(.int .i64 0),(.int .i64 0),(.string ⟨#[]⟩),(.slice none 0 0),(.slice none 0 0)])):=by kernel_rfl
theorem bL:cF Tryz.prog 32=some (56,5):=by kernel_rfl
abbrev uB:Nat:=34
theorem ah:iq Tryz.prog 34=true:=by kernel_rfl
theorem bp:fN Tryz.prog 34=some (36,4,56,(.agg #[(.int .i64 0),(.int .i64 0),(.string ⟨#[]⟩),(.slice none 0 0)])):=by kernel_rfl
theorem af:cF Tryz.prog 34=some (36,4):=by kernel_rfl
abbrev ab:Nat:=36
theorem ac:kj Tryz.prog 36=some 4:=by kernel_rfl
theorem aQ:fg Tryz.prog 36=some (.agg #[(.int .i64 0),(.int .i64 0),(.string ⟨#[]⟩),(.slice none 0 0)]):=by kernel_rfl
theorem aE:bO Tryz.prog 36 0=some 0:=by kernel_rfl
theorem aM:bO Tryz.prog 36 1=some 1:=by kernel_rfl
theorem aO:bO Tryz.prog 36 2=some 2:=by kernel_rfl
theorem al:bO Tryz.prog 36 3=some 3:=by kernel_rfl
abbrev FW:Nat:=37
theorem bk:iq Tryz.prog 37=true:=by kernel_rfl
theorem gU:fN Tryz.prog 37=some (39,6,88,(.agg #[(.int .i64 0),(.int .i64 0),(.string ⟨#[]⟩),(.slice none 0 0),(.int .i64 0),(.slice none 0 0)])):=by kernel_rfl
theorem bz:cF Tryz.prog 37=some (39,6):=by kernel_rfl
abbrev ag:Nat:=39
theorem aN:kj Tryz.prog 39=some 6:=by kernel_rfl
theorem dh:fg Tryz.prog 39=some (.agg #[(.int .i64 0),(.int .i64 0),(.string ⟨#[]⟩),(.slice none 0 0),(.int .i64 0),(.slice none 0 0)]):=by kernel_rfl
theorem cQ:bO Tryz.prog 39 0=some 0:=by kernel_rfl
theorem cA:bO Tryz.prog 39 1=some 4:=by kernel_rfl
theorem be:bO Tryz.prog 39 2=some 5:=by kernel_rfl
abbrev IE:Nat:=44
theorem g6:iq Tryz.prog 44=true:=by kernel_rfl
theorem xJ:fN Tryz.prog 44=some (5,1,1,(.int .u8 0)):=by kernel_rfl
theorem dN:cF Tryz.prog 44=some (5,1):=by kernel_rfl
abbrev MB:Nat:=49
theorem eG:iq Tryz.prog 49=true:=by kernel_rfl
theorem ip:fN Tryz.prog 49=some (3,1,8,(.int .i64 0)):=by kernel_rfl
theorem bV:cF Tryz.prog 49=some (3,1):=by kernel_rfl
abbrev aw:Nat:=56
theorem bo:kj Tryz.prog 56=some 5:=by kernel_rfl
theorem dF:fg Tryz.prog 56=some (.agg #[(.int .i64 0),(.int .i64 0),(.string ⟨#[]⟩),(.slice none 0 0),(.slice none 0 0)]):=by kernel_rfl
theorem cG:bO Tryz.prog 56 0=some 0:=by kernel_rfl
theorem bm:bO Tryz.prog 56 1=some 4:=by kernel_rfl
theorem LR:kj Tryz.prog 60=some 5:=by kernel_rfl
theorem GO:bO Tryz.prog 60 0=some 0:=by kernel_rfl
theorem GV:bO Tryz.prog 60 1=some 4:=by kernel_rfl
abbrev gG:Nat:=70
theorem rC:iq Tryz.prog 70=true:=by kernel_rfl
abbrev FN:Nat:=72
theorem Mw:kj Tryz.prog 72=some 20:=by kernel_rfl
theorem MP:fg Tryz.prog 72=some (.agg #[(.bool false),(.bool false),(.bool false),(.bool false),(.bool false),(.bool false),(.bool false),(.bool false),(.bool false),(.bool false),(.bool false),(.bool false),(.bool false),(.bool false),(.bool false),(.bool false),(.bool false),(.bool false),(.bool false),(.bool false)]):=by kernel_rfl
theorem PZ:fN Tryz.prog 75=some (4,1,1,(.bool false)):=by kernel_rfl
theorem BO:cF Tryz.prog 75=some (4,1):=by kernel_rfl
theorem rz:fN Tryz.prog 88=some (162,5,64,(.agg #[(.int .i64 0),(.int .i64 0),(.int .i64 0),(.string ⟨#[]⟩),(.slice none 0 0)])):=by kernel_rfl
theorem EY:cF Tryz.prog 88=some (162,5):=by kernel_rfl
theorem sM:iq Tryz.prog 92=true:=by kernel_rfl
theorem dR:Tryz.prog.underlying 92=some (.map 3 36):=by kernel_rfl
abbrev Jf:Nat:=98
theorem fq:bO Tryz.prog 98 0=some 0:=by kernel_rfl
theorem ro:bO Tryz.prog 98 1=some 1:=by kernel_rfl
abbrev kD:Nat:=113
theorem tN:iq Tryz.prog 113=true:=by kernel_rfl
abbrev xK:Nat:=120
theorem KY:iq Tryz.prog 120=true:=by kernel_rfl
theorem Cw:fN Tryz.prog 120=some (9,1,16,(.string ⟨#[]⟩)):=by kernel_rfl
theorem cg:cF Tryz.prog 120=some (9,1):=by kernel_rfl
theorem fm:iq Tryz.prog 127=true:=by kernel_rfl
theorem qr:fN Tryz.prog 127=some (175,5,64,(.agg #[(.int .i64 0),(.int .i64 0),(.string ⟨#[]⟩),(.slice none 0 0),(.int .i64 0)])):=by kernel_rfl
theorem jw:cF Tryz.prog 127=some (175,5):=by kernel_rfl
theorem du:iq Tryz.prog 128=true:=by kernel_rfl
theorem ei:fN Tryz.prog 128=some (180,7,128,(.agg #[(.int .i64 0),(.int .i64 0),(.string ⟨#[]⟩),(.slice none 0 0),(.slice none 0 0),(.slice none 0 0),(.slice none 0 0)])):=by kernel_rfl
theorem gJ:cF Tryz.prog 128=some (180,7):=by kernel_rfl
abbrev bM:Nat:=130
theorem bW:kj Tryz.prog 130=some 3:=by kernel_rfl
theorem gg:fg Tryz.prog 130=some (.agg #[(.slice none 0 0),(.slice none 0 0),(.slice none 0 0)]):=by kernel_rfl
theorem fK:bO Tryz.prog 130 0=some 0:=by kernel_rfl
theorem jd:bO Tryz.prog 130 1=some 1:=by kernel_rfl
theorem dp:bO Tryz.prog 130 2=some 2:=by kernel_rfl
abbrev qV:Nat:=132
theorem gy:iq Tryz.prog 132=true:=by kernel_rfl
theorem eF:fN Tryz.prog 132=some (183,6,72,(.agg #[(.int .i64 0),(.int .i64 0),(.string ⟨#[]⟩),(.slice none 0 0),(.int .i64 0),(.int .i64 0)])):=by kernel_rfl
theorem HT:cF Tryz.prog 132=some (183,6):=by kernel_rfl
abbrev HM:Nat:=133
theorem gN:iq Tryz.prog 133=true:=by kernel_rfl
theorem jc:fN Tryz.prog 133=some (132,1,24,(.slice none 0 0)):=by kernel_rfl
theorem tx:cF Tryz.prog 133=some (132,1):=by kernel_rfl
abbrev aP:Nat:=135
theorem aR:kj Tryz.prog 135=some 5:=by kernel_rfl
theorem dC:fg Tryz.prog 135=some (.agg #[(.slice none 0 0),(.slice none 0 0),(.slice none 0 0),(.slice none 0 0),(.slice none 0 0)]):=by kernel_rfl
theorem bJ:bO Tryz.prog 135 0=some 0:=by kernel_rfl
theorem fJ:bO Tryz.prog 135 1=some 3:=by kernel_rfl
theorem fI:bO Tryz.prog 135 2=some 4:=by kernel_rfl
abbrev dt:Nat:=155
theorem lT:bO Tryz.prog 155 0=some 0:=by kernel_rfl
theorem gh:bO Tryz.prog 155 1=some 1:=by kernel_rfl
abbrev dj:Nat:=162
theorem I7:cF Tryz.prog 169=some (120,1):=by kernel_rfl
abbrev iU:Nat:=175
theorem CY:kj Tryz.prog 175=some 5:=by kernel_rfl
theorem Lw:fg Tryz.prog 175=some (.agg #[(.int .i64 0),(.int .i64 0),(.string ⟨#[]⟩),(.slice none 0 0),(.int .i64 0)]):=by kernel_rfl
theorem HS:bO Tryz.prog 175 0=some 0:=by kernel_rfl
abbrev cz:Nat:=180
theorem dx:kj Tryz.prog 180=some 7:=by kernel_rfl
theorem kl:fg Tryz.prog 180=some (.agg #[(.int .i64 0),(.int .i64 0),(.string ⟨#[]⟩),(.slice none 0 0),(.slice none 0 0),(.slice none 0 0),(.slice none 0 0)]):=by kernel_rfl
theorem lf:bO Tryz.prog 180 0=some 0:=by kernel_rfl
theorem qJ:bO Tryz.prog 180 1=some 4:=by kernel_rfl
theorem dq:bO Tryz.prog 180 2=some 5:=by kernel_rfl
theorem lF:bO Tryz.prog 180 3=some 6:=by kernel_rfl
abbrev gV:Nat:=183
theorem DU:bO Tryz.prog 183 0=some 0:=by kernel_rfl
theorem Ez:bO Tryz.prog 183 1=some 4:=by kernel_rfl
theorem D9:bO Tryz.prog 183 2=some 5:=by kernel_rfl
abbrev gZ:Nat:=207
abbrev cR:Nat:=5
abbrev di:Nat:=8
abbrev BB:Nat:=11
theorem pp:Tryz.prog.funcs[11]?=some Tryz.f11:=Tryz.func11
theorem pn:aY Tryz.f11=false:=by kernel_rfl
abbrev tu:Nat:=12
theorem CL:Tryz.prog.funcs[12]?=some Tryz.f12:=Tryz.func12
theorem C1:aY Tryz.f12=false:=by kernel_rfl
abbrev BH:Nat:=14
theorem pd:Tryz.prog.funcs[14]?=some Tryz.f14:=Tryz.func14
theorem o0:aY Tryz.f14=false:=by kernel_rfl
abbrev En:Nat:=18
theorem CN:Tryz.prog.funcs[18]?=some Tryz.f18:=Tryz.func18
theorem CG:aY Tryz.f18=false:=by kernel_rfl
abbrev Bv:Nat:=20
theorem o3:Tryz.prog.funcs[20]?=some Tryz.f20:=Tryz.func20
theorem oW:aY Tryz.f20=false:=by kernel_rfl
abbrev rM:Nat:=21
theorem qW:Tryz.prog.funcs[21]?=some Tryz.f21:=Tryz.func21
theorem pV:aY Tryz.f21=false:=by kernel_rfl
abbrev Aw:Nat:=22
theorem nD:Tryz.prog.funcs[22]?=some Tryz.f22:=Tryz.func22
theorem nS:aY Tryz.f22=false:=by kernel_rfl
abbrev K8:Nat:=23
theorem KG:Tryz.prog.funcs[23]?=some Tryz.f23:=Tryz.func23
theorem JU:aY Tryz.f23=false:=by kernel_rfl
abbrev AA:Nat:=24
theorem xS:Tryz.prog.funcs[24]?=some Tryz.f24:=Tryz.func24
theorem yn:aY Tryz.f24=false:=by kernel_rfl
abbrev tW:Nat:=25
theorem rU:Tryz.prog.funcs[25]?=some Tryz.f25:=Tryz.func25
theorem rO:aY Tryz.f25=false:=by kernel_rfl
abbrev ya:Nat:=26
theorem wu:Tryz.prog.funcs[26]?=some Tryz.f26:=Tryz.func26
theorem xn:aY Tryz.f26=false:=by kernel_rfl
abbrev yk:Nat:=30
theorem xy:Tryz.prog.funcs[30]?=some Tryz.f30:=Tryz.func30
theorem vH:aY Tryz.f30=false:=by kernel_rfl
abbrev BQ:Nat:=31
theorem jW:Tryz.prog.funcs[31]?=some Tryz.f31:=Tryz.func31
theorem jO:aY Tryz.f31=false:=by kernel_rfl
abbrev HV:Nat:=32
theorem sn:Tryz.prog.funcs[32]?=some Tryz.f32:=Tryz.func32
theorem tl:aY Tryz.f32=false:=by kernel_rfl
abbrev uT:Nat:=33
theorem tq:Tryz.prog.funcs[33]?=some Tryz.f33:=Tryz.func33
theorem sF:aY Tryz.f33=false:=by kernel_rfl
abbrev ul:Nat:=34
theorem p8:Tryz.prog.funcs[34]?=some Tryz.f34:=Tryz.func34
theorem qQ:aY Tryz.f34=false:=by kernel_rfl
abbrev LY:Nat:=36
theorem zx:Tryz.prog.funcs[36]?=some Tryz.f36:=Tryz.func36
theorem zz:aY Tryz.f36=false:=by kernel_rfl
abbrev ui:Nat:=40
theorem rI:Tryz.prog.funcs[40]?=some Tryz.f40:=Tryz.func40
theorem rX:aY Tryz.f40=false:=by kernel_rfl
abbrev D3:Nat:=41
theorem lO:Tryz.prog.funcs[41]?=some Tryz.f41:=Tryz.func41
theorem lj:aY Tryz.f41=false:=by kernel_rfl
abbrev KD:Nat:=42
theorem u3:Tryz.prog.funcs[42]?=some Tryz.f42:=Tryz.func42
theorem vP:aY Tryz.f42=false:=by kernel_rfl
abbrev P1:Nat:=43
theorem EM:Tryz.prog.funcs[43]?=some Tryz.f43:=Tryz.func43
theorem FK:aY Tryz.f43=false:=by kernel_rfl
abbrev I0:Nat:=44
theorem vj:Tryz.prog.funcs[44]?=some Tryz.f44:=Tryz.func44
theorem vO:aY Tryz.f44=false:=by kernel_rfl
abbrev KO:Nat:=45
theorem wK:Tryz.prog.funcs[45]?=some Tryz.f45:=Tryz.func45
theorem uv:aY Tryz.f45=false:=by kernel_rfl
abbrev Jm:Nat:=46
theorem uM:Tryz.prog.funcs[46]?=some Tryz.f46:=Tryz.func46
theorem wn:aY Tryz.f46=false:=by kernel_rfl
abbrev Cv:Nat:=47
theorem bP:Tryz.prog.funcs[47]?=some Tryz.f47:=Tryz.func47
theorem bN:aY Tryz.f47=false:=by kernel_rfl
abbrev Au:Nat:=48
theorem yK:Tryz.prog.funcs[48]?=some Tryz.f48:=Tryz.func48
theorem xB:aY Tryz.f48=false:=by kernel_rfl
abbrev tk:Nat:=49
theorem kU:Tryz.prog.funcs[49]?=some Tryz.f49:=Tryz.func49
theorem lI:aY Tryz.f49=false:=by kernel_rfl
abbrev nI:Nat:=50
theorem mS:Tryz.prog.funcs[50]?=some Tryz.f50:=Tryz.func50
theorem mL:aY Tryz.f50=false:=by kernel_rfl
abbrev lL:Nat:=51
theorem r8:Tryz.prog.funcs[51]?=some Tryz.f51:=Tryz.func51
theorem rZ:aY Tryz.f51=false:=by kernel_rfl
abbrev AM:Nat:=52
theorem yE:Tryz.prog.funcs[52]?=some Tryz.f52:=Tryz.func52
theorem yJ:aY Tryz.f52=false:=by kernel_rfl
abbrev Ax:Nat:=54
theorem nl:Tryz.prog.funcs[54]?=some Tryz.f54:=Tryz.func54
theorem nw:aY Tryz.f54=false:=by kernel_rfl
abbrev Hw:Nat:=55
theorem tf:Tryz.prog.funcs[55]?=some Tryz.f55:=Tryz.func55
theorem sS:aY Tryz.f55=false:=by kernel_rfl
abbrev IQ:Nat:=56
theorem H7:Tryz.prog.funcs[56]?=some Tryz.f56:=Tryz.func56
theorem Gm:aY Tryz.f56=false:=by kernel_rfl
abbrev qx:Nat:=57
theorem ou:Tryz.prog.funcs[57]?=some Tryz.f57:=Tryz.func57
theorem ot:aY Tryz.f57=false:=by kernel_rfl
abbrev Am:Nat:=58
theorem yu:Tryz.prog.funcs[58]?=some Tryz.f58:=Tryz.func58
theorem yq:aY Tryz.f58=false:=by kernel_rfl
abbrev IL:Nat:=59
theorem kC:Tryz.prog.funcs[59]?=some Tryz.f59:=Tryz.func59
theorem kA:aY Tryz.f59=false:=by kernel_rfl
abbrev HC:Nat:=60
theorem ja:Tryz.prog.funcs[60]?=some Tryz.f60:=Tryz.func60
theorem jp:aY Tryz.f60=false:=by kernel_rfl
abbrev NZ:Nat:=61
theorem oJ:Tryz.prog.funcs[61]?=some Tryz.f61:=Tryz.func61
theorem oG:aY Tryz.f61=false:=by kernel_rfl
abbrev Eh:Nat:=63
theorem qP:Tryz.prog.funcs[63]?=some Tryz.f63:=Tryz.func63
theorem pR:aY Tryz.f63=false:=by kernel_rfl
abbrev Mb:Nat:=64
theorem g7:Tryz.prog.funcs[64]?=some Tryz.f64:=Tryz.func64
theorem g0:aY Tryz.f64=false:=by kernel_rfl
abbrev oz:Nat:=65
theorem nR:Tryz.prog.funcs[65]?=some Tryz.f65:=Tryz.func65
theorem oc:aY Tryz.f65=false:=by kernel_rfl
abbrev AG:Nat:=66
theorem xX:Tryz.prog.funcs[66]?=some Tryz.f66:=Tryz.func66
theorem xP:aY Tryz.f66=false:=by kernel_rfl
abbrev Iw:Nat:=67
theorem HJ:Tryz.prog.funcs[67]?=some Tryz.f67:=Tryz.func67
theorem H6:aY Tryz.f67=false:=by kernel_rfl
abbrev Ka:Nat:=68
theorem Gi:Tryz.prog.funcs[68]?=some Tryz.f68:=Tryz.func68
theorem GH:aY Tryz.f68=false:=by kernel_rfl
abbrev G0:Nat:=69
theorem EE:Tryz.prog.funcs[69]?=some Tryz.f69:=Tryz.func69
theorem Ei:aY Tryz.f69=false:=by kernel_rfl
abbrev uW:Nat:=70
theorem dr:Tryz.prog.funcs[70]?=some Tryz.f70:=Tryz.func70
theorem dv:aY Tryz.f70=false:=by kernel_rfl
abbrev uf:Nat:=71
theorem eh:Tryz.prog.funcs[71]?=some Tryz.f71:=Tryz.func71
theorem er:aY Tryz.f71=false:=by kernel_rfl
abbrev D5:Nat:=72
theorem ez:Tryz.prog.funcs[72]?=some Tryz.f72:=Tryz.func72
theorem ey:aY Tryz.f72=false:=by kernel_rfl
abbrev GP:Nat:=73
theorem mR:Tryz.prog.funcs[73]?=some Tryz.f73:=Tryz.func73
theorem mI:aY Tryz.f73=false:=by kernel_rfl
abbrev LF:Nat:=74
theorem jt:Tryz.prog.funcs[74]?=some Tryz.f74:=Tryz.func74
theorem jG:aY Tryz.f74=false:=by kernel_rfl
abbrev pQ:Nat:=75
theorem pA:Tryz.prog.funcs[75]?=some Tryz.f75:=Tryz.func75
theorem py:aY Tryz.f75=false:=by kernel_rfl
abbrev Ee:Nat:=76
theorem kR:Tryz.prog.funcs[76]?=some Tryz.f76:=Tryz.func76
theorem kQ:aY Tryz.f76=false:=by kernel_rfl
abbrev Kw:Nat:=77
theorem xe:Tryz.prog.funcs[77]?=some Tryz.f77:=Tryz.func77
theorem vy:aY Tryz.f77=false:=by kernel_rfl
abbrev Ck:Nat:=78
theorem AH:Tryz.prog.funcs[78]?=some Tryz.f78:=Tryz.func78
theorem AB:aY Tryz.f78=false:=by kernel_rfl
abbrev DH:Nat:=79
theorem lP:Tryz.prog.funcs[79]?=some Tryz.f79:=Tryz.func79
theorem kN:aY Tryz.f79=false:=by kernel_rfl
abbrev DZ:Nat:=80
theorem fW:Tryz.prog.funcs[80]?=some Tryz.f80:=Tryz.func80
theorem fX:aY Tryz.f80=false:=by kernel_rfl
abbrev KK:Nat:=81
theorem xt:Tryz.prog.funcs[81]?=some Tryz.f81:=Tryz.func81
theorem vQ:aY Tryz.f81=false:=by kernel_rfl
abbrev D2:Nat:=82
theorem fU:Tryz.prog.funcs[82]?=some Tryz.f82:=Tryz.func82
theorem fY:aY Tryz.f82=false:=by kernel_rfl
abbrev H4:Nat:=83
theorem Em:Tryz.prog.funcs[83]?=some Tryz.f83:=Tryz.func83
theorem Es:aY Tryz.f83=false:=by kernel_rfl
abbrev Ke:Nat:=84
theorem oO:Tryz.prog.funcs[84]?=some Tryz.f84:=Tryz.func84
theorem oF:aY Tryz.f84=false:=by kernel_rfl
abbrev NK:Nat:=85
theorem oo:Tryz.prog.funcs[85]?=some Tryz.f85:=Tryz.func85
theorem oT:aY Tryz.f85=false:=by kernel_rfl
abbrev HF:Nat:=86
theorem D0:Tryz.prog.funcs[86]?=some Tryz.f86:=Tryz.func86
theorem D6:aY Tryz.f86=false:=by kernel_rfl
abbrev BV:Nat:=87
theorem As:Tryz.prog.funcs[87]?=some Tryz.f87:=Tryz.func87
theorem Al:aY Tryz.f87=false:=by kernel_rfl
abbrev Dx:Nat:=88
theorem C9:Tryz.prog.funcs[88]?=some Tryz.f88:=Tryz.func88
theorem BK:aY Tryz.f88=false:=by kernel_rfl
abbrev Ev:Nat:=89
theorem BT:Tryz.prog.funcs[89]?=some Tryz.f89:=Tryz.func89
theorem Ds:aY Tryz.f89=false:=by kernel_rfl
abbrev oB:Nat:=90
theorem mQ:Tryz.prog.funcs[90]?=some Tryz.f90:=Tryz.func90
theorem mJ:aY Tryz.f90=false:=by kernel_rfl
abbrev K1:Nat:=91
theorem zt:Tryz.prog.funcs[91]?=some Tryz.f91:=Tryz.func91
theorem zH:aY Tryz.f91=false:=by kernel_rfl
abbrev r3:Nat:=92
theorem qi:Tryz.prog.funcs[92]?=some Tryz.f92:=Tryz.func92
theorem qO:aY Tryz.f92=false:=by kernel_rfl
abbrev nJ:Nat:=93
theorem mf:Tryz.prog.funcs[93]?=some Tryz.f93:=Tryz.func93
theorem l8:aY Tryz.f93=false:=by kernel_rfl
abbrev Kr:Nat:=94
theorem u5:Tryz.prog.funcs[94]?=some Tryz.f94:=Tryz.func94
theorem vL:aY Tryz.f94=false:=by kernel_rfl
abbrev Gs:Nat:=95
theorem D1:Tryz.prog.funcs[95]?=some Tryz.f95:=Tryz.func95
theorem DL:aY Tryz.f95=false:=by kernel_rfl
abbrev LU:Nat:=96
theorem Iv:Tryz.prog.funcs[96]?=some Tryz.f96:=Tryz.func96
theorem Iy:aY Tryz.f96=false:=by kernel_rfl
abbrev In:Nat:=97
theorem Hr:Tryz.prog.funcs[97]?=some Tryz.f97:=Tryz.func97
theorem HA:aY Tryz.f97=false:=by kernel_rfl
abbrev MI:Nat:=98
theorem Je:Tryz.prog.funcs[98]?=some Tryz.f98:=Tryz.func98
theorem Ih:aY Tryz.f98=false:=by kernel_rfl
abbrev Ki:Nat:=99
theorem GC:Tryz.prog.funcs[99]?=some Tryz.f99:=Tryz.func99
theorem HU:aY Tryz.f99=false:=by kernel_rfl
abbrev GJ:Nat:=100
theorem s7:Tryz.prog.funcs[100]?=some Tryz.f100:=Tryz.func100
theorem tg:aY Tryz.f100=false:=by kernel_rfl
abbrev s0:Nat:=101
theorem qz:Tryz.prog.funcs[101]?=some Tryz.f101:=Tryz.func101
theorem qC:aY Tryz.f101=false:=by kernel_rfl
abbrev IV:Nat:=102
theorem uy:Tryz.prog.funcs[102]?=some Tryz.f102:=Tryz.func102
theorem wv:aY Tryz.f102=false:=by kernel_rfl
abbrev Bg:Nat:=103
theorem zy:Tryz.prog.funcs[103]?=some Tryz.f103:=Tryz.func103
theorem zP:aY Tryz.f103=false:=by kernel_rfl
abbrev KU:Nat:=104
theorem zA:Tryz.prog.funcs[104]?=some Tryz.f104:=Tryz.func104
theorem zd:aY Tryz.f104=false:=by kernel_rfl
abbrev HQ:Nat:=105
theorem jl:Tryz.prog.funcs[105]?=some Tryz.f105:=Tryz.func105
theorem jj:aY Tryz.f105=false:=by kernel_rfl
abbrev NQ:Nat:=106
theorem ow:Tryz.prog.funcs[106]?=some Tryz.f106:=Tryz.func106
theorem ov:aY Tryz.f106=false:=by kernel_rfl
abbrev Oo:Nat:=107
theorem BU:Tryz.prog.funcs[107]?=some Tryz.f107:=Tryz.func107
theorem Dh:aY Tryz.f107=false:=by kernel_rfl
abbrev O0:Nat:=108
theorem ES:Tryz.prog.funcs[108]?=some Tryz.f108:=Tryz.func108
theorem FP:aY Tryz.f108=false:=by kernel_rfl
abbrev DI:Nat:=109
theorem pK:Tryz.prog.funcs[109]?=some Tryz.f109:=Tryz.func109
theorem p7:aY Tryz.f109=false:=by kernel_rfl
abbrev Pl:Nat:=110
theorem NR:Tryz.prog.funcs[110]?=some Tryz.f110:=Tryz.func110
theorem Ot:aY Tryz.f110=false:=by kernel_rfl
abbrev iI:Nat:=111
theorem fG:Tryz.prog.funcs[111]?=some Tryz.f111:=Tryz.func111
theorem fF:aY Tryz.f111=false:=by kernel_rfl
abbrev oa:Nat:=112
theorem vA:Tryz.prog.funcs[112]?=some Tryz.f112:=Tryz.func112
theorem xq:aY Tryz.f112=false:=by kernel_rfl
abbrev Lf:Nat:=113
theorem IA:Tryz.prog.funcs[113]?=some Tryz.f113:=Tryz.func113
theorem Jr:aY Tryz.f113=false:=by kernel_rfl
abbrev JB:Nat:=114
theorem ux:Tryz.prog.funcs[114]?=some Tryz.f114:=Tryz.func114
theorem vI:aY Tryz.f114=false:=by kernel_rfl
abbrev IC:Nat:=115
theorem vK:Tryz.prog.funcs[115]?=some Tryz.f115:=Tryz.func115
theorem wz:aY Tryz.f115=false:=by kernel_rfl
abbrev Lr:Nat:=116
theorem zo:Tryz.prog.funcs[116]?=some Tryz.f116:=Tryz.func116
theorem yZ:aY Tryz.f116=false:=by kernel_rfl
abbrev KI:Nat:=117
theorem eH:Tryz.prog.funcs[117]?=some Tryz.f117:=Tryz.func117
theorem eJ:aY Tryz.f117=false:=by kernel_rfl
abbrev AF:Nat:=118
theorem xW:Tryz.prog.funcs[118]?=some Tryz.f118:=Tryz.func118
theorem yw:aY Tryz.f118=false:=by kernel_rfl
abbrev Gn:Nat:=119
theorem mM:Tryz.prog.funcs[119]?=some Tryz.f119:=Tryz.func119
theorem mN:aY Tryz.f119=false:=by kernel_rfl
abbrev GA:Nat:=120
theorem DP:Tryz.prog.funcs[120]?=some Tryz.f120:=Tryz.func120
theorem DT:aY Tryz.f120=false:=by kernel_rfl
abbrev HD:Nat:=121
theorem ED:Tryz.prog.funcs[121]?=some Tryz.f121:=Tryz.func121
theorem Eb:aY Tryz.f121=false:=by kernel_rfl
abbrev n_i_holds:Nat:=122
theorem fn_i_holds:Tryz.prog.funcs[122]?=some Tryz.f122:=Tryz.func122
theorem nm_i_holds:aY Tryz.f122=false:=by kernel_rfl
abbrev Av:Nat:=123
theorem fi:Tryz.prog.funcs[123]?=some Tryz.f123:=Tryz.func123
theorem eW:aY Tryz.f123=false:=by kernel_rfl
abbrev Dl:Nat:=124
theorem Ag:Tryz.prog.funcs[124]?=some Tryz.f124:=Tryz.func124
theorem AK:aY Tryz.f124=false:=by kernel_rfl
abbrev NL:Nat:=125
theorem ly:Tryz.prog.funcs[125]?=some Tryz.f125:=Tryz.func125
theorem lx:aY Tryz.f125=false:=by kernel_rfl
abbrev Me:Nat:=126
theorem zm:Tryz.prog.funcs[126]?=some Tryz.f126:=Tryz.func126
theorem Af:aY Tryz.f126=false:=by kernel_rfl
abbrev uP:Nat:=127
theorem tL:Tryz.prog.funcs[127]?=some Tryz.f127:=Tryz.func127
theorem tD:aY Tryz.f127=false:=by kernel_rfl
abbrev tI:Nat:=128
theorem rN:Tryz.prog.funcs[128]?=some Tryz.f128:=Tryz.func128
theorem rV:aY Tryz.f128=false:=by kernel_rfl
abbrev My:Nat:=129
theorem Km:Tryz.prog.funcs[129]?=some Tryz.f129:=Tryz.func129
theorem JC:aY Tryz.f129=false:=by kernel_rfl
abbrev Ao:Nat:=130
theorem yD:Tryz.prog.funcs[130]?=some Tryz.f130:=Tryz.func130
theorem yz:aY Tryz.f130=false:=by kernel_rfl
abbrev Md:Nat:=131
theorem ft:Tryz.prog.funcs[131]?=some Tryz.f131:=Tryz.func131
theorem fx:aY Tryz.f131=false:=by kernel_rfl
abbrev IO:Nat:=132
theorem GF:Tryz.prog.funcs[132]?=some Tryz.f132:=Tryz.func132
theorem HB:aY Tryz.f132=false:=by kernel_rfl
abbrev Dq:Nat:=133
theorem oU:Tryz.prog.funcs[133]?=some Tryz.f133:=Tryz.func133
theorem pi:aY Tryz.f133=false:=by kernel_rfl
abbrev Ad:Nat:=134
theorem vY:Tryz.prog.funcs[134]?=some Tryz.f134:=Tryz.func134
theorem vD:aY Tryz.f134=false:=by kernel_rfl
abbrev Jq:Nat:=135
theorem vZ:Tryz.prog.funcs[135]?=some Tryz.f135:=Tryz.func135
theorem wY:aY Tryz.f135=false:=by kernel_rfl
abbrev Kh:Nat:=136
theorem wg:Tryz.prog.funcs[136]?=some Tryz.f136:=Tryz.func136
theorem xp:aY Tryz.f136=false:=by kernel_rfl
abbrev Oz:Nat:=137
theorem MT:Tryz.prog.funcs[137]?=some Tryz.f137:=Tryz.func137
theorem Lc:aY Tryz.f137=false:=by kernel_rfl
abbrev KE:Nat:=138
theorem uS:Tryz.prog.funcs[138]?=some Tryz.f138:=Tryz.func138
theorem vg:aY Tryz.f138=false:=by kernel_rfl
abbrev GW:Nat:=139
theorem tw:Tryz.prog.funcs[139]?=some Tryz.f139:=Tryz.func139
theorem sy:aY Tryz.f139=false:=by kernel_rfl
abbrev MM:Nat:=140
theorem jK:Tryz.prog.funcs[140]?=some Tryz.f140:=Tryz.func140
theorem jA:aY Tryz.f140=false:=by kernel_rfl
abbrev DM:Nat:=141
theorem CA:Tryz.prog.funcs[141]?=some Tryz.f141:=Tryz.func141
theorem Bw:aY Tryz.f141=false:=by kernel_rfl
abbrev Mo:Nat:=142
theorem Jp:Tryz.prog.funcs[142]?=some Tryz.f142:=Tryz.func142
theorem Kf:aY Tryz.f142=false:=by kernel_rfl
abbrev Kj:Nat:=143
theorem HK:Tryz.prog.funcs[143]?=some Tryz.f143:=Tryz.func143
theorem H5:aY Tryz.f143=false:=by kernel_rfl
abbrev kY:Nat:=144
theorem j3:Tryz.prog.funcs[144]?=some Tryz.f144:=Tryz.func144
theorem j6:aY Tryz.f144=false:=by kernel_rfl
abbrev NI:Nat:=145
theorem Mt:Tryz.prog.funcs[145]?=some Tryz.f145:=Tryz.func145
theorem Mq:aY Tryz.f145=false:=by kernel_rfl
abbrev CS:Nat:=146
theorem lZ:Tryz.prog.funcs[146]?=some Tryz.f146:=Tryz.func146
theorem lU:aY Tryz.f146=false:=by kernel_rfl
abbrev rP:Nat:=147
theorem gf:Tryz.prog.funcs[147]?=some Tryz.f147:=Tryz.func147
theorem gp:aY Tryz.f147=false:=by kernel_rfl
abbrev Do:Nat:=148
theorem gQ:Tryz.prog.funcs[148]?=some Tryz.f148:=Tryz.func148
theorem gP:aY Tryz.f148=false:=by kernel_rfl
abbrev Bf:Nat:=149
theorem o4:Tryz.prog.funcs[149]?=some Tryz.f149:=Tryz.func149
theorem oX:aY Tryz.f149=false:=by kernel_rfl
abbrev rL:Nat:=150
theorem jF:Tryz.prog.funcs[150]?=some Tryz.f150:=Tryz.func150
theorem jC:aY Tryz.f150=false:=by kernel_rfl
abbrev Mh:Nat:=151
theorem cV:Tryz.prog.funcs[151]?=some Tryz.f151:=Tryz.func151
theorem cZ:aY Tryz.f151=false:=by kernel_rfl
abbrev KC:Nat:=152
theorem ut:Tryz.prog.funcs[152]?=some Tryz.f152:=Tryz.func152
theorem wN:aY Tryz.f152=false:=by kernel_rfl
abbrev yj:Nat:=153
theorem wb:Tryz.prog.funcs[153]?=some Tryz.f153:=Tryz.func153
theorem uR:aY Tryz.f153=false:=by kernel_rfl
abbrev ID:Nat:=154
theorem Hf:Tryz.prog.funcs[154]?=some Tryz.f154:=Tryz.func154
theorem GE:aY Tryz.f154=false:=by kernel_rfl
abbrev OR:Nat:=155
theorem N5:Tryz.prog.funcs[155]?=some Tryz.f155:=Tryz.func155
theorem NU:aY Tryz.f155=false:=by kernel_rfl
abbrev EB:Nat:=156
theorem Bl:Tryz.prog.funcs[156]?=some Tryz.f156:=Tryz.func156
theorem Bx:aY Tryz.f156=false:=by kernel_rfl
abbrev CM:Nat:=157
theorem Az:Tryz.prog.funcs[157]?=some Tryz.f157:=Tryz.func157
theorem AL:aY Tryz.f157=false:=by kernel_rfl
abbrev IW:Nat:=158
theorem oq:Tryz.prog.funcs[158]?=some Tryz.f158:=Tryz.func158
theorem oN:aY Tryz.f158=false:=by kernel_rfl
abbrev MO:Nat:=159
theorem z0:Tryz.prog.funcs[159]?=some Tryz.f159:=Tryz.func159
theorem yT:aY Tryz.f159=false:=by kernel_rfl
abbrev GK:Nat:=160
theorem DA:Tryz.prog.funcs[160]?=some Tryz.f160:=Tryz.func160
theorem DS:aY Tryz.f160=false:=by kernel_rfl
abbrev Lh:Nat:=161
theorem dV:Tryz.prog.funcs[161]?=some Tryz.f161:=Tryz.func161
theorem dU:aY Tryz.f161=false:=by kernel_rfl
abbrev IR:Nat:=162
theorem fH:Tryz.prog.funcs[162]?=some Tryz.f162:=Tryz.func162
theorem fB:aY Tryz.f162=false:=by kernel_rfl
abbrev JQ:Nat:=163
theorem iu:Tryz.prog.funcs[163]?=some Tryz.f163:=Tryz.func163
theorem ic:aY Tryz.f163=false:=by kernel_rfl
abbrev NM:Nat:=164
theorem LX:Tryz.prog.funcs[164]?=some Tryz.f164:=Tryz.func164
theorem La:aY Tryz.f164=false:=by kernel_rfl
abbrev CC:Nat:=165
theorem AE:Tryz.prog.funcs[165]?=some Tryz.f165:=Tryz.func165
theorem AQ:aY Tryz.f165=false:=by kernel_rfl
abbrev Eg:Nat:=166
theorem CT:Tryz.prog.funcs[166]?=some Tryz.f166:=Tryz.func166
theorem BN:aY Tryz.f166=false:=by kernel_rfl
abbrev LQ:Nat:=167
theorem IP:Tryz.prog.funcs[167]?=some Tryz.f167:=Tryz.func167
theorem Il:aY Tryz.f167=false:=by kernel_rfl
abbrev Ii:Nat:=168
theorem H2:Tryz.prog.funcs[168]?=some Tryz.f168:=Tryz.func168
theorem HZ:aY Tryz.f168=false:=by kernel_rfl
abbrev Ef:Nat:=169
theorem B0:Tryz.prog.funcs[169]?=some Tryz.f169:=Tryz.func169
theorem CX:aY Tryz.f169=false:=by kernel_rfl
abbrev Dc:Nat:=170
theorem mn:Tryz.prog.funcs[170]?=some Tryz.f170:=Tryz.func170
theorem mA:aY Tryz.f170=false:=by kernel_rfl
abbrev xT:Nat:=171
theorem ve:Tryz.prog.funcs[171]?=some Tryz.f171:=Tryz.func171
theorem wZ:aY Tryz.f171=false:=by kernel_rfl
abbrev xG:Nat:=172
theorem iy:Tryz.prog.funcs[172]?=some Tryz.f172:=Tryz.func172
theorem iv:aY Tryz.f172=false:=by kernel_rfl
abbrev LV:Nat:=173
theorem JP:Tryz.prog.funcs[173]?=some Tryz.f173:=Tryz.func173
theorem Jy:aY Tryz.f173=false:=by kernel_rfl
abbrev J0:Nat:=175
theorem HG:Tryz.prog.funcs[175]?=some Tryz.f175:=Tryz.func175
theorem Gp:aY Tryz.f175=false:=by kernel_rfl
abbrev Kg:Nat:=176
theorem kr:Tryz.prog.funcs[176]?=some Tryz.f176:=Tryz.func176
theorem j8:aY Tryz.f176=false:=by kernel_rfl
abbrev GG:Nat:=177
theorem Eo:Tryz.prog.funcs[177]?=some Tryz.f177:=Tryz.func177
theorem Eu:aY Tryz.f177=false:=by kernel_rfl
abbrev LN:Nat:=178
theorem y4:Tryz.prog.funcs[178]?=some Tryz.f178:=Tryz.func178
theorem ze:aY Tryz.f178=false:=by kernel_rfl
abbrev Jv:Nat:=179
theorem vU:Tryz.prog.funcs[179]?=some Tryz.f179:=Tryz.func179
theorem xr:aY Tryz.f179=false:=by kernel_rfl
abbrev Ob:Nat:=180
theorem MN:Tryz.prog.funcs[180]?=some Tryz.f180:=Tryz.func180
theorem Lg:aY Tryz.f180=false:=by kernel_rfl
abbrev Ha:Nat:=181
theorem Du:Tryz.prog.funcs[181]?=some Tryz.f181:=Tryz.func181
theorem DW:aY Tryz.f181=false:=by kernel_rfl
abbrev Pw:Nat:=182
theorem Od:Tryz.prog.funcs[182]?=some Tryz.f182:=Tryz.func182
theorem NO:aY Tryz.f182=false:=by kernel_rfl
abbrev JO:Nat:=183
theorem GQ:Tryz.prog.funcs[183]?=some Tryz.f183:=Tryz.func183
theorem Ge:aY Tryz.f183=false:=by kernel_rfl
abbrev Oh:Nat:=184
theorem LA:Tryz.prog.funcs[184]?=some Tryz.f184:=Tryz.func184
theorem Ms:aY Tryz.f184=false:=by kernel_rfl
abbrev JG:Nat:=185
theorem wG:Tryz.prog.funcs[185]?=some Tryz.f185:=Tryz.func185
theorem uX:aY Tryz.f185=false:=by kernel_rfl
abbrev tH:Nat:=186
theorem r6:Tryz.prog.funcs[186]?=some Tryz.f186:=Tryz.func186
theorem rK:aY Tryz.f186=false:=by kernel_rfl
abbrev Mr:Nat:=187
theorem fV:Tryz.prog.funcs[187]?=some Tryz.f187:=Tryz.func187
theorem fR:aY Tryz.f187=false:=by kernel_rfl
abbrev Kd:Nat:=188
theorem wX:Tryz.prog.funcs[188]?=some Tryz.f188:=Tryz.func188
theorem wd:aY Tryz.f188=false:=by kernel_rfl
abbrev LM:Nat:=189
theorem Ix:Tryz.prog.funcs[189]?=some Tryz.f189:=Tryz.func189
theorem Jb:aY Tryz.f189=false:=by kernel_rfl
abbrev Ik:Nat:=190
theorem vz:Tryz.prog.funcs[190]?=some Tryz.f190:=Tryz.func190
theorem wW:aY Tryz.f190=false:=by kernel_rfl
abbrev JW:Nat:=191
theorem HN:Tryz.prog.funcs[191]?=some Tryz.f191:=Tryz.func191
theorem Hi:aY Tryz.f191=false:=by kernel_rfl
abbrev Hl:Nat:=192
theorem mT:Tryz.prog.funcs[192]?=some Tryz.f192:=Tryz.func192
theorem mG:aY Tryz.f192=false:=by kernel_rfl
abbrev N7:Nat:=193
theorem K9:Tryz.prog.funcs[193]?=some Tryz.f193:=Tryz.func193
theorem LO:aY Tryz.f193=false:=by kernel_rfl
abbrev Og:Nat:=194
theorem L0:Tryz.prog.funcs[194]?=some Tryz.f194:=Tryz.func194
theorem MU:aY Tryz.f194=false:=by kernel_rfl
abbrev KT:Nat:=195
theorem re:Tryz.prog.funcs[195]?=some Tryz.f195:=Tryz.func195
theorem qm:aY Tryz.f195=false:=by kernel_rfl
abbrev Ll:Nat:=196
theorem Ic:Tryz.prog.funcs[196]?=some Tryz.f196:=Tryz.func196
theorem Kb:aY Tryz.f196=false:=by kernel_rfl
abbrev Ir:Nat:=197
theorem u6:Tryz.prog.funcs[197]?=some Tryz.f197:=Tryz.func197
theorem xo:aY Tryz.f197=false:=by kernel_rfl
abbrev Mp:Nat:=198
theorem Jz:Tryz.prog.funcs[198]?=some Tryz.f198:=Tryz.func198
theorem Kx:aY Tryz.f198=false:=by kernel_rfl
abbrev Hx:Nat:=199
theorem EF:Tryz.prog.funcs[199]?=some Tryz.f199:=Tryz.func199
theorem Ex:aY Tryz.f199=false:=by kernel_rfl
abbrev I8:Nat:=200
theorem Gg:Tryz.prog.funcs[200]?=some Tryz.f200:=Tryz.func200
theorem Ho:aY Tryz.f200=false:=by kernel_rfl
abbrev LK:Nat:=201
theorem qF:Tryz.prog.funcs[201]?=some Tryz.f201:=Tryz.func201
theorem qg:aY Tryz.f201=false:=by kernel_rfl
abbrev KR:Nat:=202
theorem JR:Tryz.prog.funcs[202]?=some Tryz.f202:=Tryz.func202
theorem IH:aY Tryz.f202=false:=by kernel_rfl
abbrev K4:Nat:=203
theorem J9:Tryz.prog.funcs[203]?=some Tryz.f203:=Tryz.func203
theorem Ie:aY Tryz.f203=false:=by kernel_rfl
abbrev NF:Nat:=204
theorem LJ:Tryz.prog.funcs[204]?=some Tryz.f204:=Tryz.func204
theorem LI:aY Tryz.f204=false:=by kernel_rfl
abbrev Mi:Nat:=205
theorem yY:Tryz.prog.funcs[205]?=some Tryz.f205:=Tryz.func205
theorem zw:aY Tryz.f205=false:=by kernel_rfl
abbrev DK:Nat:=206
theorem rl:Tryz.prog.funcs[206]?=some Tryz.f206:=Tryz.func206
theorem pO:aY Tryz.f206=false:=by kernel_rfl
abbrev Ky:Nat:=207
theorem Gh:Tryz.prog.funcs[207]?=some Tryz.f207:=Tryz.func207
theorem GB:aY Tryz.f207=false:=by kernel_rfl
abbrev Hd:Nat:=208
theorem DO:Tryz.prog.funcs[208]?=some Tryz.f208:=Tryz.func208
theorem Dw:aY Tryz.f208=false:=by kernel_rfl
abbrev Oi:Nat:=209
theorem Ln:Tryz.prog.funcs[209]?=some Tryz.f209:=Tryz.func209
theorem Mz:aY Tryz.f209=false:=by kernel_rfl
abbrev Mu:Nat:=211
theorem z8:Tryz.prog.funcs[211]?=some Tryz.f211:=Tryz.func211
theorem z5:aY Tryz.f211=false:=by kernel_rfl

end Go.Proofs.YtfcbhfjomgopbaaGreat
