/- Made by program: names for the numbers of functions and types, and closed facts on them. -/
import Derived.Test.YtjbcdmheajljpaaGreatZRcS
import Derived.Test.YtjbcdmheajljpaaGreatProg
import Derived.KernelRfl
namespace Go.Proofs.YtjbcdmheajljpaaGreat
open Go
abbrev bB (f:Func):Bool:=f.name == "runtime.NumGoroutine" || f.body.isNone
abbrev bV:Nat:=3
theorem au:kA Tryz.prog 3=true:=by kernel_rfl
theorem AN:gZ Tryz.prog 3=some (.int .i64 0):=by kernel_rfl
theorem dS:Tryz.prog.underlying 3=some (.int .i64):=by kernel_rfl
abbrev Pn:Nat:=4
theorem ir:kA Tryz.prog 4=true:=by kernel_rfl
theorem DO:Tryz.prog.underlying 4=some .bool:=by kernel_rfl
abbrev Lr:Nat:=5
theorem F1:kA Tryz.prog 5=true:=by kernel_rfl
theorem iJ:Tryz.prog.underlying 5=some (.int .u8):=by kernel_rfl
abbrev fx:Nat:=9
theorem aV:kA Tryz.prog 9=true:=by kernel_rfl
theorem bm:Tryz.prog.underlying 9=some .string:=by kernel_rfl
abbrev MT:Nat:=22
theorem jQ:kA Tryz.prog 22=true:=by kernel_rfl
theorem AX:jX Tryz.prog 22=some (5,1,1,(.int .u8 0)):=by kernel_rfl
theorem fD:dI Tryz.prog 22=some (5,1):=by kernel_rfl
abbrev jY:Nat:=23
theorem aw:kA Tryz.prog 23=true:=by kernel_rfl
theorem bi:jX Tryz.prog 23=some (25,4,56,(.agg #[(.int .i64 0),(.int .i64 0),(.string ⟨#[]⟩),(.slice none 0 0)])):=by kernel_rfl
theorem ao:dI Tryz.prog 23=some (25,4):=by kernel_rfl
abbrev ac:Nat:=25
theorem af:oL Tryz.prog 25=some 4:=by kernel_rfl
theorem aQ:gZ Tryz.prog 25=some (.agg #[(.int .i64 0),(.int .i64 0),(.string ⟨#[]⟩),(.slice none 0 0)]):=by kernel_rfl
theorem aW:cz Tryz.prog 25 0=some 0:=by kernel_rfl
theorem aR:cz Tryz.prog 25 1=some 1:=by kernel_rfl
theorem bu:cz Tryz.prog 25 2=some 2:=by kernel_rfl
theorem az:cz Tryz.prog 25 3=some 3:=by kernel_rfl
abbrev ad:Nat:=27
theorem aK:oL Tryz.prog 27=some 5:=by kernel_rfl
theorem cI:gZ Tryz.prog 27=some (.agg #[(.int .i64 0),(.int .i64 0),(.string ⟨#[]⟩),(.slice none 0 0),(.slice none 0 0)]):=by kernel_rfl
theorem cV:cz Tryz.prog 27 0=some 0:=by kernel_rfl
theorem bS:cz Tryz.prog 27 1=some 4:=by kernel_rfl
theorem ql:kA Tryz.prog 31=true:=by kernel_rfl
theorem gS:jX Tryz.prog 31=some (57,4,40,(.agg #[(.int .i64 0),(.int .i64 0),(.int .i64 0),(.string ⟨#[]⟩)])):=by kernel_rfl
theorem bx:dI Tryz.prog 31=some (57,4):=by kernel_rfl
theorem BK:jX Tryz.prog 36=some (27,5,80,(.agg #[(.int .i64 0),(.int .i64 0),(.string ⟨#[]⟩),(.slice none 0 0),(.slice none 0 0)])):=by kernel_rfl
theorem CZ:dI Tryz.prog 36=some (27,5):=by kernel_rfl
abbrev ay:Nat:=57
theorem dF:oL Tryz.prog 57=some 4:=by kernel_rfl
theorem tO:gZ Tryz.prog 57=some (.agg #[(.int .i64 0),(.int .i64 0),(.int .i64 0),(.string ⟨#[]⟩)]):=by kernel_rfl
theorem ew:cz Tryz.prog 57 0=some 0:=by kernel_rfl
theorem bZ:cz Tryz.prog 57 1=some 1:=by kernel_rfl
theorem dL:cz Tryz.prog 57 2=some 2:=by kernel_rfl
theorem fu:cz Tryz.prog 57 3=some 3:=by kernel_rfl
abbrev mD:Nat:=62
theorem jB:kA Tryz.prog 62=true:=by kernel_rfl
theorem dp:kA Tryz.prog 64=true:=by kernel_rfl
theorem cX:Tryz.prog.underlying 64=some (.map 3 25):=by kernel_rfl
abbrev av:Nat:=66
theorem kZ:cz Tryz.prog 66 0=some 0:=by kernel_rfl
theorem eM:cz Tryz.prog 66 1=some 1:=by kernel_rfl
theorem lm:cz Tryz.prog 66 2=some 2:=by kernel_rfl
theorem oC:cz Tryz.prog 66 3=some 3:=by kernel_rfl
abbrev sP:Nat:=76
theorem gU:kA Tryz.prog 76=true:=by kernel_rfl
theorem VW:gZ Tryz.prog 76=some (.slice none 0 0):=by kernel_rfl
theorem iX:jX Tryz.prog 76=some (3,1,8,(.int .i64 0)):=by kernel_rfl
theorem ff:dI Tryz.prog 76=some (3,1):=by kernel_rfl
abbrev al:Nat:=81
theorem aS:oL Tryz.prog 81=some 5:=by kernel_rfl
theorem fo:gZ Tryz.prog 81=some (.agg #[(.slice none 0 0),(.slice none 0 0),(.int .i64 0),(.int .i64 0),(.bool false)]):=by kernel_rfl
theorem gc:cz Tryz.prog 81 0=some 0:=by kernel_rfl
theorem iD:cz Tryz.prog 81 1=some 1:=by kernel_rfl
theorem nh:cz Tryz.prog 81 2=some 2:=by kernel_rfl
theorem fm:cz Tryz.prog 81 3=some 3:=by kernel_rfl
theorem di:cz Tryz.prog 81 4=some 4:=by kernel_rfl
abbrev MU:Nat:=88
theorem gM:cz Tryz.prog 88 0=some 0:=by kernel_rfl
theorem sF:cz Tryz.prog 88 1=some 1:=by kernel_rfl
abbrev HY:Nat:=91
theorem EF:jX Tryz.prog 91=some (9,1,16,(.string ⟨#[]⟩)):=by kernel_rfl
theorem dM:dI Tryz.prog 91=some (9,1):=by kernel_rfl
abbrev aC:Nat:=103
theorem aH:oL Tryz.prog 103=some 3:=by kernel_rfl
theorem fJ:gZ Tryz.prog 103=some (.agg #[(.slice none 0 0),(.int .i64 0),(.slice none 0 0)]):=by kernel_rfl
theorem eQ:cz Tryz.prog 103 0=some 0:=by kernel_rfl
theorem dG:cz Tryz.prog 103 1=some 1:=by kernel_rfl
theorem vp:cz Tryz.prog 103 2=some 2:=by kernel_rfl
abbrev aX:Nat:=109
theorem CN:cz Tryz.prog 109 0=some 0:=by kernel_rfl
theorem Cl:cz Tryz.prog 109 1=some 1:=by kernel_rfl
abbrev qH:Nat:=114
theorem Ky:kA Tryz.prog 114=true:=by kernel_rfl
theorem gP:kA Tryz.prog 132=true:=by kernel_rfl
theorem gO:Tryz.prog.underlying 132=some (.map 3 3):=by kernel_rfl
abbrev iW:Nat:=134
theorem gr:cz Tryz.prog 134 0=some 0:=by kernel_rfl
theorem qq:cz Tryz.prog 134 1=some 1:=by kernel_rfl
theorem qJ:cz Tryz.prog 134 2=some 2:=by kernel_rfl
theorem zV:jX Tryz.prog 135=some (139,5,64,(.agg #[(.int .i64 0),(.int .i64 0),(.string ⟨#[]⟩),(.slice none 0 0),(.int .i64 0)])):=by kernel_rfl
theorem AZ:dI Tryz.prog 135=some (139,5):=by kernel_rfl
abbrev fN:Nat:=139
theorem Nw:oL Tryz.prog 139=some 5:=by kernel_rfl
theorem Ul:gZ Tryz.prog 139=some (.agg #[(.int .i64 0),(.int .i64 0),(.string ⟨#[]⟩),(.slice none 0 0),(.int .i64 0)]):=by kernel_rfl
theorem wm:cz Tryz.prog 139 0=some 0:=by kernel_rfl
theorem PB:cz Tryz.prog 139 1=some 4:=by kernel_rfl
theorem lL:jX Tryz.prog 148=some (151,5,64,(.agg #[(.int .i64 0),(.int .i64 0),(.string ⟨#[]⟩),(.slice none 0 0),(.int .i64 0)])):=by kernel_rfl
theorem Ck:dI Tryz.prog 148=some (151,5):=by kernel_rfl
abbrev cY:Nat:=151
theorem Ez:oL Tryz.prog 151=some 5:=by kernel_rfl
theorem Qf:gZ Tryz.prog 151=some (.agg #[(.int .i64 0),(.int .i64 0),(.string ⟨#[]⟩),(.slice none 0 0),(.int .i64 0)]):=by kernel_rfl
theorem qC:cz Tryz.prog 151 0=some 0:=by kernel_rfl
theorem Lf:cz Tryz.prog 151 1=some 4:=by kernel_rfl
abbrev jP:Nat:=179
abbrev eA:Nat:=5
abbrev vU:Nat:=7
theorem uA:Tryz.prog.funcs[7]?=some Tryz.f7:=Tryz.func7
theorem uz:bB Tryz.f7=false:=by kernel_rfl
abbrev xF:Nat:=8
theorem mL:Tryz.prog.funcs[8]?=some Tryz.f8:=Tryz.func8
theorem m7:bB Tryz.f8=false:=by kernel_rfl
abbrev xU:Nat:=9
theorem nl:Tryz.prog.funcs[9]?=some Tryz.f9:=Tryz.func9
theorem mO:bB Tryz.f9=false:=by kernel_rfl
abbrev PK:Nat:=10
theorem Bk:Tryz.prog.funcs[10]?=some Tryz.f10:=Tryz.func10
theorem Bi:bB Tryz.f10=false:=by kernel_rfl
abbrev Fm:Nat:=15
theorem qS:Tryz.prog.funcs[15]?=some Tryz.f15:=Tryz.func15
theorem qZ:bB Tryz.f15=false:=by kernel_rfl
abbrev sd:Nat:=16
theorem rt:Tryz.prog.funcs[16]?=some Tryz.f16:=Tryz.func16
theorem qQ:bB Tryz.f16=false:=by kernel_rfl
abbrev rN:Nat:=17
theorem qy:Tryz.prog.funcs[17]?=some Tryz.f17:=Tryz.func17
theorem qu:bB Tryz.f17=false:=by kernel_rfl
abbrev wc:Nat:=18
theorem ui:Tryz.prog.funcs[18]?=some Tryz.f18:=Tryz.func18
theorem ug:bB Tryz.f18=false:=by kernel_rfl
abbrev Gk:Nat:=19
theorem Dw:Tryz.prog.funcs[19]?=some Tryz.f19:=Tryz.func19
theorem Dn:bB Tryz.f19=false:=by kernel_rfl
abbrev Oa:Nat:=20
theorem xD:Tryz.prog.funcs[20]?=some Tryz.f20:=Tryz.func20
theorem ze:bB Tryz.f20=false:=by kernel_rfl
abbrev Lp:Nat:=21
theorem vb:Tryz.prog.funcs[21]?=some Tryz.f21:=Tryz.func21
theorem u0:bB Tryz.f21=false:=by kernel_rfl
abbrev F6:Nat:=22
theorem bW:Tryz.prog.funcs[22]?=some Tryz.f22:=Tryz.func22
theorem bX:bB Tryz.f22=false:=by kernel_rfl
abbrev JS:Nat:=24
theorem GT:Tryz.prog.funcs[24]?=some Tryz.f24:=Tryz.func24
theorem HC:bB Tryz.f24=false:=by kernel_rfl
abbrev Dh:Nat:=25
theorem kL:Tryz.prog.funcs[25]?=some Tryz.f25:=Tryz.func25
theorem kW:bB Tryz.f25=false:=by kernel_rfl
abbrev G5:Nat:=26
theorem tz:Tryz.prog.funcs[26]?=some Tryz.f26:=Tryz.func26
theorem rW:bB Tryz.f26=false:=by kernel_rfl
abbrev yc:Nat:=27
theorem GS:Tryz.prog.funcs[27]?=some Tryz.f27:=Tryz.func27
theorem Hb:bB Tryz.f27=false:=by kernel_rfl
abbrev wR:Nat:=28
theorem mT:Tryz.prog.funcs[28]?=some Tryz.f28:=Tryz.func28
theorem mI:bB Tryz.f28=false:=by kernel_rfl
abbrev Dt:Nat:=29
theorem oS:Tryz.prog.funcs[29]?=some Tryz.f29:=Tryz.func29
theorem pF:bB Tryz.f29=false:=by kernel_rfl
abbrev Ks:Nat:=30
theorem vd:Tryz.prog.funcs[30]?=some Tryz.f30:=Tryz.func30
theorem uM:bB Tryz.f30=false:=by kernel_rfl
abbrev vX:Nat:=36
theorem iE:Tryz.prog.funcs[36]?=some Tryz.f36:=Tryz.func36
theorem iR:bB Tryz.f36=false:=by kernel_rfl
abbrev KT:Nat:=37
theorem Hv:Tryz.prog.funcs[37]?=some Tryz.f37:=Tryz.func37
theorem GR:bB Tryz.f37=false:=by kernel_rfl
abbrev nE:Nat:=38
theorem uv:Tryz.prog.funcs[38]?=some Tryz.f38:=Tryz.func38
theorem un:bB Tryz.f38=false:=by kernel_rfl
abbrev AD:Nat:=39
theorem wG:Tryz.prog.funcs[39]?=some Tryz.f39:=Tryz.func39
theorem wN:bB Tryz.f39=false:=by kernel_rfl
abbrev ww:Nat:=40
theorem vW:Tryz.prog.funcs[40]?=some Tryz.f40:=Tryz.func40
theorem vx:bB Tryz.f40=false:=by kernel_rfl
abbrev FH:Nat:=41
theorem rD:Tryz.prog.funcs[41]?=some Tryz.f41:=Tryz.func41
theorem re:bB Tryz.f41=false:=by kernel_rfl
abbrev Dc:Nat:=42
theorem AL:Tryz.prog.funcs[42]?=some Tryz.f42:=Tryz.func42
theorem A6:bB Tryz.f42=false:=by kernel_rfl
abbrev qI:Nat:=43
theorem vk:Tryz.prog.funcs[43]?=some Tryz.f43:=Tryz.func43
theorem uZ:bB Tryz.f43=false:=by kernel_rfl
abbrev wl:Nat:=44
theorem mh:Tryz.prog.funcs[44]?=some Tryz.f44:=Tryz.func44
theorem l6:bB Tryz.f44=false:=by kernel_rfl
abbrev ul:Nat:=45
theorem rY:Tryz.prog.funcs[45]?=some Tryz.f45:=Tryz.func45
theorem sC:bB Tryz.f45=false:=by kernel_rfl
abbrev Hs:Nat:=46
theorem er:Tryz.prog.funcs[46]?=some Tryz.f46:=Tryz.func46
theorem eo:bB Tryz.f46=false:=by kernel_rfl
abbrev Kv:Nat:=47
theorem Hm:Tryz.prog.funcs[47]?=some Tryz.f47:=Tryz.func47
theorem He:bB Tryz.f47=false:=by kernel_rfl
abbrev GG:Nat:=48
theorem Dd:Tryz.prog.funcs[48]?=some Tryz.f48:=Tryz.func48
theorem Dq:bB Tryz.f48=false:=by kernel_rfl
abbrev oI:Nat:=49
theorem Eb:Tryz.prog.funcs[49]?=some Tryz.f49:=Tryz.func49
theorem Eg:bB Tryz.f49=false:=by kernel_rfl
abbrev O9:Nat:=50
theorem jL:Tryz.prog.funcs[50]?=some Tryz.f50:=Tryz.func50
theorem jH:bB Tryz.f50=false:=by kernel_rfl
abbrev xk:Nat:=51
theorem dl:Tryz.prog.funcs[51]?=some Tryz.f51:=Tryz.func51
theorem dr:bB Tryz.f51=false:=by kernel_rfl
abbrev SU:Nat:=52
theorem OL:Tryz.prog.funcs[52]?=some Tryz.f52:=Tryz.func52
theorem Pt:bB Tryz.f52=false:=by kernel_rfl
abbrev PZ:Nat:=53
theorem MD:Tryz.prog.funcs[53]?=some Tryz.f53:=Tryz.func53
theorem NZ:bB Tryz.f53=false:=by kernel_rfl
abbrev LU:Nat:=54
theorem JZ:Tryz.prog.funcs[54]?=some Tryz.f54:=Tryz.func54
theorem Jr:bB Tryz.f54=false:=by kernel_rfl
abbrev Es:Nat:=55
theorem r6:Tryz.prog.funcs[55]?=some Tryz.f55:=Tryz.func55
theorem sY:bB Tryz.f55=false:=by kernel_rfl
abbrev Ht:Nat:=56
theorem Fh:Tryz.prog.funcs[56]?=some Tryz.f56:=Tryz.func56
theorem FQ:bB Tryz.f56=false:=by kernel_rfl
abbrev Jq:Nat:=57
theorem fG:Tryz.prog.funcs[57]?=some Tryz.f57:=Tryz.func57
theorem fH:bB Tryz.f57=false:=by kernel_rfl
abbrev D7:Nat:=58
theorem fX:Tryz.prog.funcs[58]?=some Tryz.f58:=Tryz.func58
theorem fW:bB Tryz.f58=false:=by kernel_rfl
abbrev JY:Nat:=59
theorem uX:Tryz.prog.funcs[59]?=some Tryz.f59:=Tryz.func59
theorem vq:bB Tryz.f59=false:=by kernel_rfl
abbrev OI:Nat:=60
theorem CG:Tryz.prog.funcs[60]?=some Tryz.f60:=Tryz.func60
theorem BC:bB Tryz.f60=false:=by kernel_rfl
abbrev GX:Nat:=61
theorem th:Tryz.prog.funcs[61]?=some Tryz.f61:=Tryz.func61
theorem s7:bB Tryz.f61=false:=by kernel_rfl
abbrev NF:Nat:=62
theorem yo:Tryz.prog.funcs[62]?=some Tryz.f62:=Tryz.func62
theorem wJ:bB Tryz.f62=false:=by kernel_rfl
abbrev Ee:Nat:=63
theorem Dv:Tryz.prog.funcs[63]?=some Tryz.f63:=Tryz.func63
theorem Dx:bB Tryz.f63=false:=by kernel_rfl
abbrev Rc:Nat:=64
theorem NM:Tryz.prog.funcs[64]?=some Tryz.f64:=Tryz.func64
theorem Oe:bB Tryz.f64=false:=by kernel_rfl
abbrev BW:Nat:=65
theorem yJ:Tryz.prog.funcs[65]?=some Tryz.f65:=Tryz.func65
theorem y0:bB Tryz.f65=false:=by kernel_rfl
abbrev Hi:Nat:=66
theorem EA:Tryz.prog.funcs[66]?=some Tryz.f66:=Tryz.func66
theorem Gg:bB Tryz.f66=false:=by kernel_rfl
abbrev HD:Nat:=67
theorem ES:Tryz.prog.funcs[67]?=some Tryz.f67:=Tryz.func67
theorem Gl:bB Tryz.f67=false:=by kernel_rfl
abbrev Dk:Nat:=68
theorem A5:Tryz.prog.funcs[68]?=some Tryz.f68:=Tryz.func68
theorem Av:bB Tryz.f68=false:=by kernel_rfl
abbrev Dp:Nat:=69
theorem Aw:Tryz.prog.funcs[69]?=some Tryz.f69:=Tryz.func69
theorem zY:bB Tryz.f69=false:=by kernel_rfl
abbrev G6:Nat:=70
theorem GE:Tryz.prog.funcs[70]?=some Tryz.f70:=Tryz.func70
theorem FY:bB Tryz.f70=false:=by kernel_rfl
abbrev Hx:Nat:=71
theorem nG:Tryz.prog.funcs[71]?=some Tryz.f71:=Tryz.func71
theorem mN:bB Tryz.f71=false:=by kernel_rfl
abbrev NH:Nat:=72
theorem y9:Tryz.prog.funcs[72]?=some Tryz.f72:=Tryz.func72
theorem wI:bB Tryz.f72=false:=by kernel_rfl
abbrev Md:Nat:=73
theorem JB:Tryz.prog.funcs[73]?=some Tryz.f73:=Tryz.func73
theorem Jz:bB Tryz.f73=false:=by kernel_rfl
abbrev Qd:Nat:=74
theorem NQ:Tryz.prog.funcs[74]?=some Tryz.f74:=Tryz.func74
theorem LS:bB Tryz.f74=false:=by kernel_rfl
abbrev Nj:Nat:=75
theorem Jo:Tryz.prog.funcs[75]?=some Tryz.f75:=Tryz.func75
theorem Lv:bB Tryz.f75=false:=by kernel_rfl
abbrev Jy:Nat:=78
theorem uH:Tryz.prog.funcs[78]?=some Tryz.f78:=Tryz.func78
theorem u4:bB Tryz.f78=false:=by kernel_rfl
abbrev Tx:Nat:=79
theorem St:Tryz.prog.funcs[79]?=some Tryz.f79:=Tryz.func79
theorem ST:bB Tryz.f79=false:=by kernel_rfl
abbrev yE:Nat:=80
theorem vF:Tryz.prog.funcs[80]?=some Tryz.f80:=Tryz.func80
theorem wq:bB Tryz.f80=false:=by kernel_rfl
abbrev um:Nat:=81
theorem lI:Tryz.prog.funcs[81]?=some Tryz.f81:=Tryz.func81
theorem lz:bB Tryz.f81=false:=by kernel_rfl
abbrev PT:Nat:=82
theorem MF:Tryz.prog.funcs[82]?=some Tryz.f82:=Tryz.func82
theorem Od:bB Tryz.f82=false:=by kernel_rfl
abbrev Cj:Nat:=83
theorem yd:Tryz.prog.funcs[83]?=some Tryz.f83:=Tryz.func83
theorem yw:bB Tryz.f83=false:=by kernel_rfl
abbrev iZ:Nat:=84
theorem yW:Tryz.prog.funcs[84]?=some Tryz.f84:=Tryz.func84
theorem yN:bB Tryz.f84=false:=by kernel_rfl
abbrev GO:Nat:=85
theorem sZ:Tryz.prog.funcs[85]?=some Tryz.f85:=Tryz.func85
theorem sA:bB Tryz.f85=false:=by kernel_rfl
abbrev Ol:Nat:=86
theorem yG:Tryz.prog.funcs[86]?=some Tryz.f86:=Tryz.func86
theorem xj:bB Tryz.f86=false:=by kernel_rfl
abbrev C8:Nat:=87
theorem A8:Tryz.prog.funcs[87]?=some Tryz.f87:=Tryz.func87
theorem AS:bB Tryz.f87=false:=by kernel_rfl
abbrev OM:Nat:=88
theorem BH:Tryz.prog.funcs[88]?=some Tryz.f88:=Tryz.func88
theorem Bh:bB Tryz.f88=false:=by kernel_rfl
abbrev SW:Nat:=89
theorem qM:Tryz.prog.funcs[89]?=some Tryz.f89:=Tryz.func89
theorem qh:bB Tryz.f89=false:=by kernel_rfl
abbrev R3:Nat:=90
theorem jy:Tryz.prog.funcs[90]?=some Tryz.f90:=Tryz.func90
theorem jG:bB Tryz.f90=false:=by kernel_rfl
abbrev Pe:Nat:=91
theorem CQ:Tryz.prog.funcs[91]?=some Tryz.f91:=Tryz.func91
theorem Ct:bB Tryz.f91=false:=by kernel_rfl
abbrev Pp:Nat:=92
theorem LE:Tryz.prog.funcs[92]?=some Tryz.f92:=Tryz.func92
theorem My:bB Tryz.f92=false:=by kernel_rfl
abbrev PX:Nat:=93
theorem BS:Tryz.prog.funcs[93]?=some Tryz.f93:=Tryz.func93
theorem CC:bB Tryz.f93=false:=by kernel_rfl
abbrev Nn:Nat:=94
theorem JR:Tryz.prog.funcs[94]?=some Tryz.f94:=Tryz.func94
theorem Jn:bB Tryz.f94=false:=by kernel_rfl
abbrev Fa:Nat:=95
theorem C7:Tryz.prog.funcs[95]?=some Tryz.f95:=Tryz.func95
theorem Di:bB Tryz.f95=false:=by kernel_rfl
abbrev SZ:Nat:=96
theorem OJ:Tryz.prog.funcs[96]?=some Tryz.f96:=Tryz.func96
theorem Qm:bB Tryz.f96=false:=by kernel_rfl
abbrev wh:Nat:=97
theorem iC:Tryz.prog.funcs[97]?=some Tryz.f97:=Tryz.func97
theorem iG:bB Tryz.f97=false:=by kernel_rfl
abbrev Nq:Nat:=98
theorem JW:Tryz.prog.funcs[98]?=some Tryz.f98:=Tryz.func98
theorem KA:bB Tryz.f98=false:=by kernel_rfl
abbrev pn:Nat:=99
theorem xL:Tryz.prog.funcs[99]?=some Tryz.f99:=Tryz.func99
theorem xM:bB Tryz.f99=false:=by kernel_rfl
abbrev U6:Nat:=100
theorem HT:Tryz.prog.funcs[100]?=some Tryz.f100:=Tryz.func100
theorem Ik:bB Tryz.f100=false:=by kernel_rfl
abbrev Hj:Nat:=101
theorem sW:Tryz.prog.funcs[101]?=some Tryz.f101:=Tryz.func101
theorem tc:bB Tryz.f101=false:=by kernel_rfl
abbrev UK:Nat:=102
theorem R8:Tryz.prog.funcs[102]?=some Tryz.f102:=Tryz.func102
theorem Tb:bB Tryz.f102=false:=by kernel_rfl
abbrev LN:Nat:=103
theorem qo:Tryz.prog.funcs[103]?=some Tryz.f103:=Tryz.func103
theorem qD:bB Tryz.f103=false:=by kernel_rfl
abbrev kD:Nat:=104
theorem gX:Tryz.prog.funcs[104]?=some Tryz.f104:=Tryz.func104
theorem gY:bB Tryz.f104=false:=by kernel_rfl
abbrev pz:Nat:=105
theorem zl:Tryz.prog.funcs[105]?=some Tryz.f105:=Tryz.func105
theorem yX:bB Tryz.f105=false:=by kernel_rfl
abbrev G7:Nat:=106
theorem FU:Tryz.prog.funcs[106]?=some Tryz.f106:=Tryz.func106
theorem Gf:bB Tryz.f106=false:=by kernel_rfl
abbrev EK:Nat:=107
theorem cL:Tryz.prog.funcs[107]?=some Tryz.f107:=Tryz.func107
theorem cK:bB Tryz.f107=false:=by kernel_rfl
abbrev rU:Nat:=108
theorem kF:Tryz.prog.funcs[108]?=some Tryz.f108:=Tryz.func108
theorem kE:bB Tryz.f108=false:=by kernel_rfl
abbrev Du:Nat:=109
theorem i5:Tryz.prog.funcs[109]?=some Tryz.f109:=Tryz.func109
theorem iU:bB Tryz.f109=false:=by kernel_rfl
abbrev Db:Nat:=110
theorem Ak:Tryz.prog.funcs[110]?=some Tryz.f110:=Tryz.func110
theorem At:bB Tryz.f110=false:=by kernel_rfl
abbrev OP:Nat:=111
theorem LB:Tryz.prog.funcs[111]?=some Tryz.f111:=Tryz.func111
theorem ML:bB Tryz.f111=false:=by kernel_rfl
abbrev N7:Nat:=112
theorem yl:Tryz.prog.funcs[112]?=some Tryz.f112:=Tryz.func112
theorem xY:bB Tryz.f112=false:=by kernel_rfl
abbrev ME:Nat:=113
theorem yq:Tryz.prog.funcs[113]?=some Tryz.f113:=Tryz.func113
theorem xl:bB Tryz.f113=false:=by kernel_rfl
abbrev O2:Nat:=114
theorem Bj:Tryz.prog.funcs[114]?=some Tryz.f114:=Tryz.func114
theorem BM:bB Tryz.f114=false:=by kernel_rfl
abbrev GU:Nat:=115
theorem mZ:Tryz.prog.funcs[115]?=some Tryz.f115:=Tryz.func115
theorem nw:bB Tryz.f115=false:=by kernel_rfl
abbrev Ow:Nat:=116
theorem ia:Tryz.prog.funcs[116]?=some Tryz.f116:=Tryz.func116
theorem hZ:bB Tryz.f116=false:=by kernel_rfl
abbrev Sa:Nat:=117
theorem EU:Tryz.prog.funcs[117]?=some Tryz.f117:=Tryz.func117
theorem EQ:bB Tryz.f117=false:=by kernel_rfl
abbrev O5:Nat:=118
theorem dX:Tryz.prog.funcs[118]?=some Tryz.f118:=Tryz.func118
theorem dY:bB Tryz.f118=false:=by kernel_rfl
abbrev SX:Nat:=119
theorem PJ:Tryz.prog.funcs[119]?=some Tryz.f119:=Tryz.func119
theorem Pl:bB Tryz.f119=false:=by kernel_rfl
abbrev Pi:Nat:=120
theorem te:Tryz.prog.funcs[120]?=some Tryz.f120:=Tryz.func120
theorem s8:bB Tryz.f120=false:=by kernel_rfl
abbrev PV:Nat:=121
theorem Bq:Tryz.prog.funcs[121]?=some Tryz.f121:=Tryz.func121
theorem CM:bB Tryz.f121=false:=by kernel_rfl
abbrev Dm:Nat:=122
theorem i6:Tryz.prog.funcs[122]?=some Tryz.f122:=Tryz.func122
theorem iY:bB Tryz.f122=false:=by kernel_rfl
abbrev OT:Nat:=123
theorem sL:Tryz.prog.funcs[123]?=some Tryz.f123:=Tryz.func123
theorem tC:bB Tryz.f123=false:=by kernel_rfl
abbrev rI:Nat:=124
theorem kr:Tryz.prog.funcs[124]?=some Tryz.f124:=Tryz.func124
theorem jS:bB Tryz.f124=false:=by kernel_rfl
abbrev DQ:Nat:=125
theorem js:Tryz.prog.funcs[125]?=some Tryz.f125:=Tryz.func125
theorem jr:bB Tryz.f125=false:=by kernel_rfl
abbrev MM:Nat:=126
theorem yI:Tryz.prog.funcs[126]?=some Tryz.f126:=Tryz.func126
theorem xQ:bB Tryz.f126=false:=by kernel_rfl
abbrev Mo:Nat:=127
theorem zx:Tryz.prog.funcs[127]?=some Tryz.f127:=Tryz.func127
theorem yv:bB Tryz.f127=false:=by kernel_rfl
abbrev Hl:Nat:=128
theorem nj:Tryz.prog.funcs[128]?=some Tryz.f128:=Tryz.func128
theorem ne:bB Tryz.f128=false:=by kernel_rfl
abbrev NL:Nat:=129
theorem KF:Tryz.prog.funcs[129]?=some Tryz.f129:=Tryz.func129
theorem Jp:bB Tryz.f129=false:=by kernel_rfl
abbrev Sr:Nat:=130
theorem vJ:Tryz.prog.funcs[130]?=some Tryz.f130:=Tryz.func130
theorem vC:bB Tryz.f130=false:=by kernel_rfl
abbrev NR:Nat:=131
theorem qi:Tryz.prog.funcs[131]?=some Tryz.f131:=Tryz.func131
theorem qd:bB Tryz.f131=false:=by kernel_rfl
abbrev Pf:Nat:=132
theorem tA:Tryz.prog.funcs[132]?=some Tryz.f132:=Tryz.func132
theorem rS:bB Tryz.f132=false:=by kernel_rfl
abbrev OV:Nat:=133
theorem CD:Tryz.prog.funcs[133]?=some Tryz.f133:=Tryz.func133
theorem C2:bB Tryz.f133=false:=by kernel_rfl
abbrev ET:Nat:=134
theorem oe:Tryz.prog.funcs[134]?=some Tryz.f134:=Tryz.func134
theorem nT:bB Tryz.f134=false:=by kernel_rfl
abbrev JP:Nat:=135
theorem vj:Tryz.prog.funcs[135]?=some Tryz.f135:=Tryz.func135
theorem u5:bB Tryz.f135=false:=by kernel_rfl
abbrev PC:Nat:=136
theorem Mb:Tryz.prog.funcs[136]?=some Tryz.f136:=Tryz.func136
theorem Nc:bB Tryz.f136=false:=by kernel_rfl
abbrev Dl:Nat:=137
theorem AQ:Tryz.prog.funcs[137]?=some Tryz.f137:=Tryz.func137
theorem AC:bB Tryz.f137=false:=by kernel_rfl
abbrev Hn:Nat:=138
theorem FM:Tryz.prog.funcs[138]?=some Tryz.f138:=Tryz.func138
theorem DR:bB Tryz.f138=false:=by kernel_rfl
abbrev Qn:Nat:=139
theorem Ns:Tryz.prog.funcs[139]?=some Tryz.f139:=Tryz.func139
theorem Mh:bB Tryz.f139=false:=by kernel_rfl
abbrev Na:Nat:=140
theorem JA:Tryz.prog.funcs[140]?=some Tryz.f140:=Tryz.func140
theorem Kk:bB Tryz.f140=false:=by kernel_rfl
abbrev G8:Nat:=141
theorem FK:Tryz.prog.funcs[141]?=some Tryz.f141:=Tryz.func141
theorem EH:bB Tryz.f141=false:=by kernel_rfl
abbrev nb:Nat:=142
theorem ma:Tryz.prog.funcs[142]?=some Tryz.f142:=Tryz.func142
theorem l7:bB Tryz.f142=false:=by kernel_rfl
abbrev Tk:Nat:=143
theorem Gj:Tryz.prog.funcs[143]?=some Tryz.f143:=Tryz.func143
theorem FP:bB Tryz.f143=false:=by kernel_rfl
abbrev As:Nat:=144
theorem n7:Tryz.prog.funcs[144]?=some Tryz.f144:=Tryz.func144
theorem n4:bB Tryz.f144=false:=by kernel_rfl
abbrev SA:Nat:=145
theorem Pj:Tryz.prog.funcs[145]?=some Tryz.f145:=Tryz.func145
theorem Qp:bB Tryz.f145=false:=by kernel_rfl
abbrev Og:Nat:=146
theorem yg:Tryz.prog.funcs[146]?=some Tryz.f146:=Tryz.func146
theorem yY:bB Tryz.f146=false:=by kernel_rfl
abbrev Fz:Nat:=147
theorem rE:Tryz.prog.funcs[147]?=some Tryz.f147:=Tryz.func147
theorem rG:bB Tryz.f147=false:=by kernel_rfl
abbrev zP:Nat:=148
theorem yi:Tryz.prog.funcs[148]?=some Tryz.f148:=Tryz.func148
theorem xS:bB Tryz.f148=false:=by kernel_rfl
abbrev SY:Nat:=149
theorem Qt:Tryz.prog.funcs[149]?=some Tryz.f149:=Tryz.func149
theorem Ql:bB Tryz.f149=false:=by kernel_rfl
abbrev LW:Nat:=150
theorem yF:Tryz.prog.funcs[150]?=some Tryz.f150:=Tryz.func150
theorem yU:bB Tryz.f150=false:=by kernel_rfl
abbrev Pz:Nat:=151
theorem BO:Tryz.prog.funcs[151]?=some Tryz.f151:=Tryz.func151
theorem BF:bB Tryz.f151=false:=by kernel_rfl
abbrev vz:Nat:=152
theorem om:Tryz.prog.funcs[152]?=some Tryz.f152:=Tryz.func152
theorem n5:bB Tryz.f152=false:=by kernel_rfl
abbrev JL:Nat:=153
theorem G9:Tryz.prog.funcs[153]?=some Tryz.f153:=Tryz.func153
theorem Hq:bB Tryz.f153=false:=by kernel_rfl
abbrev Px:Nat:=154
theorem iN:Tryz.prog.funcs[154]?=some Tryz.f154:=Tryz.func154
theorem iB:bB Tryz.f154=false:=by kernel_rfl
abbrev O0:Nat:=155
theorem ey:Tryz.prog.funcs[155]?=some Tryz.f155:=Tryz.func155
theorem ez:bB Tryz.f155=false:=by kernel_rfl
abbrev LQ:Nat:=156
theorem KE:Tryz.prog.funcs[156]?=some Tryz.f156:=Tryz.func156
theorem Kc:bB Tryz.f156=false:=by kernel_rfl
abbrev Ba:Nat:=157
theorem wO:Tryz.prog.funcs[157]?=some Tryz.f157:=Tryz.func157
theorem yB:bB Tryz.f157=false:=by kernel_rfl
abbrev ur:Nat:=158
theorem tm:Tryz.prog.funcs[158]?=some Tryz.f158:=Tryz.func158
theorem td:bB Tryz.f158=false:=by kernel_rfl
abbrev NV:Nat:=159
theorem Ld:Tryz.prog.funcs[159]?=some Tryz.f159:=Tryz.func159
theorem JH:bB Tryz.f159=false:=by kernel_rfl
abbrev Po:Nat:=160
theorem M0:Tryz.prog.funcs[160]?=some Tryz.f160:=Tryz.func160
theorem MQ:bB Tryz.f160=false:=by kernel_rfl
abbrev Bb:Nat:=161
theorem ki:Tryz.prog.funcs[161]?=some Tryz.f161:=Tryz.func161
theorem jU:bB Tryz.f161=false:=by kernel_rfl
abbrev MS:Nat:=162
theorem Kb:Tryz.prog.funcs[162]?=some Tryz.f162:=Tryz.func162
theorem J0:bB Tryz.f162=false:=by kernel_rfl
abbrev UR:Nat:=163
theorem R9:Tryz.prog.funcs[163]?=some Tryz.f163:=Tryz.func163
theorem Sg:bB Tryz.f163=false:=by kernel_rfl
abbrev Qg:Nat:=164
theorem NS:Tryz.prog.funcs[164]?=some Tryz.f164:=Tryz.func164
theorem Mr:bB Tryz.f164=false:=by kernel_rfl
abbrev AY:Nat:=165
theorem xN:Tryz.prog.funcs[165]?=some Tryz.f165:=Tryz.func165
theorem yt:bB Tryz.f165=false:=by kernel_rfl
abbrev vE:Nat:=166
theorem uo:Tryz.prog.funcs[166]?=some Tryz.f166:=Tryz.func166
theorem ut:bB Tryz.f166=false:=by kernel_rfl
abbrev Mn:Nat:=168
theorem KH:Tryz.prog.funcs[168]?=some Tryz.f168:=Tryz.func168
theorem JC:bB Tryz.f168=false:=by kernel_rfl
abbrev N4:Nat:=169
theorem mw:Tryz.prog.funcs[169]?=some Tryz.f169:=Tryz.func169
theorem mv:bB Tryz.f169=false:=by kernel_rfl
abbrev Lq:Nat:=170
theorem Hy:Tryz.prog.funcs[170]?=some Tryz.f170:=Tryz.func170
theorem Hh:bB Tryz.f170=false:=by kernel_rfl
abbrev Qs:Nat:=171
theorem CR:Tryz.prog.funcs[171]?=some Tryz.f171:=Tryz.func171
theorem Cw:bB Tryz.f171=false:=by kernel_rfl
abbrev NX:Nat:=172
theorem wv:Tryz.prog.funcs[172]?=some Tryz.f172:=Tryz.func172
theorem wF:bB Tryz.f172=false:=by kernel_rfl
abbrev Ph:Nat:=173
theorem iH:Tryz.prog.funcs[173]?=some Tryz.f173:=Tryz.func173
theorem iI:bB Tryz.f173=false:=by kernel_rfl
abbrev NB:Nat:=174
theorem wW:Tryz.prog.funcs[174]?=some Tryz.f174:=Tryz.func174
theorem xw:bB Tryz.f174=false:=by kernel_rfl
abbrev PN:Nat:=175
theorem N0:Tryz.prog.funcs[175]?=some Tryz.f175:=Tryz.func175
theorem Mz:bB Tryz.f175=false:=by kernel_rfl
abbrev MX:Nat:=176
theorem wu:Tryz.prog.funcs[176]?=some Tryz.f176:=Tryz.func176
theorem zm:bB Tryz.f176=false:=by kernel_rfl
abbrev Qv:Nat:=177
theorem sI:Tryz.prog.funcs[177]?=some Tryz.f177:=Tryz.func177
theorem ss:bB Tryz.f177=false:=by kernel_rfl
abbrev Qj:Nat:=178
theorem NK:Tryz.prog.funcs[178]?=some Tryz.f178:=Tryz.func178
theorem Nm:bB Tryz.f178=false:=by kernel_rfl
abbrev Ob:Nat:=179
theorem zg:Tryz.prog.funcs[179]?=some Tryz.f179:=Tryz.func179
theorem xC:bB Tryz.f179=false:=by kernel_rfl
abbrev Pu:Nat:=180
theorem LA:Tryz.prog.funcs[180]?=some Tryz.f180:=Tryz.func180
theorem Ou:bB Tryz.f180=false:=by kernel_rfl
abbrev Ko:Nat:=181
theorem GP:Tryz.prog.funcs[181]?=some Tryz.f181:=Tryz.func181
theorem GQ:bB Tryz.f181=false:=by kernel_rfl
abbrev Ms:Nat:=182
theorem KB:Tryz.prog.funcs[182]?=some Tryz.f182:=Tryz.func182
theorem Kt:bB Tryz.f182=false:=by kernel_rfl
abbrev PW:Nat:=183
theorem r9:Tryz.prog.funcs[183]?=some Tryz.f183:=Tryz.func183
theorem tk:bB Tryz.f183=false:=by kernel_rfl
abbrev PG:Nat:=184
theorem M6:Tryz.prog.funcs[184]?=some Tryz.f184:=Tryz.func184
theorem Ni:bB Tryz.f184=false:=by kernel_rfl
abbrev R6:Nat:=185
theorem Py:Tryz.prog.funcs[185]?=some Tryz.f185:=Tryz.func185
theorem Qb:bB Tryz.f185=false:=by kernel_rfl
abbrev OE:Nat:=186
theorem BV:Tryz.prog.funcs[186]?=some Tryz.f186:=Tryz.func186
theorem BR:bB Tryz.f186=false:=by kernel_rfl
abbrev GW:Nat:=187
theorem sV:Tryz.prog.funcs[187]?=some Tryz.f187:=Tryz.func187
theorem tg:bB Tryz.f187=false:=by kernel_rfl
abbrev L0:Nat:=188
theorem KQ:Tryz.prog.funcs[188]?=some Tryz.f188:=Tryz.func188
theorem Kh:bB Tryz.f188=false:=by kernel_rfl
abbrev KK:Nat:=189
theorem Hu:Tryz.prog.funcs[189]?=some Tryz.f189:=Tryz.func189
theorem GN:bB Tryz.f189=false:=by kernel_rfl

end Go.Proofs.YtjbcdmheajljpaaGreat
