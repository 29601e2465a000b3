/- Made by program: names for the numbers of functions and types, and closed facts on them. -/
import Derived.Test.YtcpgagfdeflbkaaGreatDoorZMvS
import Derived.Test.YtcpgagfdeflbkaaGreatDoorProg
import Derived.KernelRfl
namespace Go.Proofs.YtcpgagfdeflbkaaGreatDoor
open Go
abbrev aX (f:Func):Bool:=f.name == "runtime.NumGoroutine" || f.body.isNone
abbrev bG:Nat:=3
theorem aF:fZ Tryz.prog 3=true:=by kernel_rfl
theorem K9:fM Tryz.prog 3=some (.int .i64 0):=by kernel_rfl
theorem eQ:Tryz.prog.underlying 3=some (.int .i64):=by kernel_rfl
abbrev Hn:Nat:=4
theorem Id:fZ Tryz.prog 4=true:=by kernel_rfl
theorem wQ:Tryz.prog.underlying 4=some .bool:=by kernel_rfl
abbrev CV:Nat:=5
theorem yF:fZ Tryz.prog 5=true:=by kernel_rfl
theorem eq:Tryz.prog.underlying 5=some (.int .u8):=by kernel_rfl
abbrev eG:Nat:=9
theorem aK:fZ Tryz.prog 9=true:=by kernel_rfl
theorem aG:Tryz.prog.underlying 9=some .string:=by kernel_rfl
abbrev EC:Nat:=22
theorem fp:fZ Tryz.prog 22=true:=by kernel_rfl
theorem tF:iV Tryz.prog 22=some (5,1,1,(.int .u8 0)):=by kernel_rfl
theorem cQ:bX Tryz.prog 22=some (5,1):=by kernel_rfl
theorem oq:fZ Tryz.prog 23=true:=by kernel_rfl
theorem bD:iV Tryz.prog 23=some (45,5,80,(.agg #[(.int .i64 0),(.int .i64 0),(.string ⟨#[]⟩),(.slice none 0 0),(.slice none 0 0)])):=by kernel_rfl
theorem aY:bX Tryz.prog 23=some (45,5):=by kernel_rfl
abbrev aS:Nat:=25
theorem bZ:o7 Tryz.prog 25=some 2:=by kernel_rfl
theorem kE:fM Tryz.prog 25=some (.agg #[(.string ⟨#[]⟩),(.int .i64 0)]):=by kernel_rfl
abbrev sJ:Nat:=31
theorem aj:fZ Tryz.prog 31=true:=by kernel_rfl
theorem bo:iV Tryz.prog 31=some (43,4,56,(.agg #[(.int .i64 0),(.int .i64 0),(.string ⟨#[]⟩),(.slice none 0 0)])):=by kernel_rfl
theorem ag:bX Tryz.prog 31=some (43,4):=by kernel_rfl
theorem Eb:iV Tryz.prog 34=some (58,1,24,(.agg #[(.slice none 0 0)])):=by kernel_rfl
theorem dv:bX Tryz.prog 34=some (58,1):=by kernel_rfl
abbrev ab:Nat:=43
theorem ac:o7 Tryz.prog 43=some 4:=by kernel_rfl
theorem aW:fM Tryz.prog 43=some (.agg #[(.int .i64 0),(.int .i64 0),(.string ⟨#[]⟩),(.slice none 0 0)]):=by kernel_rfl
theorem aP:bm Tryz.prog 43 0=some 0:=by kernel_rfl
theorem bb:bm Tryz.prog 43 1=some 1:=by kernel_rfl
theorem aQ:bm Tryz.prog 43 2=some 2:=by kernel_rfl
theorem ar:bm Tryz.prog 43 3=some 3:=by kernel_rfl
abbrev af:Nat:=45
theorem aO:o7 Tryz.prog 45=some 5:=by kernel_rfl
theorem cP:fM Tryz.prog 45=some (.agg #[(.int .i64 0),(.int .i64 0),(.string ⟨#[]⟩),(.slice none 0 0),(.slice none 0 0)]):=by kernel_rfl
theorem bF:bm Tryz.prog 45 0=some 0:=by kernel_rfl
theorem bf:bm Tryz.prog 45 1=some 4:=by kernel_rfl
abbrev cV:Nat:=58
theorem lK:o7 Tryz.prog 58=some 1:=by kernel_rfl
theorem HN:fM Tryz.prog 58=some (.agg #[(.slice none 0 0)]):=by kernel_rfl
theorem g8:bm Tryz.prog 58 0=some 0:=by kernel_rfl
theorem ic:iV Tryz.prog 60=some (25,2,24,(.agg #[(.string ⟨#[]⟩),(.int .i64 0)])):=by kernel_rfl
theorem kl:bX Tryz.prog 60=some (25,2):=by kernel_rfl
abbrev ET:Nat:=72
theorem dN:bm Tryz.prog 72 0=some 0:=by kernel_rfl
theorem nt:bm Tryz.prog 72 1=some 1:=by kernel_rfl
abbrev s7:Nat:=73
theorem Gd:fZ Tryz.prog 73=true:=by kernel_rfl
theorem yp:iV Tryz.prog 73=some (9,1,16,(.string ⟨#[]⟩)):=by kernel_rfl
theorem bw:bX Tryz.prog 73=some (9,1):=by kernel_rfl
theorem FH:bX Tryz.prog 77=some (73,1):=by kernel_rfl
abbrev m0:Nat:=105
theorem fD:fZ Tryz.prog 105=true:=by kernel_rfl
theorem ME:fM Tryz.prog 105=some (.slice none 0 0):=by kernel_rfl
theorem oL:iV Tryz.prog 105=some (3,1,8,(.int .i64 0)):=by kernel_rfl
theorem dd:bX Tryz.prog 105=some (3,1):=by kernel_rfl
abbrev ig:Nat:=108
theorem dz:fZ Tryz.prog 108=true:=by kernel_rfl
theorem cE:fZ Tryz.prog 110=true:=by kernel_rfl
theorem cU:fZ Tryz.prog 111=true:=by kernel_rfl
theorem ve:iV Tryz.prog 111=some (147,9,112,(.agg #[(.int .i64 0),(.int .i64 0),(.string ⟨#[]⟩),(.slice none 0 0),(.int .i64 0),(.pointer none),(.slice none 0 0),(.int .i64 0),(.int .i64 0)])):=by kernel_rfl
theorem er:bX Tryz.prog 111=some (147,9):=by kernel_rfl
theorem gd:fZ Tryz.prog 112=true:=by kernel_rfl
theorem AM:iV Tryz.prog 112=some (141,6,72,(.agg #[(.int .i64 0),(.int .i64 0),(.string ⟨#[]⟩),(.slice none 0 0),(.int .i64 0),(.int .i64 0)])):=by kernel_rfl
theorem oK:bX Tryz.prog 112=some (141,6):=by kernel_rfl
abbrev kP:Nat:=114
theorem dZ:bm Tryz.prog 114 0=some 0:=by kernel_rfl
theorem lU:bm Tryz.prog 114 1=some 1:=by kernel_rfl
theorem BQ:bm Tryz.prog 114 2=some 2:=by kernel_rfl
theorem BO:bm Tryz.prog 114 3=some 3:=by kernel_rfl
theorem C8:bm Tryz.prog 114 4=some 4:=by kernel_rfl
theorem CG:bm Tryz.prog 114 5=some 5:=by kernel_rfl
theorem lY:bm Tryz.prog 114 6=some 6:=by kernel_rfl
theorem lV:bm Tryz.prog 114 7=some 7:=by kernel_rfl
theorem eN:bm Tryz.prog 114 8=some 8:=by kernel_rfl
theorem cG:bm Tryz.prog 114 9=some 9:=by kernel_rfl
theorem dD:bm Tryz.prog 114 10=some 10:=by kernel_rfl
theorem pm:bm Tryz.prog 114 11=some 11:=by kernel_rfl
abbrev lM:Nat:=124
theorem Dc:fZ Tryz.prog 124=true:=by kernel_rfl
theorem Ai:fZ Tryz.prog 132=true:=by kernel_rfl
theorem gr:Tryz.prog.underlying 132=some (.map 3 43):=by kernel_rfl
abbrev bT:Nat:=134
theorem oa:bm Tryz.prog 134 0=some 0:=by kernel_rfl
theorem dQ:bm Tryz.prog 134 1=some 1:=by kernel_rfl
abbrev ju:Nat:=136
theorem xO:bm Tryz.prog 136 0=some 0:=by kernel_rfl
theorem yP:bm Tryz.prog 136 1=some 4:=by kernel_rfl
theorem yQ:bm Tryz.prog 136 2=some 5:=by kernel_rfl
theorem iJ:bm Tryz.prog 136 3=some 6:=by kernel_rfl
abbrev hH:Nat:=141
theorem Hl:bm Tryz.prog 141 2=some 5:=by kernel_rfl
abbrev cO:Nat:=147
theorem xL:o7 Tryz.prog 147=some 9:=by kernel_rfl
theorem HC:fM Tryz.prog 147=some (.agg #[(.int .i64 0),(.int .i64 0),(.string ⟨#[]⟩),(.slice none 0 0),(.int .i64 0),(.pointer none),(.slice none 0 0),(.int .i64 0),(.int .i64 0)]):=by kernel_rfl
theorem Dt:bm Tryz.prog 147 0=some 0:=by kernel_rfl
theorem C2:bm Tryz.prog 147 1=some 4:=by kernel_rfl
theorem CP:bm Tryz.prog 147 2=some 5:=by kernel_rfl
theorem CE:bm Tryz.prog 147 3=some 6:=by kernel_rfl
theorem CY:bm Tryz.prog 147 4=some 7:=by kernel_rfl
theorem Cu:bm Tryz.prog 147 5=some 8:=by kernel_rfl
abbrev fo:Nat:=180
abbrev cw:Nat:=3
abbrev uc:Nat:=5
theorem sd:Tryz.prog.funcs[5]?=some Tryz.f5:=Tryz.func5
theorem r2:aX Tryz.f5=false:=by kernel_rfl
abbrev CW:Nat:=6
theorem zM:Tryz.prog.funcs[6]?=some Tryz.f6:=Tryz.func6
theorem zN:aX Tryz.f6=false:=by kernel_rfl
abbrev Dv:Nat:=7
theorem zt:Tryz.prog.funcs[7]?=some Tryz.f7:=Tryz.func7
theorem zZ:aX Tryz.f7=false:=by kernel_rfl
abbrev zw:Nat:=8
theorem og:Tryz.prog.funcs[8]?=some Tryz.f8:=Tryz.func8
theorem nQ:aX Tryz.f8=false:=by kernel_rfl
abbrev wx:Nat:=9
theorem tG:Tryz.prog.funcs[9]?=some Tryz.f9:=Tryz.func9
theorem tA:aX Tryz.f9=false:=by kernel_rfl
abbrev IK:Nat:=10
theorem zn:Tryz.prog.funcs[10]?=some Tryz.f10:=Tryz.func10
theorem yb:aX Tryz.f10=false:=by kernel_rfl
abbrev zI:Nat:=11
theorem yq:Tryz.prog.funcs[11]?=some Tryz.f11:=Tryz.func11
theorem xY:aX Tryz.f11=false:=by kernel_rfl
abbrev wF:Nat:=15
theorem tE:Tryz.prog.funcs[15]?=some Tryz.f15:=Tryz.func15
theorem s9:aX Tryz.f15=false:=by kernel_rfl
abbrev tw:Nat:=16
theorem jh:Tryz.prog.funcs[16]?=some Tryz.f16:=Tryz.func16
theorem jE:aX Tryz.f16=false:=by kernel_rfl
abbrev KP:Nat:=17
theorem ug:Tryz.prog.funcs[17]?=some Tryz.f17:=Tryz.func17
theorem uv:aX Tryz.f17=false:=by kernel_rfl
abbrev yK:Nat:=18
theorem vW:Tryz.prog.funcs[18]?=some Tryz.f18:=Tryz.func18
theorem wb:aX Tryz.f18=false:=by kernel_rfl
abbrev tz:Nat:=19
theorem rN:Tryz.prog.funcs[19]?=some Tryz.f19:=Tryz.func19
theorem rX:aX Tryz.f19=false:=by kernel_rfl
abbrev II:Nat:=20
theorem ze:Tryz.prog.funcs[20]?=some Tryz.f20:=Tryz.func20
theorem wX:aX Tryz.f20=false:=by kernel_rfl
abbrev Fv:Nat:=21
theorem Dk:Tryz.prog.funcs[21]?=some Tryz.f21:=Tryz.func21
theorem Cf:aX Tryz.f21=false:=by kernel_rfl
abbrev nI:Nat:=22
theorem wn:Tryz.prog.funcs[22]?=some Tryz.f22:=Tryz.func22
theorem wa:aX Tryz.f22=false:=by kernel_rfl
abbrev Fo:Nat:=23
theorem qy:Tryz.prog.funcs[23]?=some Tryz.f23:=Tryz.func23
theorem qP:aX Tryz.f23=false:=by kernel_rfl
abbrev GP:Nat:=24
theorem EA:Tryz.prog.funcs[24]?=some Tryz.f24:=Tryz.func24
theorem FO:aX Tryz.f24=false:=by kernel_rfl
abbrev wE:Nat:=25
theorem kZ:Tryz.prog.funcs[25]?=some Tryz.f25:=Tryz.func25
theorem kG:aX Tryz.f25=false:=by kernel_rfl
abbrev zq:Nat:=26
theorem iK:Tryz.prog.funcs[26]?=some Tryz.f26:=Tryz.func26
theorem iQ:aX Tryz.f26=false:=by kernel_rfl
abbrev we:Nat:=27
theorem tf:Tryz.prog.funcs[27]?=some Tryz.f27:=Tryz.func27
theorem tC:aX Tryz.f27=false:=by kernel_rfl
abbrev IE:Nat:=28
theorem GQ:Tryz.prog.funcs[28]?=some Tryz.f28:=Tryz.func28
theorem Gt:aX Tryz.f28=false:=by kernel_rfl
abbrev xT:Nat:=29
theorem wt:Tryz.prog.funcs[29]?=some Tryz.f29:=Tryz.func29
theorem vS:aX Tryz.f29=false:=by kernel_rfl
abbrev wV:Nat:=30
theorem wc:Tryz.prog.funcs[30]?=some Tryz.f30:=Tryz.func30
theorem wd:aX Tryz.f30=false:=by kernel_rfl
abbrev xh:Nat:=33
theorem vR:Tryz.prog.funcs[33]?=some Tryz.f33:=Tryz.func33
theorem wz:aX Tryz.f33=false:=by kernel_rfl
abbrev Gi:Nat:=36
theorem Eu:Tryz.prog.funcs[36]?=some Tryz.f36:=Tryz.func36
theorem DQ:aX Tryz.f36=false:=by kernel_rfl
abbrev GH:Nat:=37
theorem DD:Tryz.prog.funcs[37]?=some Tryz.f37:=Tryz.func37
theorem Ee:aX Tryz.f37=false:=by kernel_rfl
abbrev DY:Nat:=38
theorem B6:Tryz.prog.funcs[38]?=some Tryz.f38:=Tryz.func38
theorem BI:aX Tryz.f38=false:=by kernel_rfl
abbrev kX:Nat:=39
theorem jV:Tryz.prog.funcs[39]?=some Tryz.f39:=Tryz.func39
theorem jN:aX Tryz.f39=false:=by kernel_rfl
abbrev io:Nat:=40
theorem o6:Tryz.prog.funcs[40]?=some Tryz.f40:=Tryz.func40
theorem o9:aX Tryz.f40=false:=by kernel_rfl
abbrev vU:Nat:=41
theorem tQ:Tryz.prog.funcs[41]?=some Tryz.f41:=Tryz.func41
theorem tJ:aX Tryz.f41=false:=by kernel_rfl
abbrev Ab:Nat:=42
theorem yA:Tryz.prog.funcs[42]?=some Tryz.f42:=Tryz.func42
theorem ye:aX Tryz.f42=false:=by kernel_rfl
abbrev wj:Nat:=43
theorem kj:Tryz.prog.funcs[43]?=some Tryz.f43:=Tryz.func43
theorem j9:aX Tryz.f43=false:=by kernel_rfl
abbrev yw:Nat:=44
theorem nJ:Tryz.prog.funcs[44]?=some Tryz.f44:=Tryz.func44
theorem nz:aX Tryz.f44=false:=by kernel_rfl
abbrev lw:Nat:=45
theorem jO:Tryz.prog.funcs[45]?=some Tryz.f45:=Tryz.func45
theorem jG:aX Tryz.f45=false:=by kernel_rfl
abbrev qm:Nat:=46
theorem eW:Tryz.prog.funcs[46]?=some Tryz.f46:=Tryz.func46
theorem eR:aX Tryz.f46=false:=by kernel_rfl
abbrev Fb:Nat:=47
theorem sa:Tryz.prog.funcs[47]?=some Tryz.f47:=Tryz.func47
theorem sH:aX Tryz.f47=false:=by kernel_rfl
abbrev yo:Nat:=48
theorem bh:Tryz.prog.funcs[48]?=some Tryz.f48:=Tryz.func48
theorem bg:aX Tryz.f48=false:=by kernel_rfl
abbrev ko:Nat:=49
theorem iZ:Tryz.prog.funcs[49]?=some Tryz.f49:=Tryz.func49
theorem i0:aX Tryz.f49=false:=by kernel_rfl
abbrev D6:Nat:=50
theorem Dp:Tryz.prog.funcs[50]?=some Tryz.f50:=Tryz.func50
theorem BR:aX Tryz.f50=false:=by kernel_rfl
abbrev yV:Nat:=51
theorem mE:Tryz.prog.funcs[51]?=some Tryz.f51:=Tryz.func51
theorem mg:aX Tryz.f51=false:=by kernel_rfl
abbrev Cy:Nat:=52
theorem zB:Tryz.prog.funcs[52]?=some Tryz.f52:=Tryz.func52
theorem zX:aX Tryz.f52=false:=by kernel_rfl
abbrev sI:Nat:=53
theorem ct:Tryz.prog.funcs[53]?=some Tryz.f53:=Tryz.func53
theorem cu:aX Tryz.f53=false:=by kernel_rfl
abbrev Db:Nat:=54
theorem jP:Tryz.prog.funcs[54]?=some Tryz.f54:=Tryz.func54
theorem jT:aX Tryz.f54=false:=by kernel_rfl
abbrev BF:Nat:=55
theorem zQ:Tryz.prog.funcs[55]?=some Tryz.f55:=Tryz.func55
theorem zR:aX Tryz.f55=false:=by kernel_rfl
abbrev zK:Nat:=56
theorem yH:Tryz.prog.funcs[56]?=some Tryz.f56:=Tryz.func56
theorem y0:aX Tryz.f56=false:=by kernel_rfl
abbrev xo:Nat:=57
theorem wu:Tryz.prog.funcs[57]?=some Tryz.f57:=Tryz.func57
theorem wg:aX Tryz.f57=false:=by kernel_rfl
abbrev uJ:Nat:=58
theorem Dh:Tryz.prog.funcs[58]?=some Tryz.f58:=Tryz.func58
theorem CC:aX Tryz.f58=false:=by kernel_rfl
abbrev vg:Nat:=59
theorem lW:Tryz.prog.funcs[59]?=some Tryz.f59:=Tryz.func59
theorem lo:aX Tryz.f59=false:=by kernel_rfl
abbrev xS:Nat:=60
theorem l7:Tryz.prog.funcs[60]?=some Tryz.f60:=Tryz.func60
theorem md:aX Tryz.f60=false:=by kernel_rfl
abbrev Av:Nat:=64
theorem oy:Tryz.prog.funcs[64]?=some Tryz.f64:=Tryz.func64
theorem mZ:aX Tryz.f64=false:=by kernel_rfl
abbrev Gr:Nat:=66
theorem Dy:Tryz.prog.funcs[66]?=some Tryz.f66:=Tryz.func66
theorem FK:aX Tryz.f66=false:=by kernel_rfl
abbrev DK:Nat:=67
theorem sr:Tryz.prog.funcs[67]?=some Tryz.f67:=Tryz.func67
theorem qM:aX Tryz.f67=false:=by kernel_rfl
abbrev Cs:Nat:=68
theorem z0:Tryz.prog.funcs[68]?=some Tryz.f68:=Tryz.func68
theorem z5:aX Tryz.f68=false:=by kernel_rfl
abbrev C1:Nat:=69
theorem fa:Tryz.prog.funcs[69]?=some Tryz.f69:=Tryz.func69
theorem eZ:aX Tryz.f69=false:=by kernel_rfl
abbrev nV:Nat:=70
theorem mO:Tryz.prog.funcs[70]?=some Tryz.f70:=Tryz.func70
theorem mP:aX Tryz.f70=false:=by kernel_rfl
abbrev Au:Nat:=71
theorem nu:Tryz.prog.funcs[71]?=some Tryz.f71:=Tryz.func71
theorem ni:aX Tryz.f71=false:=by kernel_rfl
abbrev Ea:Nat:=72
theorem sf:Tryz.prog.funcs[72]?=some Tryz.f72:=Tryz.func72
theorem sx:aX Tryz.f72=false:=by kernel_rfl
abbrev HW:Nat:=73
theorem DC:Tryz.prog.funcs[73]?=some Tryz.f73:=Tryz.func73
theorem El:aX Tryz.f73=false:=by kernel_rfl
abbrev z1:Nat:=74
theorem np:Tryz.prog.funcs[74]?=some Tryz.f74:=Tryz.func74
theorem nT:aX Tryz.f74=false:=by kernel_rfl
abbrev qj:Nat:=75
theorem dO:Tryz.prog.funcs[75]?=some Tryz.f75:=Tryz.func75
theorem dR:aX Tryz.f75=false:=by kernel_rfl
abbrev Hj:Nat:=76
theorem Dz:Tryz.prog.funcs[76]?=some Tryz.f76:=Tryz.func76
theorem FB:aX Tryz.f76=false:=by kernel_rfl
abbrev wl:Nat:=77
theorem ui:Tryz.prog.funcs[77]?=some Tryz.f77:=Tryz.func77
theorem uw:aX Tryz.f77=false:=by kernel_rfl
abbrev As:Nat:=78
theorem xg:Tryz.prog.funcs[78]?=some Tryz.f78:=Tryz.func78
theorem zj:aX Tryz.f78=false:=by kernel_rfl
abbrev EI:Nat:=79
theorem sz:Tryz.prog.funcs[79]?=some Tryz.f79:=Tryz.func79
theorem qO:aX Tryz.f79=false:=by kernel_rfl
abbrev GT:Nat:=80
theorem uQ:Tryz.prog.funcs[80]?=some Tryz.f80:=Tryz.func80
theorem uE:aX Tryz.f80=false:=by kernel_rfl
abbrev z9:Nat:=81
theorem ez:Tryz.prog.funcs[81]?=some Tryz.f81:=Tryz.func81
theorem ei:aX Tryz.f81=false:=by kernel_rfl
abbrev ID:Nat:=82
theorem pZ:Tryz.prog.funcs[82]?=some Tryz.f82:=Tryz.func82
theorem qt:aX Tryz.f82=false:=by kernel_rfl
abbrev Gp:Nat:=83
theorem ek:Tryz.prog.funcs[83]?=some Tryz.f83:=Tryz.func83
theorem eD:aX Tryz.f83=false:=by kernel_rfl
abbrev Cv:Nat:=84
theorem z6:Tryz.prog.funcs[84]?=some Tryz.f84:=Tryz.func84
theorem zP:aX Tryz.f84=false:=by kernel_rfl
abbrev Mf:Nat:=85
theorem FR:Tryz.prog.funcs[85]?=some Tryz.f85:=Tryz.func85
theorem Ev:aX Tryz.f85=false:=by kernel_rfl
abbrev GW:Nat:=86
theorem oB:Tryz.prog.funcs[86]?=some Tryz.f86:=Tryz.func86
theorem mX:aX Tryz.f86=false:=by kernel_rfl
abbrev wm:Nat:=87
theorem tZ:Tryz.prog.funcs[87]?=some Tryz.f87:=Tryz.func87
theorem ud:aX Tryz.f87=false:=by kernel_rfl
abbrev tT:Nat:=88
theorem rh:Tryz.prog.funcs[88]?=some Tryz.f88:=Tryz.func88
theorem rz:aX Tryz.f88=false:=by kernel_rfl
abbrev wo:Nat:=89
theorem gg:Tryz.prog.funcs[89]?=some Tryz.f89:=Tryz.func89
theorem fY:aX Tryz.f89=false:=by kernel_rfl
abbrev fT:Nat:=90
theorem dT:Tryz.prog.funcs[90]?=some Tryz.f90:=Tryz.func90
theorem dY:aX Tryz.f90=false:=by kernel_rfl
abbrev jY:Nat:=91
theorem rb:Tryz.prog.funcs[91]?=some Tryz.f91:=Tryz.func91
theorem sU:aX Tryz.f91=false:=by kernel_rfl
abbrev zv:Nat:=92
theorem yD:Tryz.prog.funcs[92]?=some Tryz.f92:=Tryz.func92
theorem xR:aX Tryz.f92=false:=by kernel_rfl
abbrev Hb:Nat:=95
theorem Ex:Tryz.prog.funcs[95]?=some Tryz.f95:=Tryz.func95
theorem DS:aX Tryz.f95=false:=by kernel_rfl
abbrev GN:Nat:=96
theorem vD:Tryz.prog.funcs[96]?=some Tryz.f96:=Tryz.func96
theorem vM:aX Tryz.f96=false:=by kernel_rfl
abbrev zE:Nat:=97
theorem nl:Tryz.prog.funcs[97]?=some Tryz.f97:=Tryz.func97
theorem ov:aX Tryz.f97=false:=by kernel_rfl
abbrev Eh:Nat:=98
theorem dU:Tryz.prog.funcs[98]?=some Tryz.f98:=Tryz.func98
theorem dV:aX Tryz.f98=false:=by kernel_rfl
abbrev Ki:Nat:=99
theorem A5:Tryz.prog.funcs[99]?=some Tryz.f99:=Tryz.func99
theorem AD:aX Tryz.f99=false:=by kernel_rfl
abbrev Af:Nat:=100
theorem oE:Tryz.prog.funcs[100]?=some Tryz.f100:=Tryz.func100
theorem oe:aX Tryz.f100=false:=by kernel_rfl
abbrev Kw:Nat:=101
theorem Jz:Tryz.prog.funcs[101]?=some Tryz.f101:=Tryz.func101
theorem Jm:aX Tryz.f101=false:=by kernel_rfl
abbrev EW:Nat:=102
theorem lu:Tryz.prog.funcs[102]?=some Tryz.f102:=Tryz.func102
theorem lL:aX Tryz.f102=false:=by kernel_rfl
abbrev Fk:Nat:=103
theorem qE:Tryz.prog.funcs[103]?=some Tryz.f103:=Tryz.func103
theorem rY:aX Tryz.f103=false:=by kernel_rfl
abbrev D1:Nat:=104
theorem sy:Tryz.prog.funcs[104]?=some Tryz.f104:=Tryz.func104
theorem rl:aX Tryz.f104=false:=by kernel_rfl
abbrev G0:Nat:=105
theorem ef:Tryz.prog.funcs[105]?=some Tryz.f105:=Tryz.func105
theorem eF:aX Tryz.f105=false:=by kernel_rfl
abbrev GC:Nat:=106
theorem bY:Tryz.prog.funcs[106]?=some Tryz.f106:=Tryz.func106
theorem b0:aX Tryz.f106=false:=by kernel_rfl
abbrev ti:Nat:=107
theorem r3:Tryz.prog.funcs[107]?=some Tryz.f107:=Tryz.func107
theorem qD:aX Tryz.f107=false:=by kernel_rfl
abbrev GK:Nat:=108
theorem jc:Tryz.prog.funcs[108]?=some Tryz.f108:=Tryz.func108
theorem i4:aX Tryz.f108=false:=by kernel_rfl
abbrev Es:Nat:=109
theorem rJ:Tryz.prog.funcs[109]?=some Tryz.f109:=Tryz.func109
theorem qF:aX Tryz.f109=false:=by kernel_rfl
abbrev jF:Nat:=110
theorem iA:Tryz.prog.funcs[110]?=some Tryz.f110:=Tryz.func110
theorem ir:aX Tryz.f110=false:=by kernel_rfl
abbrev Jl:Nat:=111
theorem yk:Tryz.prog.funcs[111]?=some Tryz.f111:=Tryz.func111
theorem yO:aX Tryz.f111=false:=by kernel_rfl
abbrev yG:Nat:=112
theorem vP:Tryz.prog.funcs[112]?=some Tryz.f112:=Tryz.func112
theorem wy:aX Tryz.f112=false:=by kernel_rfl
abbrev IP:Nat:=113
theorem Gv:Tryz.prog.funcs[113]?=some Tryz.f113:=Tryz.func113
theorem Hr:aX Tryz.f113=false:=by kernel_rfl
abbrev wW:Nat:=114
theorem vX:Tryz.prog.funcs[114]?=some Tryz.f114:=Tryz.func114
theorem vQ:aX Tryz.f114=false:=by kernel_rfl
abbrev yR:Nat:=116
theorem mG:Tryz.prog.funcs[116]?=some Tryz.f116:=Tryz.func116
theorem lZ:aX Tryz.f116=false:=by kernel_rfl
abbrev Du:Nat:=117
theorem jU:Tryz.prog.funcs[117]?=some Tryz.f117:=Tryz.func117
theorem jH:aX Tryz.f117=false:=by kernel_rfl
abbrev xq:Nat:=118
theorem vY:Tryz.prog.funcs[118]?=some Tryz.f118:=Tryz.func118
theorem wk:aX Tryz.f118=false:=by kernel_rfl
abbrev xk:Nat:=119
theorem gQ:Tryz.prog.funcs[119]?=some Tryz.f119:=Tryz.func119
theorem gM:aX Tryz.f119=false:=by kernel_rfl
abbrev iG:Nat:=120
theorem gW:Tryz.prog.funcs[120]?=some Tryz.f120:=Tryz.func120
theorem gZ:aX Tryz.f120=false:=by kernel_rfl
abbrev Jp:Nat:=121
theorem HH:Tryz.prog.funcs[121]?=some Tryz.f121:=Tryz.func121
theorem Ga:aX Tryz.f121=false:=by kernel_rfl
abbrev z3:Nat:=122
theorem yu:Tryz.prog.funcs[122]?=some Tryz.f122:=Tryz.func122
theorem y6:aX Tryz.f122=false:=by kernel_rfl
abbrev Gm:Nat:=123
theorem EF:Tryz.prog.funcs[123]?=some Tryz.f123:=Tryz.func123
theorem FD:aX Tryz.f123=false:=by kernel_rfl
abbrev Fi:Nat:=124
theorem CB:Tryz.prog.funcs[124]?=some Tryz.f124:=Tryz.func124
theorem BW:aX Tryz.f124=false:=by kernel_rfl
abbrev zL:Nat:=125
theorem xr:Tryz.prog.funcs[125]?=some Tryz.f125:=Tryz.func125
theorem xm:aX Tryz.f125=false:=by kernel_rfl
abbrev Jt:Nat:=126
theorem Hy:Tryz.prog.funcs[126]?=some Tryz.f126:=Tryz.func126
theorem GR:aX Tryz.f126=false:=by kernel_rfl
abbrev Ed:Nat:=127
theorem C4:Tryz.prog.funcs[127]?=some Tryz.f127:=Tryz.func127
theorem CN:aX Tryz.f127=false:=by kernel_rfl
abbrev K4:Nat:=128
theorem IR:Tryz.prog.funcs[128]?=some Tryz.f128:=Tryz.func128
theorem Jv:aX Tryz.f128=false:=by kernel_rfl
abbrev Gs:Nat:=129
theorem EM:Tryz.prog.funcs[129]?=some Tryz.f129:=Tryz.func129
theorem FM:aX Tryz.f129=false:=by kernel_rfl
abbrev IJ:Nat:=130
theorem ym:Tryz.prog.funcs[130]?=some Tryz.f130:=Tryz.func130
theorem yj:aX Tryz.f130=false:=by kernel_rfl
abbrev tW:Nat:=131
theorem sG:Tryz.prog.funcs[131]?=some Tryz.f131:=Tryz.func131
theorem sq:aX Tryz.f131=false:=by kernel_rfl
abbrev ph:Nat:=132
theorem gI:Tryz.prog.funcs[132]?=some Tryz.f132:=Tryz.func132
theorem gz:aX Tryz.f132=false:=by kernel_rfl
abbrev Gh:Nat:=133
theorem vA:Tryz.prog.funcs[133]?=some Tryz.f133:=Tryz.func133
theorem uA:aX Tryz.f133=false:=by kernel_rfl
abbrev CF:Nat:=134
theorem Am:Tryz.prog.funcs[134]?=some Tryz.f134:=Tryz.func134
theorem zx:aX Tryz.f134=false:=by kernel_rfl
abbrev Ca:Nat:=135
theorem zC:Tryz.prog.funcs[135]?=some Tryz.f135:=Tryz.func135
theorem Ak:aX Tryz.f135=false:=by kernel_rfl
abbrev n_i_holds:Nat:=136
theorem fn_i_holds:Tryz.prog.funcs[136]?=some Tryz.f136:=Tryz.func136
theorem nm_i_holds:aX Tryz.f136=false:=by kernel_rfl
abbrev wB:Nat:=137
theorem de:Tryz.prog.funcs[137]?=some Tryz.f137:=Tryz.func137
theorem df:aX Tryz.f137=false:=by kernel_rfl
abbrev Jr:Nat:=138
theorem iL:Tryz.prog.funcs[138]?=some Tryz.f138:=Tryz.func138
theorem iu:aX Tryz.f138=false:=by kernel_rfl
abbrev Ha:Nat:=139
theorem vB:Tryz.prog.funcs[139]?=some Tryz.f139:=Tryz.func139
theorem vC:aX Tryz.f139=false:=by kernel_rfl
abbrev ki:Nat:=145
theorem jD:Tryz.prog.funcs[145]?=some Tryz.f145:=Tryz.func145
theorem jj:aX Tryz.f145=false:=by kernel_rfl
abbrev mV:Nat:=146
theorem fK:Tryz.prog.funcs[146]?=some Tryz.f146:=Tryz.func146
theorem fB:aX Tryz.f146=false:=by kernel_rfl
abbrev eM:Nat:=147
theorem sN:Tryz.prog.funcs[147]?=some Tryz.f147:=Tryz.func147
theorem qX:aX Tryz.f147=false:=by kernel_rfl
abbrev Ap:Nat:=148
theorem oh:Tryz.prog.funcs[148]?=some Tryz.f148:=Tryz.func148
theorem nZ:aX Tryz.f148=false:=by kernel_rfl
abbrev pd:Nat:=149
theorem eo:Tryz.prog.funcs[149]?=some Tryz.f149:=Tryz.func149
theorem eA:aX Tryz.f149=false:=by kernel_rfl
abbrev DI:Nat:=150
theorem Dn:Tryz.prog.funcs[150]?=some Tryz.f150:=Tryz.func150
theorem BS:aX Tryz.f150=false:=by kernel_rfl
abbrev Ar:Nat:=151
theorem xA:Tryz.prog.funcs[151]?=some Tryz.f151:=Tryz.func151
theorem yC:aX Tryz.f151=false:=by kernel_rfl
abbrev FP:Nat:=153
theorem CZ:Tryz.prog.funcs[153]?=some Tryz.f153:=Tryz.func153
theorem Do:aX Tryz.f153=false:=by kernel_rfl
abbrev Fr:Nat:=154
theorem hZ:Tryz.prog.funcs[154]?=some Tryz.f154:=Tryz.func154
theorem g6:aX Tryz.f154=false:=by kernel_rfl
abbrev BG:Nat:=155
theorem zY:Tryz.prog.funcs[155]?=some Tryz.f155:=Tryz.func155
theorem Ae:aX Tryz.f155=false:=by kernel_rfl
abbrev FY:Nat:=156
theorem uz:Tryz.prog.funcs[156]?=some Tryz.f156:=Tryz.func156
theorem vJ:aX Tryz.f156=false:=by kernel_rfl
abbrev Fw:Nat:=157
theorem ri:Tryz.prog.funcs[157]?=some Tryz.f157:=Tryz.func157
theorem r9:aX Tryz.f157=false:=by kernel_rfl
abbrev GV:Nat:=158
theorem ew:Tryz.prog.funcs[158]?=some Tryz.f158:=Tryz.func158
theorem eC:aX Tryz.f158=false:=by kernel_rfl
abbrev yS:Nat:=159
theorem fi:Tryz.prog.funcs[159]?=some Tryz.f159:=Tryz.func159
theorem ff:aX Tryz.f159=false:=by kernel_rfl
abbrev zf:Nat:=160
theorem mj:Tryz.prog.funcs[160]?=some Tryz.f160:=Tryz.func160
theorem mH:aX Tryz.f160=false:=by kernel_rfl
abbrev tM:Nat:=163
theorem rZ:Tryz.prog.funcs[163]?=some Tryz.f163:=Tryz.func163
theorem s5:aX Tryz.f163=false:=by kernel_rfl
abbrev I0:Nat:=164
theorem Gl:Tryz.prog.funcs[164]?=some Tryz.f164:=Tryz.func164
theorem Hx:aX Tryz.f164=false:=by kernel_rfl
abbrev Ec:Nat:=165
theorem sP:Tryz.prog.funcs[165]?=some Tryz.f165:=Tryz.func165
theorem rj:aX Tryz.f165=false:=by kernel_rfl
abbrev ER:Nat:=166
theorem rx:Tryz.prog.funcs[166]?=some Tryz.f166:=Tryz.func166
theorem qI:aX Tryz.f166=false:=by kernel_rfl
abbrev Gk:Nat:=167
theorem FQ:Tryz.prog.funcs[167]?=some Tryz.f167:=Tryz.func167
theorem Fm:aX Tryz.f167=false:=by kernel_rfl
abbrev DN:Nat:=168
theorem ra:Tryz.prog.funcs[168]?=some Tryz.f168:=Tryz.func168
theorem qH:aX Tryz.f168=false:=by kernel_rfl
abbrev HM:Nat:=169
theorem nC:Tryz.prog.funcs[169]?=some Tryz.f169:=Tryz.func169
theorem nO:aX Tryz.f169=false:=by kernel_rfl
abbrev GU:Nat:=170
theorem FE:Tryz.prog.funcs[170]?=some Tryz.f170:=Tryz.func170
theorem EX:aX Tryz.f170=false:=by kernel_rfl
abbrev Fy:Nat:=171
theorem ro:Tryz.prog.funcs[171]?=some Tryz.f171:=Tryz.func171
theorem sB:aX Tryz.f171=false:=by kernel_rfl
abbrev Gq:Nat:=172
theorem Ft:Tryz.prog.funcs[172]?=some Tryz.f172:=Tryz.func172
theorem DZ:aX Tryz.f172=false:=by kernel_rfl
abbrev BH:Nat:=173
theorem zA:Tryz.prog.funcs[173]?=some Tryz.f173:=Tryz.func173
theorem zr:aX Tryz.f173=false:=by kernel_rfl
abbrev E8:Nat:=174
theorem Dq:Tryz.prog.funcs[174]?=some Tryz.f174:=Tryz.func174
theorem B5:aX Tryz.f174=false:=by kernel_rfl
abbrev FZ:Nat:=175
theorem n4:Tryz.prog.funcs[175]?=some Tryz.f175:=Tryz.func175
theorem nY:aX Tryz.f175=false:=by kernel_rfl
abbrev Hf:Nat:=176
theorem Fe:Tryz.prog.funcs[176]?=some Tryz.f176:=Tryz.func176
theorem EU:aX Tryz.f176=false:=by kernel_rfl
abbrev tH:Nat:=177
theorem fy:Tryz.prog.funcs[177]?=some Tryz.f177:=Tryz.func177
theorem fG:aX Tryz.f177=false:=by kernel_rfl
abbrev IM:Nat:=179
theorem Hk:Tryz.prog.funcs[179]?=some Tryz.f179:=Tryz.func179
theorem GZ:aX Tryz.f179=false:=by kernel_rfl
abbrev Ho:Nat:=180
theorem vL:Tryz.prog.funcs[180]?=some Tryz.f180:=Tryz.func180
theorem vu:aX Tryz.f180=false:=by kernel_rfl
abbrev Aj:Nat:=181
theorem nL:Tryz.prog.funcs[181]?=some Tryz.f181:=Tryz.func181
theorem oD:aX Tryz.f181=false:=by kernel_rfl
abbrev FG:Nat:=182
theorem B8:Tryz.prog.funcs[182]?=some Tryz.f182:=Tryz.func182
theorem Cj:aX Tryz.f182=false:=by kernel_rfl
abbrev Dg:Nat:=183
theorem Ad:Tryz.prog.funcs[183]?=some Tryz.f183:=Tryz.func183
theorem zF:aX Tryz.f183=false:=by kernel_rfl
abbrev I6:Nat:=184
theorem FW:Tryz.prog.funcs[184]?=some Tryz.f184:=Tryz.func184
theorem Gj:aX Tryz.f184=false:=by kernel_rfl
abbrev pW:Nat:=186
theorem pi:Tryz.prog.funcs[186]?=some Tryz.f186:=Tryz.func186
theorem pf:aX Tryz.f186=false:=by kernel_rfl
abbrev FV:Nat:=188
theorem uV:Tryz.prog.funcs[188]?=some Tryz.f188:=Tryz.func188
theorem uB:aX Tryz.f188=false:=by kernel_rfl

end Go.Proofs.YtcpgagfdeflbkaaGreatDoor
