/- Made by program: names for the numbers of functions and types, and closed facts on them. -/
import Derived.Test.YtcpgagfdeflbkaaGreatDoorZSlS
import Derived.Test.YtcpgagfdeflbkaaGreatDoorProg
import Derived.KernelRfl
namespace Go.Proofs.YtcpgagfdeflbkaaGreatDoor
open Go
abbrev aX (f:Func):Bool:=f.name == "runtime.NumGoroutine" || f.body.isNone
abbrev b0:Nat:=3
theorem aI:iq Tryz.prog 3=true:=by kernel_rfl
theorem OH:gQ Tryz.prog 3=some (.int .i64 0):=by kernel_rfl
theorem gd:Tryz.prog.underlying 3=some (.int .i64):=by kernel_rfl
abbrev Kv:Nat:=4
theorem Mr:iq Tryz.prog 4=true:=by kernel_rfl
theorem zX:Tryz.prog.underlying 4=some .bool:=by kernel_rfl
abbrev Hh:Nat:=5
theorem Ao:iq Tryz.prog 5=true:=by kernel_rfl
theorem fK:Tryz.prog.underlying 5=some (.int .u8):=by kernel_rfl
abbrev fB:Nat:=9
theorem aN:iq Tryz.prog 9=true:=by kernel_rfl
theorem aJ:Tryz.prog.underlying 9=some .string:=by kernel_rfl
abbrev Ir:Nat:=22
theorem gG:iq Tryz.prog 22=true:=by kernel_rfl
theorem wu:lG Tryz.prog 22=some (5,1,1,(.int .u8 0)):=by kernel_rfl
theorem dS:cB Tryz.prog 22=some (5,1):=by kernel_rfl
theorem pN:iq Tryz.prog 23=true:=by kernel_rfl
theorem de:lG Tryz.prog 23=some (45,5,80,(.agg #[(.int .i64 0),(.int .i64 0),(.string ⟨#[]⟩),(.slice none 0 0),(.slice none 0 0)])):=by kernel_rfl
theorem bi:cB Tryz.prog 23=some (45,5):=by kernel_rfl
abbrev bf:Nat:=25
theorem cO:pL Tryz.prog 25=some 2:=by kernel_rfl
theorem BN:gQ Tryz.prog 25=some (.agg #[(.string ⟨#[]⟩),(.int .i64 0)]):=by kernel_rfl
abbrev tY:Nat:=31
theorem ao:iq Tryz.prog 31=true:=by kernel_rfl
theorem bA:lG Tryz.prog 31=some (43,4,56,(.agg #[(.int .i64 0),(.int .i64 0),(.string ⟨#[]⟩),(.slice none 0 0)])):=by kernel_rfl
theorem ah:cB Tryz.prog 31=some (43,4):=by kernel_rfl
theorem H4:lG Tryz.prog 34=some (58,1,24,(.agg #[(.slice none 0 0)])):=by kernel_rfl
theorem eq:cB Tryz.prog 34=some (58,1):=by kernel_rfl
abbrev ab:Nat:=43
theorem ac:pL Tryz.prog 43=some 4:=by kernel_rfl
theorem aZ:gQ Tryz.prog 43=some (.agg #[(.int .i64 0),(.int .i64 0),(.string ⟨#[]⟩),(.slice none 0 0)]):=by kernel_rfl
theorem aV:bz Tryz.prog 43 0=some 0:=by kernel_rfl
theorem bm:bz Tryz.prog 43 1=some 1:=by kernel_rfl
theorem aW:bz Tryz.prog 43 2=some 2:=by kernel_rfl
theorem av:bz Tryz.prog 43 3=some 3:=by kernel_rfl
abbrev ag:Nat:=45
theorem be:pL Tryz.prog 45=some 5:=by kernel_rfl
theorem dA:gQ Tryz.prog 45=some (.agg #[(.int .i64 0),(.int .i64 0),(.string ⟨#[]⟩),(.slice none 0 0),(.slice none 0 0)]):=by kernel_rfl
theorem bZ:bz Tryz.prog 45 0=some 0:=by kernel_rfl
theorem bo:bz Tryz.prog 45 1=some 4:=by kernel_rfl
abbrev dH:Nat:=58
theorem nE:pL Tryz.prog 58=some 1:=by kernel_rfl
theorem KV:gQ Tryz.prog 58=some (.agg #[(.slice none 0 0)]):=by kernel_rfl
theorem jx:bz Tryz.prog 58 0=some 0:=by kernel_rfl
theorem fT:lG Tryz.prog 60=some (25,2,24,(.agg #[(.string ⟨#[]⟩),(.int .i64 0)])):=by kernel_rfl
theorem eo:cB Tryz.prog 60=some (25,2):=by kernel_rfl
abbrev HE:Nat:=72
theorem eR:bz Tryz.prog 72 0=some 0:=by kernel_rfl
theorem pU:bz Tryz.prog 72 1=some 1:=by kernel_rfl
abbrev wk:Nat:=73
theorem LB:iq Tryz.prog 73=true:=by kernel_rfl
theorem Ae:lG Tryz.prog 73=some (9,1,16,(.string ⟨#[]⟩)):=by kernel_rfl
theorem bM:cB Tryz.prog 73=some (9,1):=by kernel_rfl
theorem IA:cB Tryz.prog 77=some (73,1):=by kernel_rfl
abbrev pV:Nat:=105
theorem gW:iq Tryz.prog 105=true:=by kernel_rfl
theorem P5:gQ Tryz.prog 105=some (.slice none 0 0):=by kernel_rfl
theorem ra:lG Tryz.prog 105=some (3,1,8,(.int .i64 0)):=by kernel_rfl
theorem dD:cB Tryz.prog 105=some (3,1):=by kernel_rfl
abbrev jJ:Nat:=108
theorem eE:iq Tryz.prog 108=true:=by kernel_rfl
theorem dj:iq Tryz.prog 110=true:=by kernel_rfl
theorem dG:iq Tryz.prog 111=true:=by kernel_rfl
theorem yR:lG Tryz.prog 111=some (147,9,112,(.agg #[(.int .i64 0),(.int .i64 0),(.string ⟨#[]⟩),(.slice none 0 0),(.int .i64 0),(.pointer none),(.slice none 0 0),(.int .i64 0),(.int .i64 0)])):=by kernel_rfl
theorem fJ:cB Tryz.prog 111=some (147,9):=by kernel_rfl
theorem iB:iq Tryz.prog 112=true:=by kernel_rfl
theorem EB:lG Tryz.prog 112=some (141,6,72,(.agg #[(.int .i64 0),(.int .i64 0),(.string ⟨#[]⟩),(.slice none 0 0),(.int .i64 0),(.int .i64 0)])):=by kernel_rfl
theorem rp:cB Tryz.prog 112=some (141,6):=by kernel_rfl
abbrev mY:Nat:=114
theorem fb:bz Tryz.prog 114 0=some 0:=by kernel_rfl
theorem nG:bz Tryz.prog 114 1=some 1:=by kernel_rfl
theorem Fh:bz Tryz.prog 114 2=some 2:=by kernel_rfl
theorem E8:bz Tryz.prog 114 3=some 3:=by kernel_rfl
theorem Ft:bz Tryz.prog 114 4=some 4:=by kernel_rfl
theorem Hj:bz Tryz.prog 114 5=some 5:=by kernel_rfl
theorem nU:bz Tryz.prog 114 6=some 6:=by kernel_rfl
theorem nO:bz Tryz.prog 114 7=some 7:=by kernel_rfl
theorem fR:bz Tryz.prog 114 8=some 8:=by kernel_rfl
theorem dp:bz Tryz.prog 114 9=some 9:=by kernel_rfl
theorem eB:bz Tryz.prog 114 10=some 10:=by kernel_rfl
theorem rT:bz Tryz.prog 114 11=some 11:=by kernel_rfl
abbrev nH:Nat:=124
theorem Fu:iq Tryz.prog 124=true:=by kernel_rfl
theorem Dm:iq Tryz.prog 132=true:=by kernel_rfl
theorem iG:Tryz.prog.underlying 132=some (.map 3 43):=by kernel_rfl
abbrev cD:Nat:=134
theorem qG:bz Tryz.prog 134 0=some 0:=by kernel_rfl
theorem eO:bz Tryz.prog 134 1=some 1:=by kernel_rfl
abbrev lD:Nat:=136
theorem A6:bz Tryz.prog 136 0=some 0:=by kernel_rfl
theorem Bl:bz Tryz.prog 136 1=some 4:=by kernel_rfl
theorem Bj:bz Tryz.prog 136 2=some 5:=by kernel_rfl
theorem kE:bz Tryz.prog 136 3=some 6:=by kernel_rfl
abbrev jw:Nat:=141
theorem Lt:bz Tryz.prog 141 2=some 5:=by kernel_rfl
abbrev dB:Nat:=147
theorem Bd:pL Tryz.prog 147=some 9:=by kernel_rfl
theorem K2:gQ Tryz.prog 147=some (.agg #[(.int .i64 0),(.int .i64 0),(.string ⟨#[]⟩),(.slice none 0 0),(.int .i64 0),(.pointer none),(.slice none 0 0),(.int .i64 0),(.int .i64 0)]):=by kernel_rfl
theorem Fg:bz Tryz.prog 147 0=some 0:=by kernel_rfl
theorem GS:bz Tryz.prog 147 1=some 4:=by kernel_rfl
theorem FH:bz Tryz.prog 147 2=some 5:=by kernel_rfl
theorem FA:bz Tryz.prog 147 3=some 6:=by kernel_rfl
theorem Gz:bz Tryz.prog 147 4=some 7:=by kernel_rfl
theorem Fk:bz Tryz.prog 147 5=some 8:=by kernel_rfl
abbrev gH:Nat:=180
abbrev cc:Nat:=4
abbrev Dd:Nat:=8
theorem kf:Tryz.prog.funcs[8]?=some Tryz.f8:=Tryz.func8
theorem jQ:aX Tryz.f8=false:=by kernel_rfl
abbrev zA:Nat:=9
theorem xg:Tryz.prog.funcs[9]?=some Tryz.f9:=Tryz.func9
theorem xt:aX Tryz.f9=false:=by kernel_rfl
abbrev M4:Nat:=10
theorem Bh:Tryz.prog.funcs[10]?=some Tryz.f10:=Tryz.func10
theorem zZ:aX Tryz.f10=false:=by kernel_rfl
abbrev DA:Nat:=11
theorem Ar:Tryz.prog.funcs[11]?=some Tryz.f11:=Tryz.func11
theorem BC:aX Tryz.f11=false:=by kernel_rfl
abbrev ph:Nat:=12
theorem o8:Tryz.prog.funcs[12]?=some Tryz.f12:=Tryz.func12
theorem pd:aX Tryz.f12=false:=by kernel_rfl
abbrev wE:Nat:=13
theorem kH:Tryz.prog.funcs[13]?=some Tryz.f13:=Tryz.func13
theorem lh:aX Tryz.f13=false:=by kernel_rfl
abbrev wR:Nat:=14
theorem vf:Tryz.prog.funcs[14]?=some Tryz.f14:=Tryz.func14
theorem uQ:aX Tryz.f14=false:=by kernel_rfl
abbrev xy:Nat:=16
theorem hH:Tryz.prog.funcs[16]?=some Tryz.f16:=Tryz.func16
theorem g9:aX Tryz.f16=false:=by kernel_rfl
abbrev OQ:Nat:=17
theorem rg:Tryz.prog.funcs[17]?=some Tryz.f17:=Tryz.func17
theorem ro:aX Tryz.f17=false:=by kernel_rfl
abbrev z7:Nat:=18
theorem zO:Tryz.prog.funcs[18]?=some Tryz.f18:=Tryz.func18
theorem zI:aX Tryz.f18=false:=by kernel_rfl
abbrev xo:Nat:=19
theorem tq:Tryz.prog.funcs[19]?=some Tryz.f19:=Tryz.func19
theorem vE:aX Tryz.f19=false:=by kernel_rfl
abbrev MU:Nat:=20
theorem sO:Tryz.prog.funcs[20]?=some Tryz.f20:=Tryz.func20
theorem sB:aX Tryz.f20=false:=by kernel_rfl
abbrev HY:Nat:=21
theorem GA:Tryz.prog.funcs[21]?=some Tryz.f21:=Tryz.func21
theorem GJ:aX Tryz.f21=false:=by kernel_rfl
abbrev pJ:Nat:=22
theorem zG:Tryz.prog.funcs[22]?=some Tryz.f22:=Tryz.func22
theorem zi:aX Tryz.f22=false:=by kernel_rfl
abbrev IH:Nat:=23
theorem Gq:Tryz.prog.funcs[23]?=some Tryz.f23:=Tryz.func23
theorem Gd:aX Tryz.f23=false:=by kernel_rfl
abbrev J0:Nat:=24
theorem IV:Tryz.prog.funcs[24]?=some Tryz.f24:=Tryz.func24
theorem Jd:aX Tryz.f24=false:=by kernel_rfl
abbrev zJ:Nat:=25
theorem xA:Tryz.prog.funcs[25]?=some Tryz.f25:=Tryz.func25
theorem wo:aX Tryz.f25=false:=by kernel_rfl
abbrev C8:Nat:=26
theorem Aa:Tryz.prog.funcs[26]?=some Tryz.f26:=Tryz.func26
theorem B7:aX Tryz.f26=false:=by kernel_rfl
abbrev ze:Nat:=27
theorem wU:Tryz.prog.funcs[27]?=some Tryz.f27:=Tryz.func27
theorem wX:aX Tryz.f27=false:=by kernel_rfl
abbrev Ni:Nat:=28
theorem Lu:Tryz.prog.funcs[28]?=some Tryz.f28:=Tryz.func28
theorem LO:aX Tryz.f28=false:=by kernel_rfl
abbrev Cp:Nat:=29
theorem zx:Tryz.prog.funcs[29]?=some Tryz.f29:=Tryz.func29
theorem zo:aX Tryz.f29=false:=by kernel_rfl
abbrev Au:Nat:=30
theorem jh:Tryz.prog.funcs[30]?=some Tryz.f30:=Tryz.func30
theorem je:aX Tryz.f30=false:=by kernel_rfl
abbrev Hy:Nat:=31
theorem Gu:Tryz.prog.funcs[31]?=some Tryz.f31:=Tryz.func31
theorem Fo:aX Tryz.f31=false:=by kernel_rfl
abbrev s6:Nat:=32
theorem jT:Tryz.prog.funcs[32]?=some Tryz.f32:=Tryz.func32
theorem jO:aX Tryz.f32=false:=by kernel_rfl
abbrev AA:Nat:=33
theorem oh:Tryz.prog.funcs[33]?=some Tryz.f33:=Tryz.func33
theorem oT:aX Tryz.f33=false:=by kernel_rfl
abbrev Fw:Nat:=34
theorem C6:Tryz.prog.funcs[34]?=some Tryz.f34:=Tryz.func34
theorem Dz:aX Tryz.f34=false:=by kernel_rfl
abbrev FI:Nat:=35
theorem rZ:Tryz.prog.funcs[35]?=some Tryz.f35:=Tryz.func35
theorem sr:aX Tryz.f35=false:=by kernel_rfl
abbrev JY:Nat:=36
theorem xZ:Tryz.prog.funcs[36]?=some Tryz.f36:=Tryz.func36
theorem yz:aX Tryz.f36=false:=by kernel_rfl
abbrev mz:Nat:=39
theorem lW:Tryz.prog.funcs[39]?=some Tryz.f39:=Tryz.func39
theorem l0:aX Tryz.f39=false:=by kernel_rfl
abbrev jW:Nat:=40
theorem rz:Tryz.prog.funcs[40]?=some Tryz.f40:=Tryz.func40
theorem rD:aX Tryz.f40=false:=by kernel_rfl
abbrev zE:Nat:=41
theorem wd:Tryz.prog.funcs[41]?=some Tryz.f41:=Tryz.func41
theorem wg:aX Tryz.f41=false:=by kernel_rfl
abbrev CR:Nat:=42
theorem CG:Tryz.prog.funcs[42]?=some Tryz.f42:=Tryz.func42
theorem BL:aX Tryz.f42=false:=by kernel_rfl
abbrev zm:Nat:=43
theorem l8:Tryz.prog.funcs[43]?=some Tryz.f43:=Tryz.func43
theorem me:aX Tryz.f43=false:=by kernel_rfl
abbrev AZ:Nat:=44
theorem pn:Tryz.prog.funcs[44]?=some Tryz.f44:=Tryz.func44
theorem qM:aX Tryz.f44=false:=by kernel_rfl
abbrev nC:Nat:=45
theorem lK:Tryz.prog.funcs[45]?=some Tryz.f45:=Tryz.func45
theorem l3:aX Tryz.f45=false:=by kernel_rfl
abbrev sD:Nat:=46
theorem gj:Tryz.prog.funcs[46]?=some Tryz.f46:=Tryz.func46
theorem gn:aX Tryz.f46=false:=by kernel_rfl
abbrev Jn:Nat:=47
theorem u6:Tryz.prog.funcs[47]?=some Tryz.f47:=Tryz.func47
theorem tT:aX Tryz.f47=false:=by kernel_rfl
abbrev AP:Nat:=48
theorem bK:Tryz.prog.funcs[48]?=some Tryz.f48:=Tryz.func48
theorem bJ:aX Tryz.f48=false:=by kernel_rfl
abbrev mA:Nat:=49
theorem lp:Tryz.prog.funcs[49]?=some Tryz.f49:=Tryz.func49
theorem kG:aX Tryz.f49=false:=by kernel_rfl
abbrev Ii:Nat:=50
theorem Fl:Tryz.prog.funcs[50]?=some Tryz.f50:=Tryz.func50
theorem Gl:aX Tryz.f50=false:=by kernel_rfl
abbrev Cv:Nat:=51
theorem om:Tryz.prog.funcs[51]?=some Tryz.f51:=Tryz.func51
theorem oq:aX Tryz.f51=false:=by kernel_rfl
abbrev Gt:Nat:=52
theorem DK:Tryz.prog.funcs[52]?=some Tryz.f52:=Tryz.func52
theorem CP:aX Tryz.f52=false:=by kernel_rfl
abbrev uF:Nat:=53
theorem cV:Tryz.prog.funcs[53]?=some Tryz.f53:=Tryz.func53
theorem cU:aX Tryz.f53=false:=by kernel_rfl
abbrev Fq:Nat:=54
theorem lV:Tryz.prog.funcs[54]?=some Tryz.f54:=Tryz.func54
theorem lT:aX Tryz.f54=false:=by kernel_rfl
abbrev Fb:Nat:=55
theorem Do:Tryz.prog.funcs[55]?=some Tryz.f55:=Tryz.func55
theorem DH:aX Tryz.f55=false:=by kernel_rfl
abbrev Df:Nat:=56
theorem Cw:Tryz.prog.funcs[56]?=some Tryz.f56:=Tryz.func56
theorem Ax:aX Tryz.f56=false:=by kernel_rfl
abbrev Cg:Nat:=57
theorem zM:Tryz.prog.funcs[57]?=some Tryz.f57:=Tryz.func57
theorem zp:aX Tryz.f57=false:=by kernel_rfl
abbrev y3:Nat:=58
theorem Gp:Tryz.prog.funcs[58]?=some Tryz.f58:=Tryz.func58
theorem Hl:aX Tryz.f58=false:=by kernel_rfl
abbrev y7:Nat:=59
theorem oa:Tryz.prog.funcs[59]?=some Tryz.f59:=Tryz.func59
theorem n7:aX Tryz.f59=false:=by kernel_rfl
abbrev Cx:Nat:=60
theorem oL:Tryz.prog.funcs[60]?=some Tryz.f60:=Tryz.func60
theorem ox:aX Tryz.f60=false:=by kernel_rfl
abbrev M5:Nat:=61
theorem Kx:Tryz.prog.funcs[61]?=some Tryz.f61:=Tryz.func61
theorem Ke:aX Tryz.f61=false:=by kernel_rfl
abbrev Ko:Nat:=62
theorem xH:Tryz.prog.funcs[62]?=some Tryz.f62:=Tryz.func62
theorem xY:aX Tryz.f62=false:=by kernel_rfl
abbrev AG:Nat:=63
theorem zL:Tryz.prog.funcs[63]?=some Tryz.f63:=Tryz.func63
theorem zC:aX Tryz.f63=false:=by kernel_rfl
abbrev CT:Nat:=64
theorem pK:Tryz.prog.funcs[64]?=some Tryz.f64:=Tryz.func64
theorem qT:aX Tryz.f64=false:=by kernel_rfl
abbrev uz:Nat:=65
theorem C0:Tryz.prog.funcs[65]?=some Tryz.f65:=Tryz.func65
theorem CX:aX Tryz.f65=false:=by kernel_rfl
abbrev Ka:Nat:=66
theorem yu:Tryz.prog.funcs[66]?=some Tryz.f66:=Tryz.func66
theorem yX:aX Tryz.f66=false:=by kernel_rfl
abbrev IO:Nat:=67
theorem nq:Tryz.prog.funcs[67]?=some Tryz.f67:=Tryz.func67
theorem nK:aX Tryz.f67=false:=by kernel_rfl
abbrev Ge:Nat:=69
theorem iJ:Tryz.prog.funcs[69]?=some Tryz.f69:=Tryz.func69
theorem iF:aX Tryz.f69=false:=by kernel_rfl
abbrev pw:Nat:=70
theorem o9:Tryz.prog.funcs[70]?=some Tryz.f70:=Tryz.func70
theorem o5:aX Tryz.f70=false:=by kernel_rfl
abbrev C7:Nat:=71
theorem pQ:Tryz.prog.funcs[71]?=some Tryz.f71:=Tryz.func71
theorem pW:aX Tryz.f71=false:=by kernel_rfl
abbrev Jv:Nat:=72
theorem nD:Tryz.prog.funcs[72]?=some Tryz.f72:=Tryz.func72
theorem nf:aX Tryz.f72=false:=by kernel_rfl
abbrev MG:Nat:=73
theorem HF:Tryz.prog.funcs[73]?=some Tryz.f73:=Tryz.func73
theorem IR:aX Tryz.f73=false:=by kernel_rfl
abbrev Dk:Nat:=74
theorem qw:Tryz.prog.funcs[74]?=some Tryz.f74:=Tryz.func74
theorem qc:aX Tryz.f74=false:=by kernel_rfl
abbrev s0:Nat:=75
theorem eP:Tryz.prog.funcs[75]?=some Tryz.f75:=Tryz.func75
theorem eV:aX Tryz.f75=false:=by kernel_rfl
abbrev JP:Nat:=76
theorem JN:Tryz.prog.funcs[76]?=some Tryz.f76:=Tryz.func76
theorem IE:aX Tryz.f76=false:=by kernel_rfl
abbrev zk:Nat:=77
theorem wV:Tryz.prog.funcs[77]?=some Tryz.f77:=Tryz.func77
theorem wv:aX Tryz.f77=false:=by kernel_rfl
abbrev DD:Nat:=78
theorem z2:Tryz.prog.funcs[78]?=some Tryz.f78:=Tryz.func78
theorem Am:aX Tryz.f78=false:=by kernel_rfl
abbrev Jr:Nat:=79
theorem u4:Tryz.prog.funcs[79]?=some Tryz.f79:=Tryz.func79
theorem uK:aX Tryz.f79=false:=by kernel_rfl
abbrev Kp:Nat:=80
theorem xX:Tryz.prog.funcs[80]?=some Tryz.f80:=Tryz.func80
theorem xV:aX Tryz.f80=false:=by kernel_rfl
abbrev C4:Nat:=81
theorem fA:Tryz.prog.funcs[81]?=some Tryz.f81:=Tryz.func81
theorem fI:aX Tryz.f81=false:=by kernel_rfl
abbrev Nv:Nat:=82
theorem sG:Tryz.prog.funcs[82]?=some Tryz.f82:=Tryz.func82
theorem sM:aX Tryz.f82=false:=by kernel_rfl
abbrev KZ:Nat:=83
theorem fE:Tryz.prog.funcs[83]?=some Tryz.f83:=Tryz.func83
theorem fL:aX Tryz.f83=false:=by kernel_rfl
abbrev GP:Nat:=84
theorem De:Tryz.prog.funcs[84]?=some Tryz.f84:=Tryz.func84
theorem CS:aX Tryz.f84=false:=by kernel_rfl
abbrev Qq:Nat:=85
theorem JE:Tryz.prog.funcs[85]?=some Tryz.f85:=Tryz.func85
theorem Jl:aX Tryz.f85=false:=by kernel_rfl
abbrev Kk:Nat:=86
theorem qB:Tryz.prog.funcs[86]?=some Tryz.f86:=Tryz.func86
theorem py:aX Tryz.f86=false:=by kernel_rfl
abbrev zt:Nat:=87
theorem xz:Tryz.prog.funcs[87]?=some Tryz.f87:=Tryz.func87
theorem wH:aX Tryz.f87=false:=by kernel_rfl
abbrev xl:Nat:=88
theorem uB:Tryz.prog.funcs[88]?=some Tryz.f88:=Tryz.func88
theorem uv:aX Tryz.f88=false:=by kernel_rfl
abbrev zu:Nat:=89
theorem iu:Tryz.prog.funcs[89]?=some Tryz.f89:=Tryz.func89
theorem ir:aX Tryz.f89=false:=by kernel_rfl
abbrev ie:Nat:=90
theorem eZ:Tryz.prog.funcs[90]?=some Tryz.f90:=Tryz.func90
theorem fg:aX Tryz.f90=false:=by kernel_rfl
abbrev mL:Nat:=91
theorem tg:Tryz.prog.funcs[91]?=some Tryz.f91:=Tryz.func91
theorem vi:aX Tryz.f91=false:=by kernel_rfl
abbrev C2:Nat:=92
theorem Cs:Tryz.prog.funcs[92]?=some Tryz.f92:=Tryz.func92
theorem AN:aX Tryz.f92=false:=by kernel_rfl
abbrev yI:Nat:=93
theorem FS:Tryz.prog.funcs[93]?=some Tryz.f93:=Tryz.func93
theorem Hf:aX Tryz.f93=false:=by kernel_rfl
abbrev H9:Nat:=94
theorem tD:Tryz.prog.funcs[94]?=some Tryz.f94:=Tryz.func94
theorem uH:aX Tryz.f94=false:=by kernel_rfl
abbrev KG:Nat:=95
theorem Ix:Tryz.prog.funcs[95]?=some Tryz.f95:=Tryz.func95
theorem HW:aX Tryz.f95=false:=by kernel_rfl
abbrev Lm:Nat:=96
theorem y4:Tryz.prog.funcs[96]?=some Tryz.f96:=Tryz.func96
theorem yW:aX Tryz.f96=false:=by kernel_rfl
abbrev CO:Nat:=97
theorem qp:Tryz.prog.funcs[97]?=some Tryz.f97:=Tryz.func97
theorem qh:aX Tryz.f97=false:=by kernel_rfl
abbrev H1:Nat:=98
theorem eY:Tryz.prog.funcs[98]?=some Tryz.f98:=Tryz.func98
theorem fe:aX Tryz.f98=false:=by kernel_rfl
abbrev Oj:Nat:=99
theorem DW:Tryz.prog.funcs[99]?=some Tryz.f99:=Tryz.func99
theorem EA:aX Tryz.f99=false:=by kernel_rfl
abbrev Dq:Nat:=100
theorem pZ:Tryz.prog.funcs[100]?=some Tryz.f100:=Tryz.func100
theorem qO:aX Tryz.f100=false:=by kernel_rfl
abbrev PK:Nat:=101
theorem M8:Tryz.prog.funcs[101]?=some Tryz.f101:=Tryz.func101
theorem Nb:aX Tryz.f101=false:=by kernel_rfl
abbrev Jm:Nat:=102
theorem nt:Tryz.prog.funcs[102]?=some Tryz.f102:=Tryz.func102
theorem nj:aX Tryz.f102=false:=by kernel_rfl
abbrev IG:Nat:=103
theorem vH:Tryz.prog.funcs[103]?=some Tryz.f103:=Tryz.func103
theorem tF:aX Tryz.f103=false:=by kernel_rfl
abbrev JM:Nat:=104
theorem vN:Tryz.prog.funcs[104]?=some Tryz.f104:=Tryz.func104
theorem uN:aX Tryz.f104=false:=by kernel_rfl
abbrev Kw:Nat:=105
theorem fD:Tryz.prog.funcs[105]?=some Tryz.f105:=Tryz.func105
theorem fN:aX Tryz.f105=false:=by kernel_rfl
abbrev KH:Nat:=106
theorem cF:Tryz.prog.funcs[106]?=some Tryz.f106:=Tryz.func106
theorem cG:aX Tryz.f106=false:=by kernel_rfl
abbrev xu:Nat:=107
theorem uo:Tryz.prog.funcs[107]?=some Tryz.f107:=Tryz.func107
theorem vr:aX Tryz.f107=false:=by kernel_rfl
abbrev K4:Nat:=108
theorem kT:Tryz.prog.funcs[108]?=some Tryz.f108:=Tryz.func108
theorem lu:aX Tryz.f108=false:=by kernel_rfl
abbrev HK:Nat:=109
theorem ti:Tryz.prog.funcs[109]?=some Tryz.f109:=Tryz.func109
theorem uO:aX Tryz.f109=false:=by kernel_rfl
abbrev kI:Nat:=110
theorem jZ:Tryz.prog.funcs[110]?=some Tryz.f110:=Tryz.func110
theorem jM:aX Tryz.f110=false:=by kernel_rfl
abbrev MV:Nat:=111
theorem CH:Tryz.prog.funcs[111]?=some Tryz.f111:=Tryz.func111
theorem Bz:aX Tryz.f111=false:=by kernel_rfl
abbrev AL:Nat:=112
theorem zH:Tryz.prog.funcs[112]?=some Tryz.f112:=Tryz.func112
theorem zl:aX Tryz.f112=false:=by kernel_rfl
abbrev Na:Nat:=113
theorem K8:Tryz.prog.funcs[113]?=some Tryz.f113:=Tryz.func113
theorem JT:aX Tryz.f113=false:=by kernel_rfl
abbrev A2:Nat:=114
theorem oG:Tryz.prog.funcs[114]?=some Tryz.f114:=Tryz.func114
theorem oD:aX Tryz.f114=false:=by kernel_rfl
abbrev A5:Nat:=116
theorem oO:Tryz.prog.funcs[116]?=some Tryz.f116:=Tryz.func116
theorem ob:aX Tryz.f116=false:=by kernel_rfl
abbrev FM:Nat:=117
theorem lP:Tryz.prog.funcs[117]?=some Tryz.f117:=Tryz.func117
theorem lJ:aX Tryz.f117=false:=by kernel_rfl
abbrev Cz:Nat:=118
theorem zN:Tryz.prog.funcs[118]?=some Tryz.f118:=Tryz.func118
theorem zy:aX Tryz.f118=false:=by kernel_rfl
abbrev Ag:Nat:=119
theorem jb:Tryz.prog.funcs[119]?=some Tryz.f119:=Tryz.func119
theorem jd:aX Tryz.f119=false:=by kernel_rfl
abbrev j9:Nat:=120
theorem jq:Tryz.prog.funcs[120]?=some Tryz.f120:=Tryz.func120
theorem jo:aX Tryz.f120=false:=by kernel_rfl
abbrev NM:Nat:=121
theorem JV:Tryz.prog.funcs[121]?=some Tryz.f121:=Tryz.func121
theorem Ll:aX Tryz.f121=false:=by kernel_rfl
abbrev Du:Nat:=122
theorem BD:Tryz.prog.funcs[122]?=some Tryz.f122:=Tryz.func122
theorem AE:aX Tryz.f122=false:=by kernel_rfl
abbrev Lv:Nat:=123
theorem Is:Tryz.prog.funcs[123]?=some Tryz.f123:=Tryz.func123
theorem IQ:aX Tryz.f123=false:=by kernel_rfl
abbrev Iw:Nat:=124
theorem FN:Tryz.prog.funcs[124]?=some Tryz.f124:=Tryz.func124
theorem Fs:aX Tryz.f124=false:=by kernel_rfl
abbrev DE:Nat:=125
theorem Bu:Tryz.prog.funcs[125]?=some Tryz.f125:=Tryz.func125
theorem A8:aX Tryz.f125=false:=by kernel_rfl
abbrev Nl:Nat:=126
theorem K6:Tryz.prog.funcs[126]?=some Tryz.f126:=Tryz.func126
theorem Ln:aX Tryz.f126=false:=by kernel_rfl
abbrev Hp:Nat:=127
theorem FL:Tryz.prog.funcs[127]?=some Tryz.f127:=Tryz.func127
theorem EZ:aX Tryz.f127=false:=by kernel_rfl
abbrev Oz:Nat:=128
theorem Nw:Tryz.prog.funcs[128]?=some Tryz.f128:=Tryz.func128
theorem Nu:aX Tryz.f128=false:=by kernel_rfl
abbrev KW:Nat:=129
theorem Js:Tryz.prog.funcs[129]?=some Tryz.f129:=Tryz.func129
theorem Iv:aX Tryz.f129=false:=by kernel_rfl
abbrev Nk:Nat:=130
theorem z1:Tryz.prog.funcs[130]?=some Tryz.f130:=Tryz.func130
theorem z9:aX Tryz.f130=false:=by kernel_rfl
abbrev wy:Nat:=131
theorem vd:Tryz.prog.funcs[131]?=some Tryz.f131:=Tryz.func131
theorem vx:aX Tryz.f131=false:=by kernel_rfl
abbrev rI:Nat:=132
theorem i5:Tryz.prog.funcs[132]?=some Tryz.f132:=Tryz.func132
theorem iT:aX Tryz.f132=false:=by kernel_rfl
abbrev KN:Nat:=133
theorem xF:Tryz.prog.funcs[133]?=some Tryz.f133:=Tryz.func133
theorem x1:aX Tryz.f133=false:=by kernel_rfl
abbrev Fy:Nat:=134
theorem Dp:Tryz.prog.funcs[134]?=some Tryz.f134:=Tryz.func134
theorem Ds:aX Tryz.f134=false:=by kernel_rfl
abbrev EY:Nat:=135
theorem CZ:Tryz.prog.funcs[135]?=some Tryz.f135:=Tryz.func135
theorem C3:aX Tryz.f135=false:=by kernel_rfl
abbrev n_i_holds:Nat:=136
theorem fn_i_holds:Tryz.prog.funcs[136]?=some Tryz.f136:=Tryz.func136
theorem nm_i_holds:aX Tryz.f136=false:=by kernel_rfl
abbrev zv:Nat:=137
theorem dT:Tryz.prog.funcs[137]?=some Tryz.f137:=Tryz.func137
theorem dQ:aX Tryz.f137=false:=by kernel_rfl
abbrev ND:Nat:=138
theorem jV:Tryz.prog.funcs[138]?=some Tryz.f138:=Tryz.func138
theorem kB:aX Tryz.f138=false:=by kernel_rfl
abbrev JW:Nat:=139
theorem xP:Tryz.prog.funcs[139]?=some Tryz.f139:=Tryz.func139
theorem yN:aX Tryz.f139=false:=by kernel_rfl
abbrev mN:Nat:=145
theorem kZ:Tryz.prog.funcs[145]?=some Tryz.f145:=Tryz.func145
theorem kJ:aX Tryz.f145=false:=by kernel_rfl
abbrev qS:Nat:=146
theorem gO:Tryz.prog.funcs[146]?=some Tryz.f146:=Tryz.func146
theorem gU:aX Tryz.f146=false:=by kernel_rfl
abbrev fX:Nat:=147
theorem ue:Tryz.prog.funcs[147]?=some Tryz.f147:=Tryz.func147
theorem vK:aX Tryz.f147=false:=by kernel_rfl
abbrev CW:Nat:=148
theorem pk:Tryz.prog.funcs[148]?=some Tryz.f148:=Tryz.func148
theorem pB:aX Tryz.f148=false:=by kernel_rfl
abbrev rE:Nat:=149
theorem fO:Tryz.prog.funcs[149]?=some Tryz.f149:=Tryz.func149
theorem fG:aX Tryz.f149=false:=by kernel_rfl
abbrev I0:Nat:=150
theorem GD:Tryz.prog.funcs[150]?=some Tryz.f150:=Tryz.func150
theorem GM:aX Tryz.f150=false:=by kernel_rfl
abbrev CQ:Nat:=151
theorem Cy:Tryz.prog.funcs[151]?=some Tryz.f151:=Tryz.func151
theorem Cn:aX Tryz.f151=false:=by kernel_rfl
abbrev Iz:Nat:=153
theorem Fv:Tryz.prog.funcs[153]?=some Tryz.f153:=Tryz.func153
theorem FW:aX Tryz.f153=false:=by kernel_rfl
abbrev Ie:Nat:=154
theorem ju:Tryz.prog.funcs[154]?=some Tryz.f154:=Tryz.func154
theorem jt:aX Tryz.f154=false:=by kernel_rfl
abbrev FF:Nat:=155
theorem Dv:Tryz.prog.funcs[155]?=some Tryz.f155:=Tryz.func155
theorem DB:aX Tryz.f155=false:=by kernel_rfl
abbrev Ku:Nat:=156
theorem y9:Tryz.prog.funcs[156]?=some Tryz.f156:=Tryz.func156
theorem xR:aX Tryz.f156=false:=by kernel_rfl
abbrev HQ:Nat:=157
theorem tf:Tryz.prog.funcs[157]?=some Tryz.f157:=Tryz.func157
theorem tK:aX Tryz.f157=false:=by kernel_rfl
abbrev Lr:Nat:=158
theorem fC:Tryz.prog.funcs[158]?=some Tryz.f158:=Tryz.func158
theorem fF:aX Tryz.f158=false:=by kernel_rfl
abbrev AW:Nat:=159
theorem gA:Tryz.prog.funcs[159]?=some Tryz.f159:=Tryz.func159
theorem gy:aX Tryz.f159=false:=by kernel_rfl
abbrev Bo:Nat:=160
theorem oM:Tryz.prog.funcs[160]?=some Tryz.f160:=Tryz.func160
theorem oo:aX Tryz.f160=false:=by kernel_rfl
abbrev xD:Nat:=163
theorem tP:Tryz.prog.funcs[163]?=some Tryz.f163:=Tryz.func163
theorem s8:aX Tryz.f163=false:=by kernel_rfl
abbrev Ny:Nat:=164
theorem Kh:Tryz.prog.funcs[164]?=some Tryz.f164:=Tryz.func164
theorem Kr:aX Tryz.f164=false:=by kernel_rfl
abbrev JL:Nat:=165
theorem uy:Tryz.prog.funcs[165]?=some Tryz.f165:=Tryz.func165
theorem tS:aX Tryz.f165=false:=by kernel_rfl
abbrev Hw:Nat:=166
theorem vA:Tryz.prog.funcs[166]?=some Tryz.f166:=Tryz.func166
theorem tp:aX Tryz.f166=false:=by kernel_rfl
abbrev Lw:Nat:=167
theorem HL:Tryz.prog.funcs[167]?=some Tryz.f167:=Tryz.func167
theorem Jb:aX Tryz.f167=false:=by kernel_rfl
abbrev JH:Nat:=168
theorem uC:Tryz.prog.funcs[168]?=some Tryz.f168:=Tryz.func168
theorem vS:aX Tryz.f168=false:=by kernel_rfl
abbrev Lq:Nat:=169
theorem qP:Tryz.prog.funcs[169]?=some Tryz.f169:=Tryz.func169
theorem pz:aX Tryz.f169=false:=by kernel_rfl
abbrev Kl:Nat:=170
theorem IB:Tryz.prog.funcs[170]?=some Tryz.f170:=Tryz.func170
theorem Ji:aX Tryz.f170=false:=by kernel_rfl
abbrev IM:Nat:=171
theorem tQ:Tryz.prog.funcs[171]?=some Tryz.f171:=Tryz.func171
theorem vh:aX Tryz.f171=false:=by kernel_rfl
abbrev Kf:Nat:=172
theorem HB:Tryz.prog.funcs[172]?=some Tryz.f172:=Tryz.func172
theorem Jh:aX Tryz.f172=false:=by kernel_rfl
abbrev Ga:Nat:=173
theorem Dc:Tryz.prog.funcs[173]?=some Tryz.f173:=Tryz.func173
theorem CN:aX Tryz.f173=false:=by kernel_rfl
abbrev HV:Nat:=174
theorem GT:Tryz.prog.funcs[174]?=some Tryz.f174:=Tryz.func174
theorem GE:aX Tryz.f174=false:=by kernel_rfl
abbrev JR:Nat:=175
theorem pl:Tryz.prog.funcs[175]?=some Tryz.f175:=Tryz.func175
theorem qf:aX Tryz.f175=false:=by kernel_rfl
abbrev Lb:Nat:=176
theorem HG:Tryz.prog.funcs[176]?=some Tryz.f176:=Tryz.func176
theorem IC:aX Tryz.f176=false:=by kernel_rfl
abbrev wt:Nat:=177
theorem g6:Tryz.prog.funcs[177]?=some Tryz.f177:=Tryz.func177
theorem gX:aX Tryz.f177=false:=by kernel_rfl
abbrev Nh:Nat:=179
theorem KR:Tryz.prog.funcs[179]?=some Tryz.f179:=Tryz.func179
theorem Ki:aX Tryz.f179=false:=by kernel_rfl
abbrev JZ:Nat:=180
theorem yp:Tryz.prog.funcs[180]?=some Tryz.f180:=Tryz.func180
theorem yK:aX Tryz.f180=false:=by kernel_rfl
abbrev Di:Nat:=181
theorem pg:Tryz.prog.funcs[181]?=some Tryz.f181:=Tryz.func181
theorem qt:aX Tryz.f181=false:=by kernel_rfl
abbrev Ju:Nat:=182
theorem GH:Tryz.prog.funcs[182]?=some Tryz.f182:=Tryz.func182
theorem E6:aX Tryz.f182=false:=by kernel_rfl
abbrev Fd:Nat:=183
theorem CL:Tryz.prog.funcs[183]?=some Tryz.f183:=Tryz.func183
theorem Dy:aX Tryz.f183=false:=by kernel_rfl
abbrev NE:Nat:=184
theorem LN:Tryz.prog.funcs[184]?=some Tryz.f184:=Tryz.func184
theorem LF:aX Tryz.f184=false:=by kernel_rfl
abbrev sX:Nat:=186
theorem ru:Tryz.prog.funcs[186]?=some Tryz.f186:=Tryz.func186
theorem rG:aX Tryz.f186=false:=by kernel_rfl
abbrev LI:Nat:=188
theorem yY:Tryz.prog.funcs[188]?=some Tryz.f188:=Tryz.func188
theorem yP:aX Tryz.f188=false:=by kernel_rfl

end Go.Proofs.YtcpgagfdeflbkaaGreatDoor
