/- Made by program: names for the numbers of functions and types, and closed facts on them. -/
import Derived.Test.YtbocelianhcfmaaGreatDoorZEgS
import Derived.Test.YtbocelianhcfmaaGreatDoorProg
import Derived.KernelRfl
namespace Go.Proofs.YtbocelianhcfmaaGreatDoor
open Go
abbrev aX (f:Func):Bool:=f.name == "runtime.NumGoroutine" || f.body.isNone
abbrev eN:Nat:=3
theorem aw:jc Tryz.prog 3=true:=by kernel_rfl
theorem IO:g8 Tryz.prog 3=some (.int .i64 0):=by kernel_rfl
theorem ma:Tryz.prog.underlying 3=some (.int .i64):=by kernel_rfl
abbrev PI:Nat:=4
theorem jf:Tryz.prog.underlying 4=some .bool:=by kernel_rfl
abbrev CX:Nat:=5
theorem xU:jc Tryz.prog 5=true:=by kernel_rfl
theorem eq:Tryz.prog.underlying 5=some (.int .u8):=by kernel_rfl
abbrev ff:Nat:=9
theorem aC:jc Tryz.prog 9=true:=by kernel_rfl
theorem aF:Tryz.prog.underlying 9=some .string:=by kernel_rfl
theorem Kw:jc Tryz.prog 22=true:=by kernel_rfl
theorem vy:ce Tryz.prog 22=some (24,4):=by kernel_rfl
theorem K7:jV Tryz.prog 24=some 4:=by kernel_rfl
theorem IY:bG Tryz.prog 24 0=some 0:=by kernel_rfl
theorem HO:bG Tryz.prog 24 1=some 1:=by kernel_rfl
theorem HQ:bG Tryz.prog 24 2=some 2:=by kernel_rfl
theorem HN:bG Tryz.prog 24 3=some 3:=by kernel_rfl
abbrev sa:Nat:=30
theorem al:jc Tryz.prog 30=true:=by kernel_rfl
theorem bj:fb Tryz.prog 30=some (32,4,56,(.agg #[(.int .i64 0),(.int .i64 0),(.string ⟨#[]⟩),(.slice none 0 0)])):=by kernel_rfl
theorem ah:ce Tryz.prog 30=some (32,4):=by kernel_rfl
abbrev ab:Nat:=32
theorem ac:jV Tryz.prog 32=some 4:=by kernel_rfl
theorem aU:g8 Tryz.prog 32=some (.agg #[(.int .i64 0),(.int .i64 0),(.string ⟨#[]⟩),(.slice none 0 0)]):=by kernel_rfl
theorem aM:bG Tryz.prog 32 0=some 0:=by kernel_rfl
theorem aR:bG Tryz.prog 32 1=some 1:=by kernel_rfl
theorem aH:bG Tryz.prog 32 2=some 2:=by kernel_rfl
theorem ak:bG Tryz.prog 32 3=some 3:=by kernel_rfl
abbrev Ck:Nat:=33
theorem aZ:jc Tryz.prog 33=true:=by kernel_rfl
theorem fQ:fb Tryz.prog 33=some (35,6,88,(.agg #[(.int .i64 0),(.int .i64 0),(.string ⟨#[]⟩),(.slice none 0 0),(.int .i64 0),(.slice none 0 0)])):=by kernel_rfl
theorem bl:ce Tryz.prog 33=some (35,6):=by kernel_rfl
abbrev af:Nat:=35
theorem aq:jV Tryz.prog 35=some 6:=by kernel_rfl
theorem bV:g8 Tryz.prog 35=some (.agg #[(.int .i64 0),(.int .i64 0),(.string ⟨#[]⟩),(.slice none 0 0),(.int .i64 0),(.slice none 0 0)]):=by kernel_rfl
theorem cZ:bG Tryz.prog 35 0=some 0:=by kernel_rfl
theorem cF:bG Tryz.prog 35 1=some 4:=by kernel_rfl
theorem aW:bG Tryz.prog 35 2=some 5:=by kernel_rfl
abbrev Fu:Nat:=39
theorem fW:jc Tryz.prog 39=true:=by kernel_rfl
theorem o8:fb Tryz.prog 39=some (5,1,1,(.int .u8 0)):=by kernel_rfl
theorem di:ce Tryz.prog 39=some (5,1):=by kernel_rfl
abbrev fA:Nat:=54
theorem o4:jc Tryz.prog 54=true:=by kernel_rfl
abbrev I7:Nat:=59
theorem vJ:fb Tryz.prog 59=some (132,5,80,(.agg #[(.int .i64 0),(.int .i64 0),(.string ⟨#[]⟩),(.slice none 0 0),(.slice none 0 0)])):=by kernel_rfl
theorem fT:ce Tryz.prog 59=some (132,5):=by kernel_rfl
abbrev Ff:Nat:=74
theorem eG:bG Tryz.prog 74 0=some 0:=by kernel_rfl
theorem nK:bG Tryz.prog 74 1=some 1:=by kernel_rfl
abbrev GZ:Nat:=81
theorem hK:jc Tryz.prog 81=true:=by kernel_rfl
theorem o7:fb Tryz.prog 81=some (3,1,8,(.int .i64 0)):=by kernel_rfl
theorem cW:ce Tryz.prog 81=some (3,1):=by kernel_rfl
abbrev vq:Nat:=96
theorem I0:jc Tryz.prog 96=true:=by kernel_rfl
theorem qN:fb Tryz.prog 96=some (9,1,16,(.string ⟨#[]⟩)):=by kernel_rfl
theorem bH:ce Tryz.prog 96=some (9,1):=by kernel_rfl
theorem ez:jc Tryz.prog 104=true:=by kernel_rfl
theorem nE:fb Tryz.prog 104=some (143,5,64,(.agg #[(.int .i64 0),(.int .i64 0),(.string ⟨#[]⟩),(.slice none 0 0),(.int .i64 0)])):=by kernel_rfl
theorem iz:ce Tryz.prog 104=some (143,5):=by kernel_rfl
theorem cH:jc Tryz.prog 105=true:=by kernel_rfl
theorem dE:fb Tryz.prog 105=some (148,7,128,(.agg #[(.int .i64 0),(.int .i64 0),(.string ⟨#[]⟩),(.slice none 0 0),(.slice none 0 0),(.slice none 0 0),(.slice none 0 0)])):=by kernel_rfl
theorem fB:ce Tryz.prog 105=some (148,7):=by kernel_rfl
abbrev bt:Nat:=107
theorem bC:jV Tryz.prog 107=some 3:=by kernel_rfl
theorem fg:g8 Tryz.prog 107=some (.agg #[(.slice none 0 0),(.slice none 0 0),(.slice none 0 0)]):=by kernel_rfl
theorem eR:bG Tryz.prog 107 0=some 0:=by kernel_rfl
theorem ib:bG Tryz.prog 107 1=some 1:=by kernel_rfl
theorem cJ:bG Tryz.prog 107 2=some 2:=by kernel_rfl
abbrev oi:Nat:=109
theorem fp:jc Tryz.prog 109=true:=by kernel_rfl
theorem dR:fb Tryz.prog 109=some (151,6,72,(.agg #[(.int .i64 0),(.int .i64 0),(.string ⟨#[]⟩),(.slice none 0 0),(.int .i64 0),(.int .i64 0)])):=by kernel_rfl
theorem DC:ce Tryz.prog 109=some (151,6):=by kernel_rfl
abbrev DI:Nat:=110
theorem fE:jc Tryz.prog 110=true:=by kernel_rfl
theorem ii:fb Tryz.prog 110=some (109,1,24,(.slice none 0 0)):=by kernel_rfl
theorem pN:ce Tryz.prog 110=some (109,1):=by kernel_rfl
abbrev az:Nat:=112
theorem aJ:jV Tryz.prog 112=some 5:=by kernel_rfl
theorem cU:g8 Tryz.prog 112=some (.agg #[(.slice none 0 0),(.slice none 0 0),(.slice none 0 0),(.slice none 0 0),(.slice none 0 0)]):=by kernel_rfl
theorem bp:bG Tryz.prog 112 0=some 0:=by kernel_rfl
theorem eO:bG Tryz.prog 112 1=some 3:=by kernel_rfl
theorem eM:bG Tryz.prog 112 2=some 4:=by kernel_rfl
abbrev aQ:Nat:=132
theorem cD:jV Tryz.prog 132=some 5:=by kernel_rfl
theorem gX:g8 Tryz.prog 132=some (.agg #[(.int .i64 0),(.int .i64 0),(.string ⟨#[]⟩),(.slice none 0 0),(.slice none 0 0)]):=by kernel_rfl
theorem dA:bG Tryz.prog 132 0=some 0:=by kernel_rfl
theorem cC:bG Tryz.prog 132 1=some 4:=by kernel_rfl
theorem Ea:ce Tryz.prog 137=some (96,1):=by kernel_rfl
abbrev g7:Nat:=143
theorem y0:jV Tryz.prog 143=some 5:=by kernel_rfl
theorem HV:g8 Tryz.prog 143=some (.agg #[(.int .i64 0),(.int .i64 0),(.string ⟨#[]⟩),(.slice none 0 0),(.int .i64 0)]):=by kernel_rfl
theorem DY:bG Tryz.prog 143 0=some 0:=by kernel_rfl
abbrev bM:Nat:=148
theorem cK:jV Tryz.prog 148=some 7:=by kernel_rfl
theorem i7:g8 Tryz.prog 148=some (.agg #[(.int .i64 0),(.int .i64 0),(.string ⟨#[]⟩),(.slice none 0 0),(.slice none 0 0),(.slice none 0 0),(.slice none 0 0)]):=by kernel_rfl
theorem ju:bG Tryz.prog 148 0=some 0:=by kernel_rfl
theorem nf:bG Tryz.prog 148 1=some 4:=by kernel_rfl
theorem cI:bG Tryz.prog 148 2=some 5:=by kernel_rfl
theorem jr:bG Tryz.prog 148 3=some 6:=by kernel_rfl
abbrev fO:Nat:=151
theorem AV:bG Tryz.prog 151 0=some 0:=by kernel_rfl
theorem Az:bG Tryz.prog 151 1=some 4:=by kernel_rfl
theorem Ay:bG Tryz.prog 151 2=some 5:=by kernel_rfl
abbrev Lo:Nat:=164
abbrev wX:Nat:=190
abbrev bX:Nat:=4
abbrev cA:Nat:=5
abbrev xD:Nat:=7
theorem vj:Tryz.prog.funcs[7]?=some Tryz.f7:=Tryz.func7
theorem uF:aX Tryz.f7=false:=by kernel_rfl
abbrev xn:Nat:=9
theorem gN:Tryz.prog.funcs[9]?=some Tryz.f9:=Tryz.func9
theorem g6:aX Tryz.f9=false:=by kernel_rfl
abbrev pg:Nat:=11
theorem nH:Tryz.prog.funcs[11]?=some Tryz.f11:=Tryz.func11
theorem oG:aX Tryz.f11=false:=by kernel_rfl
abbrev oF:Nat:=12
theorem iH:Tryz.prog.funcs[12]?=some Tryz.f12:=Tryz.func12
theorem iJ:aX Tryz.f12=false:=by kernel_rfl
abbrev ql:Nat:=13
theorem zo:Tryz.prog.funcs[13]?=some Tryz.f13:=Tryz.func13
theorem yQ:aX Tryz.f13=false:=by kernel_rfl
abbrev qC:Nat:=14
theorem ym:Tryz.prog.funcs[14]?=some Tryz.f14:=Tryz.func14
theorem zP:aX Tryz.f14=false:=by kernel_rfl
abbrev nS:Nat:=15
theorem fJ:Tryz.prog.funcs[15]?=some Tryz.f15:=Tryz.func15
theorem fK:aX Tryz.f15=false:=by kernel_rfl
abbrev rL:Nat:=16
theorem qK:Tryz.prog.funcs[16]?=some Tryz.f16:=Tryz.func16
theorem qY:aX Tryz.f16=false:=by kernel_rfl
abbrev kL:Nat:=17
theorem eh:Tryz.prog.funcs[17]?=some Tryz.f17:=Tryz.func17
theorem eo:aX Tryz.f17=false:=by kernel_rfl
abbrev AG:Nat:=18
theorem jR:Tryz.prog.funcs[18]?=some Tryz.f18:=Tryz.func18
theorem jw:aX Tryz.f18=false:=by kernel_rfl
abbrev Gf:Nat:=21
theorem sj:Tryz.prog.funcs[21]?=some Tryz.f21:=Tryz.func21
theorem sW:aX Tryz.f21=false:=by kernel_rfl
abbrev qH:Nat:=22
theorem xj:Tryz.prog.funcs[22]?=some Tryz.f22:=Tryz.func22
theorem wR:aX Tryz.f22=false:=by kernel_rfl
abbrev Bb:Nat:=24
theorem nL:Tryz.prog.funcs[24]?=some Tryz.f24:=Tryz.func24
theorem n6:aX Tryz.f24=false:=by kernel_rfl
abbrev rp:Nat:=27
theorem pi:Tryz.prog.funcs[27]?=some Tryz.f27:=Tryz.func27
theorem pf:aX Tryz.f27=false:=by kernel_rfl
abbrev A8:Nat:=28
theorem jM:Tryz.prog.funcs[28]?=some Tryz.f28:=Tryz.func28
theorem jS:aX Tryz.f28=false:=by kernel_rfl
abbrev EW:Nat:=29
theorem mo:Tryz.prog.funcs[29]?=some Tryz.f29:=Tryz.func29
theorem mh:aX Tryz.f29=false:=by kernel_rfl
abbrev CQ:Nat:=30
theorem qq:Tryz.prog.funcs[30]?=some Tryz.f30:=Tryz.func30
theorem qj:aX Tryz.f30=false:=by kernel_rfl
abbrev Eg:Nat:=31
theorem tu:Tryz.prog.funcs[31]?=some Tryz.f31:=Tryz.func31
theorem sn:aX Tryz.f31=false:=by kernel_rfl
abbrev Eo:Nat:=32
theorem rR:Tryz.prog.funcs[32]?=some Tryz.f32:=Tryz.func32
theorem rJ:aX Tryz.f32=false:=by kernel_rfl
abbrev zy:Nat:=33
theorem bF:Tryz.prog.funcs[33]?=some Tryz.f33:=Tryz.func33
theorem bE:aX Tryz.f33=false:=by kernel_rfl
abbrev pT:Nat:=34
theorem gC:Tryz.prog.funcs[34]?=some Tryz.f34:=Tryz.func34
theorem gA:aX Tryz.f34=false:=by kernel_rfl
abbrev mr:Nat:=35
theorem pY:Tryz.prog.funcs[35]?=some Tryz.f35:=Tryz.func35
theorem qp:aX Tryz.f35=false:=by kernel_rfl
abbrev ph:Nat:=36
theorem oO:Tryz.prog.funcs[36]?=some Tryz.f36:=Tryz.func36
theorem oc:aX Tryz.f36=false:=by kernel_rfl
abbrev DW:Nat:=37
theorem kQ:Tryz.prog.funcs[37]?=some Tryz.f37:=Tryz.func37
theorem kS:aX Tryz.f37=false:=by kernel_rfl
abbrev yo:Nat:=39
theorem eF:Tryz.prog.funcs[39]?=some Tryz.f39:=Tryz.func39
theorem ey:aX Tryz.f39=false:=by kernel_rfl
abbrev H1:Nat:=40
theorem nl:Tryz.prog.funcs[40]?=some Tryz.f40:=Tryz.func40
theorem ne:aX Tryz.f40=false:=by kernel_rfl
abbrev ow:Nat:=41
theorem sz:Tryz.prog.funcs[41]?=some Tryz.f41:=Tryz.func41
theorem rG:aX Tryz.f41=false:=by kernel_rfl
abbrev vd:Nat:=42
theorem gT:Tryz.prog.funcs[42]?=some Tryz.f42:=Tryz.func42
theorem gK:aX Tryz.f42=false:=by kernel_rfl
abbrev vl:Nat:=43
theorem jW:Tryz.prog.funcs[43]?=some Tryz.f43:=Tryz.func43
theorem kH:aX Tryz.f43=false:=by kernel_rfl
abbrev Bi:Nat:=45
theorem yg:Tryz.prog.funcs[45]?=some Tryz.f45:=Tryz.func45
theorem ye:aX Tryz.f45=false:=by kernel_rfl
abbrev H8:Nat:=46
theorem kz:Tryz.prog.funcs[46]?=some Tryz.f46:=Tryz.func46
theorem kt:aX Tryz.f46=false:=by kernel_rfl
abbrev ml:Nat:=47
theorem lH:Tryz.prog.funcs[47]?=some Tryz.f47:=Tryz.func47
theorem lO:aX Tryz.f47=false:=by kernel_rfl
abbrev xp:Nat:=48
theorem uW:Tryz.prog.funcs[48]?=some Tryz.f48:=Tryz.func48
theorem uK:aX Tryz.f48=false:=by kernel_rfl
abbrev Ai:Nat:=49
theorem jL:Tryz.prog.funcs[49]?=some Tryz.f49:=Tryz.func49
theorem jF:aX Tryz.f49=false:=by kernel_rfl
abbrev Eb:Nat:=50
theorem CY:Tryz.prog.funcs[50]?=some Tryz.f50:=Tryz.func50
theorem Dp:aX Tryz.f50=false:=by kernel_rfl
abbrev Eh:Nat:=51
theorem CU:Tryz.prog.funcs[51]?=some Tryz.f51:=Tryz.func51
theorem DT:aX Tryz.f51=false:=by kernel_rfl
abbrev qL:Nat:=52
theorem eD:Tryz.prog.funcs[52]?=some Tryz.f52:=Tryz.func52
theorem eC:aX Tryz.f52=false:=by kernel_rfl
abbrev AR:Nat:=53
theorem ef:Tryz.prog.funcs[53]?=some Tryz.f53:=Tryz.func53
theorem er:aX Tryz.f53=false:=by kernel_rfl
abbrev CO:Nat:=54
theorem Ak:Tryz.prog.funcs[54]?=some Tryz.f54:=Tryz.func54
theorem AQ:aX Tryz.f54=false:=by kernel_rfl
abbrev GS:Nat:=55
theorem j2:Tryz.prog.funcs[55]?=some Tryz.f55:=Tryz.func55
theorem jY:aX Tryz.f55=false:=by kernel_rfl
abbrev tI:Nat:=56
theorem dq:Tryz.prog.funcs[56]?=some Tryz.f56:=Tryz.func56
theorem dp:aX Tryz.f56=false:=by kernel_rfl
abbrev qQ:Nat:=57
theorem pn:Tryz.prog.funcs[57]?=some Tryz.f57:=Tryz.func57
theorem pv:aX Tryz.f57=false:=by kernel_rfl
abbrev Iz:Nat:=58
theorem oh:Tryz.prog.funcs[58]?=some Tryz.f58:=Tryz.func58
theorem mY:aX Tryz.f58=false:=by kernel_rfl
abbrev GY:Nat:=59
theorem Fo:Tryz.prog.funcs[59]?=some Tryz.f59:=Tryz.func59
theorem Fa:aX Tryz.f59=false:=by kernel_rfl
abbrev Gs:Nat:=60
theorem rN:Tryz.prog.funcs[60]?=some Tryz.f60:=Tryz.func60
theorem tQ:aX Tryz.f60=false:=by kernel_rfl
abbrev Fr:Nat:=61
theorem dN:Tryz.prog.funcs[61]?=some Tryz.f61:=Tryz.func61
theorem dP:aX Tryz.f61=false:=by kernel_rfl
abbrev Ic:Nat:=62
theorem Fj:Tryz.prog.funcs[62]?=some Tryz.f62:=Tryz.func62
theorem E4:aX Tryz.f62=false:=by kernel_rfl
abbrev CZ:Nat:=63
theorem Aq:Tryz.prog.funcs[63]?=some Tryz.f63:=Tryz.func63
theorem AE:aX Tryz.f63=false:=by kernel_rfl
abbrev FN:Nat:=64
theorem C8:Tryz.prog.funcs[64]?=some Tryz.f64:=Tryz.func64
theorem Cy:aX Tryz.f64=false:=by kernel_rfl
abbrev Hx:Nat:=65
theorem oR:Tryz.prog.funcs[65]?=some Tryz.f65:=Tryz.func65
theorem na:aX Tryz.f65=false:=by kernel_rfl
abbrev Ij:Nat:=66
theorem Gd:Tryz.prog.funcs[66]?=some Tryz.f66:=Tryz.func66
theorem GE:aX Tryz.f66=false:=by kernel_rfl
abbrev Ly:Nat:=67
theorem u7:Tryz.prog.funcs[67]?=some Tryz.f67:=Tryz.func67
theorem u3:aX Tryz.f67=false:=by kernel_rfl
abbrev GM:Nat:=68
theorem je:Tryz.prog.funcs[68]?=some Tryz.f68:=Tryz.func68
theorem iV:aX Tryz.f68=false:=by kernel_rfl
abbrev vm:Nat:=69
theorem kw:Tryz.prog.funcs[69]?=some Tryz.f69:=Tryz.func69
theorem kj:aX Tryz.f69=false:=by kernel_rfl
abbrev sk:Nat:=70
theorem AO:Tryz.prog.funcs[70]?=some Tryz.f70:=Tryz.func70
theorem A4:aX Tryz.f70=false:=by kernel_rfl
abbrev zg:Nat:=71
theorem FF:Tryz.prog.funcs[71]?=some Tryz.f71:=Tryz.func71
theorem FQ:aX Tryz.f71=false:=by kernel_rfl
abbrev Lr:Nat:=72
theorem Kd:Tryz.prog.funcs[72]?=some Tryz.f72:=Tryz.func72
theorem Ks:aX Tryz.f72=false:=by kernel_rfl
abbrev Av:Nat:=74
theorem zF:Tryz.prog.funcs[74]?=some Tryz.f74:=Tryz.func74
theorem zf:aX Tryz.f74=false:=by kernel_rfl
abbrev ET:Nat:=75
theorem C7:Tryz.prog.funcs[75]?=some Tryz.f75:=Tryz.func75
theorem C3:aX Tryz.f75=false:=by kernel_rfl
abbrev Fb:Nat:=76
theorem sd:Tryz.prog.funcs[76]?=some Tryz.f76:=Tryz.func76
theorem sD:aX Tryz.f76=false:=by kernel_rfl
abbrev JY:Nat:=77
theorem ID:Tryz.prog.funcs[77]?=some Tryz.f77:=Tryz.func77
theorem Ho:aX Tryz.f77=false:=by kernel_rfl
abbrev pp:Nat:=78
theorem nw:Tryz.prog.funcs[78]?=some Tryz.f78:=Tryz.func78
theorem m1:aX Tryz.f78=false:=by kernel_rfl
abbrev Bc:Nat:=79
theorem jI:Tryz.prog.funcs[79]?=some Tryz.f79:=Tryz.func79
theorem jB:aX Tryz.f79=false:=by kernel_rfl
abbrev GV:Nat:=80
theorem Fi:Tryz.prog.funcs[80]?=some Tryz.f80:=Tryz.func80
theorem FU:aX Tryz.f80=false:=by kernel_rfl
abbrev kY:Nat:=81
theorem kr:Tryz.prog.funcs[81]?=some Tryz.f81:=Tryz.func81
theorem kI:aX Tryz.f81=false:=by kernel_rfl
abbrev Ge:Nat:=82
theorem rz:Tryz.prog.funcs[82]?=some Tryz.f82:=Tryz.func82
theorem sB:aX Tryz.f82=false:=by kernel_rfl
abbrev Dq:Nat:=83
theorem AJ:Tryz.prog.funcs[83]?=some Tryz.f83:=Tryz.func83
theorem Bf:aX Tryz.f83=false:=by kernel_rfl
abbrev HA:Nat:=84
theorem GL:Tryz.prog.funcs[84]?=some Tryz.f84:=Tryz.func84
theorem Ft:aX Tryz.f84=false:=by kernel_rfl
abbrev GA:Nat:=85
theorem Do:Tryz.prog.funcs[85]?=some Tryz.f85:=Tryz.func85
theorem Dh:aX Tryz.f85=false:=by kernel_rfl
abbrev Ia:Nat:=86
theorem GN:Tryz.prog.funcs[86]?=some Tryz.f86:=Tryz.func86
theorem EH:aX Tryz.f86=false:=by kernel_rfl
abbrev Fq:Nat:=87
theorem CJ:Tryz.prog.funcs[87]?=some Tryz.f87:=Tryz.func87
theorem DN:aX Tryz.f87=false:=by kernel_rfl
abbrev D7:Nat:=88
theorem p5:Tryz.prog.funcs[88]?=some Tryz.f88:=Tryz.func88
theorem pw:aX Tryz.f88=false:=by kernel_rfl
abbrev qv:Nat:=89
theorem og:Tryz.prog.funcs[89]?=some Tryz.f89:=Tryz.func89
theorem oo:aX Tryz.f89=false:=by kernel_rfl
abbrev FE:Nat:=90
theorem ud:Tryz.prog.funcs[90]?=some Tryz.f90:=Tryz.func90
theorem td:aX Tryz.f90=false:=by kernel_rfl
abbrev CV:Nat:=91
theorem kP:Tryz.prog.funcs[91]?=some Tryz.f91:=Tryz.func91
theorem kK:aX Tryz.f91=false:=by kernel_rfl
abbrev KM:Nat:=92
theorem mi:Tryz.prog.funcs[92]?=some Tryz.f92:=Tryz.func92
theorem md:aX Tryz.f92=false:=by kernel_rfl
abbrev Kt:Nat:=93
theorem y7:Tryz.prog.funcs[93]?=some Tryz.f93:=Tryz.func93
theorem zu:aX Tryz.f93=false:=by kernel_rfl
abbrev Kk:Nat:=94
theorem Iw:Tryz.prog.funcs[94]?=some Tryz.f94:=Tryz.func94
theorem HX:aX Tryz.f94=false:=by kernel_rfl
abbrev He:Nat:=95
theorem wU:Tryz.prog.funcs[95]?=some Tryz.f95:=Tryz.func95
theorem wW:aX Tryz.f95=false:=by kernel_rfl
abbrev AB:Nat:=96
theorem nj:Tryz.prog.funcs[96]?=some Tryz.f96:=Tryz.func96
theorem m8:aX Tryz.f96=false:=by kernel_rfl
abbrev FV:Nat:=97
theorem DF:Tryz.prog.funcs[97]?=some Tryz.f97:=Tryz.func97
theorem CB:aX Tryz.f97=false:=by kernel_rfl
abbrev Dc:Nat:=98
theorem Bd:Tryz.prog.funcs[98]?=some Tryz.f98:=Tryz.func98
theorem Bm:aX Tryz.f98=false:=by kernel_rfl
abbrev Kr:Nat:=99
theorem Ip:Tryz.prog.funcs[99]?=some Tryz.f99:=Tryz.func99
theorem IU:aX Tryz.f99=false:=by kernel_rfl
abbrev vI:Nat:=101
theorem mj:Tryz.prog.funcs[101]?=some Tryz.f101:=Tryz.func101
theorem mA:aX Tryz.f101=false:=by kernel_rfl
abbrev Hm:Nat:=102
theorem m9:Tryz.prog.funcs[102]?=some Tryz.f102:=Tryz.func102
theorem nz:aX Tryz.f102=false:=by kernel_rfl
abbrev Bg:Nat:=103
theorem jx:Tryz.prog.funcs[103]?=some Tryz.f103:=Tryz.func103
theorem jK:aX Tryz.f103=false:=by kernel_rfl
abbrev Hr:Nat:=104
theorem Gq:Tryz.prog.funcs[104]?=some Tryz.f104:=Tryz.func104
theorem EQ:aX Tryz.f104=false:=by kernel_rfl
abbrev IA:Nat:=105
theorem xf:Tryz.prog.funcs[105]?=some Tryz.f105:=Tryz.func105
theorem xe:aX Tryz.f105=false:=by kernel_rfl
abbrev KA:Nat:=106
theorem IR:Tryz.prog.funcs[106]?=some Tryz.f106:=Tryz.func106
theorem IC:aX Tryz.f106=false:=by kernel_rfl
abbrev vz:Nat:=107
theorem s0:Tryz.prog.funcs[107]?=some Tryz.f107:=Tryz.func107
theorem tM:aX Tryz.f107=false:=by kernel_rfl
abbrev Lu:Nat:=109
theorem Cl:Tryz.prog.funcs[109]?=some Tryz.f109:=Tryz.func109
theorem BK:aX Tryz.f109=false:=by kernel_rfl
abbrev AY:Nat:=110
theorem yW:Tryz.prog.funcs[110]?=some Tryz.f110:=Tryz.func110
theorem yd:aX Tryz.f110=false:=by kernel_rfl
abbrev EF:Nat:=111
theorem rM:Tryz.prog.funcs[111]?=some Tryz.f111:=Tryz.func111
theorem sA:aX Tryz.f111=false:=by kernel_rfl
abbrev Et:Nat:=112
theorem tL:Tryz.prog.funcs[112]?=some Tryz.f112:=Tryz.func112
theorem sH:aX Tryz.f112=false:=by kernel_rfl
abbrev J0:Nat:=113
theorem yM:Tryz.prog.funcs[113]?=some Tryz.f113:=Tryz.func113
theorem yT:aX Tryz.f113=false:=by kernel_rfl
abbrev EB:Nat:=114
theorem sm:Tryz.prog.funcs[114]?=some Tryz.f114:=Tryz.func114
theorem tR:aX Tryz.f114=false:=by kernel_rfl
abbrev Ar:Nat:=115
theorem jp:Tryz.prog.funcs[115]?=some Tryz.f115:=Tryz.func115
theorem jz:aX Tryz.f115=false:=by kernel_rfl
abbrev Hw:Nat:=116
theorem Fd:Tryz.prog.funcs[116]?=some Tryz.f116:=Tryz.func116
theorem E9:aX Tryz.f116=false:=by kernel_rfl
abbrev xB:Nat:=117
theorem uV:Tryz.prog.funcs[117]?=some Tryz.f117:=Tryz.func117
theorem uN:aX Tryz.f117=false:=by kernel_rfl
abbrev Hu:Nat:=118
theorem eA:Tryz.prog.funcs[118]?=some Tryz.f118:=Tryz.func118
theorem eE:aX Tryz.f118=false:=by kernel_rfl
abbrev En:Nat:=119
theorem CC:Tryz.prog.funcs[119]?=some Tryz.f119:=Tryz.func119
theorem DO:aX Tryz.f119=false:=by kernel_rfl
abbrev yr:Nat:=120
theorem mJ:Tryz.prog.funcs[120]?=some Tryz.f120:=Tryz.func120
theorem mL:aX Tryz.f120=false:=by kernel_rfl
abbrev wy:Nat:=121
theorem sQ:Tryz.prog.funcs[121]?=some Tryz.f121:=Tryz.func121
theorem rK:aX Tryz.f121=false:=by kernel_rfl
abbrev FZ:Nat:=122
theorem sy:Tryz.prog.funcs[122]?=some Tryz.f122:=Tryz.func122
theorem tg:aX Tryz.f122=false:=by kernel_rfl
abbrev FG:Nat:=123
theorem tJ:Tryz.prog.funcs[123]?=some Tryz.f123:=Tryz.func123
theorem ub:aX Tryz.f123=false:=by kernel_rfl
abbrev Kn:Nat:=124
theorem II:Tryz.prog.funcs[124]?=some Tryz.f124:=Tryz.func124
theorem Ht:aX Tryz.f124=false:=by kernel_rfl
abbrev EK:Nat:=125
theorem D2:Tryz.prog.funcs[125]?=some Tryz.f125:=Tryz.func125
theorem DK:aX Tryz.f125=false:=by kernel_rfl
abbrev D8:Nat:=126
theorem p7:Tryz.prog.funcs[126]?=some Tryz.f126:=Tryz.func126
theorem qh:aX Tryz.f126=false:=by kernel_rfl
abbrev Ib:Nat:=127
theorem iy:Tryz.prog.funcs[127]?=some Tryz.f127:=Tryz.func127
theorem ir:aX Tryz.f127=false:=by kernel_rfl
abbrev FW:Nat:=128
theorem tH:Tryz.prog.funcs[128]?=some Tryz.f128:=Tryz.func128
theorem ru:aX Tryz.f128=false:=by kernel_rfl
abbrev Gr:Nat:=129
theorem jg:Tryz.prog.funcs[129]?=some Tryz.f129:=Tryz.func129
theorem jh:aX Tryz.f129=false:=by kernel_rfl
abbrev Ad:Nat:=137
theorem yn:Tryz.prog.funcs[137]?=some Tryz.f137:=Tryz.func137
theorem zK:aX Tryz.f137=false:=by kernel_rfl
abbrev mU:Nat:=138
theorem my:Tryz.prog.funcs[138]?=some Tryz.f138:=Tryz.func138
theorem mz:aX Tryz.f138=false:=by kernel_rfl
abbrev Hd:Nat:=139
theorem Gx:Tryz.prog.funcs[139]?=some Tryz.f139:=Tryz.func139
theorem Fp:aX Tryz.f139=false:=by kernel_rfl
abbrev Ko:Nat:=140
theorem IV:Tryz.prog.funcs[140]?=some Tryz.f140:=Tryz.func140
theorem IE:aX Tryz.f140=false:=by kernel_rfl
abbrev HI:Nat:=141
theorem vL:Tryz.prog.funcs[141]?=some Tryz.f141:=Tryz.func141
theorem vP:aX Tryz.f141=false:=by kernel_rfl
abbrev IG:Nat:=142
theorem ct:Tryz.prog.funcs[142]?=some Tryz.f142:=Tryz.func142
theorem cw:aX Tryz.f142=false:=by kernel_rfl
abbrev FY:Nat:=143
theorem uo:Tryz.prog.funcs[143]?=some Tryz.f143:=Tryz.func143
theorem rH:aX Tryz.f143=false:=by kernel_rfl
abbrev uU:Nat:=144
theorem sS:Tryz.prog.funcs[144]?=some Tryz.f144:=Tryz.func144
theorem ut:aX Tryz.f144=false:=by kernel_rfl
abbrev Hh:Nat:=145
theorem Ez:Tryz.prog.funcs[145]?=some Tryz.f145:=Tryz.func145
theorem Ev:aX Tryz.f145=false:=by kernel_rfl
abbrev Fh:Nat:=146
theorem CL:Tryz.prog.funcs[146]?=some Tryz.f146:=Tryz.func146
theorem Dl:aX Tryz.f146=false:=by kernel_rfl
abbrev LB:Nat:=147
theorem JX:Tryz.prog.funcs[147]?=some Tryz.f147:=Tryz.func147
theorem JV:aX Tryz.f147=false:=by kernel_rfl
abbrev Ab:Nat:=148
theorem zi:Tryz.prog.funcs[148]?=some Tryz.f148:=Tryz.func148
theorem yz:aX Tryz.f148=false:=by kernel_rfl
abbrev yu:Nat:=149
theorem xu:Tryz.prog.funcs[149]?=some Tryz.f149:=Tryz.func149
theorem xw:aX Tryz.f149=false:=by kernel_rfl
abbrev Gv:Nat:=150
theorem mx:Tryz.prog.funcs[150]?=some Tryz.f150:=Tryz.func150
theorem mn:aX Tryz.f150=false:=by kernel_rfl
abbrev Ik:Nat:=151
theorem vX:Tryz.prog.funcs[151]?=some Tryz.f151:=Tryz.func151
theorem ww:aX Tryz.f151=false:=by kernel_rfl
abbrev HB:Nat:=152
theorem wK:Tryz.prog.funcs[152]?=some Tryz.f152:=Tryz.func152
theorem wJ:aX Tryz.f152=false:=by kernel_rfl
abbrev C2:Nat:=153
theorem Af:Tryz.prog.funcs[153]?=some Tryz.f153:=Tryz.func153
theorem Ap:aX Tryz.f153=false:=by kernel_rfl
abbrev Hy:Nat:=154
theorem dr:Tryz.prog.funcs[154]?=some Tryz.f154:=Tryz.func154
theorem du:aX Tryz.f154=false:=by kernel_rfl
abbrev Gn:Nat:=155
theorem eK:Tryz.prog.funcs[155]?=some Tryz.f155:=Tryz.func155
theorem eI:aX Tryz.f155=false:=by kernel_rfl
abbrev EI:Nat:=156
theorem gf:Tryz.prog.funcs[156]?=some Tryz.f156:=Tryz.func156
theorem gp:aX Tryz.f156=false:=by kernel_rfl
abbrev J9:Nat:=157
theorem Hc:Tryz.prog.funcs[157]?=some Tryz.f157:=Tryz.func157
theorem IP:aX Tryz.f157=false:=by kernel_rfl
abbrev zb:Nat:=158
theorem xH:Tryz.prog.funcs[158]?=some Tryz.f158:=Tryz.func158
theorem xC:aX Tryz.f158=false:=by kernel_rfl
abbrev Ao:Nat:=159
theorem yY:Tryz.prog.funcs[159]?=some Tryz.f159:=Tryz.func159
theorem yN:aX Tryz.f159=false:=by kernel_rfl
abbrev Hq:Nat:=160
theorem Fw:Tryz.prog.funcs[160]?=some Tryz.f160:=Tryz.func160
theorem Ga:aX Tryz.f160=false:=by kernel_rfl
abbrev pd:Nat:=168
theorem nQ:Tryz.prog.funcs[168]?=some Tryz.f168:=Tryz.func168
theorem oA:aX Tryz.f168=false:=by kernel_rfl
abbrev EM:Nat:=169
theorem DZ:Tryz.prog.funcs[169]?=some Tryz.f169:=Tryz.func169
theorem DR:aX Tryz.f169=false:=by kernel_rfl
abbrev rn:Nat:=170
theorem pq:Tryz.prog.funcs[170]?=some Tryz.f170:=Tryz.func170
theorem pl:aX Tryz.f170=false:=by kernel_rfl
abbrev A2:Nat:=171
theorem yH:Tryz.prog.funcs[171]?=some Tryz.f171:=Tryz.func171
theorem yF:aX Tryz.f171=false:=by kernel_rfl
abbrev xz:Nat:=172
theorem uA:Tryz.prog.funcs[172]?=some Tryz.f172:=Tryz.func172
theorem uI:aX Tryz.f172=false:=by kernel_rfl
abbrev Hb:Nat:=173
theorem FB:Tryz.prog.funcs[173]?=some Tryz.f173:=Tryz.func173
theorem Gw:aX Tryz.f173=false:=by kernel_rfl
abbrev Ei:Nat:=175
theorem DB:Tryz.prog.funcs[175]?=some Tryz.f175:=Tryz.func175
theorem CF:aX Tryz.f175=false:=by kernel_rfl
abbrev C9:Nat:=176
theorem AM:Tryz.prog.funcs[176]?=some Tryz.f176:=Tryz.func176
theorem AZ:aX Tryz.f176=false:=by kernel_rfl
abbrev GR:Nat:=177
theorem wa:Tryz.prog.funcs[177]?=some Tryz.f177:=Tryz.func177
theorem vF:aX Tryz.f177=false:=by kernel_rfl
abbrev Fy:Nat:=178
theorem tZ:Tryz.prog.funcs[178]?=some Tryz.f178:=Tryz.func178
theorem sO:aX Tryz.f178=false:=by kernel_rfl
abbrev yv:Nat:=179
theorem nn:Tryz.prog.funcs[179]?=some Tryz.f179:=Tryz.func179
theorem ov:aX Tryz.f179=false:=by kernel_rfl
abbrev Kj:Nat:=180
theorem H0:Tryz.prog.funcs[180]?=some Tryz.f180:=Tryz.func180
theorem Ha:aX Tryz.f180=false:=by kernel_rfl
abbrev CA:Nat:=181
theorem Aa:Tryz.prog.funcs[181]?=some Tryz.f181:=Tryz.func181
theorem Bk:aX Tryz.f181=false:=by kernel_rfl
abbrev MH:Nat:=182
theorem Ke:Tryz.prog.funcs[182]?=some Tryz.f182:=Tryz.func182
theorem KE:aX Tryz.f182=false:=by kernel_rfl
abbrev GI:Nat:=183
theorem De:Tryz.prog.funcs[183]?=some Tryz.f183:=Tryz.func183
theorem C5:aX Tryz.f183=false:=by kernel_rfl
abbrev uY:Nat:=188
theorem rx:Tryz.prog.funcs[188]?=some Tryz.f188:=Tryz.func188
theorem uw:aX Tryz.f188=false:=by kernel_rfl
abbrev KQ:Nat:=189
theorem GX:Tryz.prog.funcs[189]?=some Tryz.f189:=Tryz.func189
theorem Hg:aX Tryz.f189=false:=by kernel_rfl
abbrev GG:Nat:=190
theorem uh:Tryz.prog.funcs[190]?=some Tryz.f190:=Tryz.func190
theorem tb:aX Tryz.f190=false:=by kernel_rfl
abbrev E3:Nat:=191
theorem tj:Tryz.prog.funcs[191]?=some Tryz.f191:=Tryz.func191
theorem sN:aX Tryz.f191=false:=by kernel_rfl
abbrev HH:Nat:=192
theorem EX:Tryz.prog.funcs[192]?=some Tryz.f192:=Tryz.func192
theorem EP:aX Tryz.f192=false:=by kernel_rfl
abbrev Fe:Nat:=193
theorem CP:Tryz.prog.funcs[193]?=some Tryz.f193:=Tryz.func193
theorem CW:aX Tryz.f193=false:=by kernel_rfl
abbrev D0:Nat:=194
theorem kV:Tryz.prog.funcs[194]?=some Tryz.f194:=Tryz.func194
theorem kW:aX Tryz.f194=false:=by kernel_rfl
abbrev Kf:Nat:=195
theorem HS:Tryz.prog.funcs[195]?=some Tryz.f195:=Tryz.func195
theorem IF:aX Tryz.f195=false:=by kernel_rfl
abbrev KL:Nat:=196
theorem GT:Tryz.prog.funcs[196]?=some Tryz.f196:=Tryz.func196
theorem HF:aX Tryz.f196=false:=by kernel_rfl
abbrev H4:Nat:=197
theorem FX:Tryz.prog.funcs[197]?=some Tryz.f197:=Tryz.func197
theorem E7:aX Tryz.f197=false:=by kernel_rfl

end Go.Proofs.YtbocelianhcfmaaGreatDoor
