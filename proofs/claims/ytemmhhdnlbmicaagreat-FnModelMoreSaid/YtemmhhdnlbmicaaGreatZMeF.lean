/- Made by program: names for the numbers of functions and types, and closed facts on them. -/
import Derived.Test.YtemmhhdnlbmicaaGreatZMeS
import Derived.Test.YtemmhhdnlbmicaaGreatProg
import Derived.KernelRfl
namespace Go.Proofs.YtemmhhdnlbmicaaGreat
open Go
abbrev fu:Nat:=3
theorem bo:oj Tryz.prog 3=true:=by kernel_rfl
theorem MJ:iL Tryz.prog 3=some (.int .i64 0):=by kernel_rfl
theorem jJ:Tryz.prog.underlying 3=some (.int .i64):=by kernel_rfl
abbrev Lm:Nat:=4
theorem xM:Tryz.prog.underlying 4=some .bool:=by kernel_rfl
abbrev DV:Nat:=5
theorem yF:oj Tryz.prog 5=true:=by kernel_rfl
theorem gf:Tryz.prog.underlying 5=some (.int .u8):=by kernel_rfl
abbrev iA:Nat:=9
theorem bm:oj Tryz.prog 9=true:=by kernel_rfl
theorem bj:Tryz.prog.underlying 9=some .string:=by kernel_rfl
abbrev EE:Nat:=22
theorem gO:oj Tryz.prog 22=true:=by kernel_rfl
theorem tI:nO Tryz.prog 22=some (5,1,1,(.int .u8 0)):=by kernel_rfl
theorem dV:dy Tryz.prog 22=some (5,1):=by kernel_rfl
abbrev ce:Nat:=23
theorem aR:oj Tryz.prog 23=true:=by kernel_rfl
theorem bK:nO Tryz.prog 23=some (25,4,56,(.agg #[(.int .i64 0),(.int .i64 0),(.string ⟨#[]⟩),(.slice none 0 0)])):=by kernel_rfl
theorem ay:dy Tryz.prog 23=some (25,4):=by kernel_rfl
abbrev ab:Nat:=25
theorem ao:tF Tryz.prog 25=some 4:=by kernel_rfl
theorem bL:iL Tryz.prog 25=some (.agg #[(.int .i64 0),(.int .i64 0),(.string ⟨#[]⟩),(.slice none 0 0)]):=by kernel_rfl
theorem bD:fx Tryz.prog 25 0=some 0:=by kernel_rfl
theorem bF:fx Tryz.prog 25 1=some 1:=by kernel_rfl
theorem bp:fx Tryz.prog 25 2=some 2:=by kernel_rfl
theorem aT:fx Tryz.prog 25 3=some 3:=by kernel_rfl
theorem fb:nO Tryz.prog 32=some (39,5,80,(.agg #[(.int .i64 0),(.int .i64 0),(.string ⟨#[]⟩),(.slice none 0 0),(.slice none 0 0)])):=by kernel_rfl
theorem dt:dy Tryz.prog 32=some (39,5):=by kernel_rfl
abbrev aQ:Nat:=39
theorem bM:tF Tryz.prog 39=some 5:=by kernel_rfl
theorem fh:iL Tryz.prog 39=some (.agg #[(.int .i64 0),(.int .i64 0),(.string ⟨#[]⟩),(.slice none 0 0),(.slice none 0 0)]):=by kernel_rfl
theorem df:fx Tryz.prog 39 0=some 0:=by kernel_rfl
theorem bq:fx Tryz.prog 39 1=some 4:=by kernel_rfl
theorem kX:Tryz.prog.underlying 59=some (.map 3 25):=by kernel_rfl
abbrev Cs:Nat:=67
theorem yi:nO Tryz.prog 67=some (9,1,16,(.string ⟨#[]⟩)):=by kernel_rfl
theorem cR:dy Tryz.prog 67=some (9,1):=by kernel_rfl
abbrev qE:Nat:=71
theorem Jc:oj Tryz.prog 71=true:=by kernel_rfl
theorem LL:iL Tryz.prog 71=some (.slice none 0 0):=by kernel_rfl
theorem o0:nO Tryz.prog 71=some (3,1,8,(.int .i64 0)):=by kernel_rfl
theorem fZ:dy Tryz.prog 71=some (3,1):=by kernel_rfl
abbrev EP:Nat:=78
theorem fF:fx Tryz.prog 78 0=some 0:=by kernel_rfl
theorem oz:fx Tryz.prog 78 1=some 1:=by kernel_rfl
abbrev l5:Nat:=91
theorem DS:oj Tryz.prog 91=true:=by kernel_rfl
abbrev dJ:Nat:=5
abbrev FA:Nat:=11
theorem l8:Tryz.prog.funcs[11]?=some Tryz.f11:=Tryz.func11
theorem mp:(Tryz.f11.name == "runtime.NumGoroutine" || Tryz.f11.body.isNone)=false:=by kernel_rfl
abbrev xk:Nat:=15
theorem tG:Tryz.prog.funcs[15]?=some Tryz.f15:=Tryz.func15
theorem uD:(Tryz.f15.name == "runtime.NumGoroutine" || Tryz.f15.body.isNone)=false:=by kernel_rfl
abbrev yI:Nat:=17
theorem mA:Tryz.prog.funcs[17]?=some Tryz.f17:=Tryz.func17
theorem mx:(Tryz.f17.name == "runtime.NumGoroutine" || Tryz.f17.body.isNone)=false:=by kernel_rfl
abbrev xr:Nat:=18
theorem uw:Tryz.prog.funcs[18]?=some Tryz.f18:=Tryz.func18
theorem u0:(Tryz.f18.name == "runtime.NumGoroutine" || Tryz.f18.body.isNone)=false:=by kernel_rfl
abbrev qy:Nat:=21
theorem pq:Tryz.prog.funcs[21]?=some Tryz.f21:=Tryz.func21
theorem pc:(Tryz.f21.name == "runtime.NumGoroutine" || Tryz.f21.body.isNone)=false:=by kernel_rfl
abbrev yp:Nat:=22
theorem wn:Tryz.prog.funcs[22]?=some Tryz.f22:=Tryz.func22
theorem xn:(Tryz.f22.name == "runtime.NumGoroutine" || Tryz.f22.body.isNone)=false:=by kernel_rfl
abbrev tx:Nat:=23
theorem j3:Tryz.prog.funcs[23]?=some Tryz.f23:=Tryz.func23
theorem kF:(Tryz.f23.name == "runtime.NumGoroutine" || Tryz.f23.body.isNone)=false:=by kernel_rfl
abbrev yL:Nat:=25
theorem xo:Tryz.prog.funcs[25]?=some Tryz.f25:=Tryz.func25
theorem xp:(Tryz.f25.name == "runtime.NumGoroutine" || Tryz.f25.body.isNone)=false:=by kernel_rfl
abbrev zV:Nat:=26
theorem wq:Tryz.prog.funcs[26]?=some Tryz.f26:=Tryz.func26
theorem wM:(Tryz.f26.name == "runtime.NumGoroutine" || Tryz.f26.body.isNone)=false:=by kernel_rfl
abbrev EZ:Nat:=32
theorem CT:Tryz.prog.funcs[32]?=some Tryz.f32:=Tryz.func32
theorem DT:(Tryz.f32.name == "runtime.NumGoroutine" || Tryz.f32.body.isNone)=false:=by kernel_rfl
abbrev y8:Nat:=33
theorem xg:Tryz.prog.funcs[33]?=some Tryz.f33:=Tryz.func33
theorem wO:(Tryz.f33.name == "runtime.NumGoroutine" || Tryz.f33.body.isNone)=false:=by kernel_rfl
abbrev D2:Nat:=34
theorem pE:Tryz.prog.funcs[34]?=some Tryz.f34:=Tryz.func34
theorem pz:(Tryz.f34.name == "runtime.NumGoroutine" || Tryz.f34.body.isNone)=false:=by kernel_rfl
abbrev u5:Nat:=36
theorem rX:Tryz.prog.funcs[36]?=some Tryz.f36:=Tryz.func36
theorem rc:(Tryz.f36.name == "runtime.NumGoroutine" || Tryz.f36.body.isNone)=false:=by kernel_rfl
abbrev yT:Nat:=38
theorem wI:Tryz.prog.funcs[38]?=some Tryz.f38:=Tryz.func38
theorem xI:(Tryz.f38.name == "runtime.NumGoroutine" || Tryz.f38.body.isNone)=false:=by kernel_rfl
abbrev jb:Nat:=40
theorem kI:Tryz.prog.funcs[40]?=some Tryz.f40:=Tryz.func40
theorem kQ:(Tryz.f40.name == "runtime.NumGoroutine" || Tryz.f40.body.isNone)=false:=by kernel_rfl
abbrev qg:Nat:=42
theorem eZ:Tryz.prog.funcs[42]?=some Tryz.f42:=Tryz.func42
theorem fc:(Tryz.f42.name == "runtime.NumGoroutine" || Tryz.f42.body.isNone)=false:=by kernel_rfl
abbrev AM:Nat:=43
theorem oA:Tryz.prog.funcs[43]?=some Tryz.f43:=Tryz.func43
theorem og:(Tryz.f43.name == "runtime.NumGoroutine" || Tryz.f43.body.isNone)=false:=by kernel_rfl
abbrev Eh:Nat:=44
theorem pC:Tryz.prog.funcs[44]?=some Tryz.f44:=Tryz.func44
theorem p9:(Tryz.f44.name == "runtime.NumGoroutine" || Tryz.f44.body.isNone)=false:=by kernel_rfl
abbrev o7:Nat:=45
theorem oV:Tryz.prog.funcs[45]?=some Tryz.f45:=Tryz.func45
theorem ov:(Tryz.f45.name == "runtime.NumGoroutine" || Tryz.f45.body.isNone)=false:=by kernel_rfl
abbrev k0:Nat:=46
theorem gA:Tryz.prog.funcs[46]?=some Tryz.f46:=Tryz.func46
theorem gC:(Tryz.f46.name == "runtime.NumGoroutine" || Tryz.f46.body.isNone)=false:=by kernel_rfl
abbrev km:Nat:=47
theorem qz:Tryz.prog.funcs[47]?=some Tryz.f47:=Tryz.func47
theorem qm:(Tryz.f47.name == "runtime.NumGoroutine" || Tryz.f47.body.isNone)=false:=by kernel_rfl
abbrev zE:Nat:=48
theorem wu:Tryz.prog.funcs[48]?=some Tryz.f48:=Tryz.func48
theorem xE:(Tryz.f48.name == "runtime.NumGoroutine" || Tryz.f48.body.isNone)=false:=by kernel_rfl
abbrev Hu:Nat:=49
theorem Gb:Tryz.prog.funcs[49]?=some Tryz.f49:=Tryz.func49
theorem Eu:(Tryz.f49.name == "runtime.NumGoroutine" || Tryz.f49.body.isNone)=false:=by kernel_rfl
abbrev um:Nat:=50
theorem kB:Tryz.prog.funcs[50]?=some Tryz.f50:=Tryz.func50
theorem ki:(Tryz.f50.name == "runtime.NumGoroutine" || Tryz.f50.body.isNone)=false:=by kernel_rfl
abbrev AX:Nat:=51
theorem yq:Tryz.prog.funcs[51]?=some Tryz.f51:=Tryz.func51
theorem xY:(Tryz.f51.name == "runtime.NumGoroutine" || Tryz.f51.body.isNone)=false:=by kernel_rfl
abbrev De:Nat:=52
theorem Bl:Tryz.prog.funcs[52]?=some Tryz.f52:=Tryz.func52
theorem Aq:(Tryz.f52.name == "runtime.NumGoroutine" || Tryz.f52.body.isNone)=false:=by kernel_rfl
abbrev EX:Nat:=54
theorem l0:Tryz.prog.funcs[54]?=some Tryz.f54:=Tryz.func54
theorem l3:(Tryz.f54.name == "runtime.NumGoroutine" || Tryz.f54.body.isNone)=false:=by kernel_rfl
abbrev pi:Nat:=55
theorem oO:Tryz.prog.funcs[55]?=some Tryz.f55:=Tryz.func55
theorem oJ:(Tryz.f55.name == "runtime.NumGoroutine" || Tryz.f55.body.isNone)=false:=by kernel_rfl
abbrev mP:Nat:=57
theorem eB:Tryz.prog.funcs[57]?=some Tryz.f57:=Tryz.func57
theorem eA:(Tryz.f57.name == "runtime.NumGoroutine" || Tryz.f57.body.isNone)=false:=by kernel_rfl
abbrev jG:Nat:=58
theorem px:Tryz.prog.funcs[58]?=some Tryz.f58:=Tryz.func58
theorem pn:(Tryz.f58.name == "runtime.NumGoroutine" || Tryz.f58.body.isNone)=false:=by kernel_rfl
abbrev xG:Nat:=59
theorem tM:Tryz.prog.funcs[59]?=some Tryz.f59:=Tryz.func59
theorem uA:(Tryz.f59.name == "runtime.NumGoroutine" || Tryz.f59.body.isNone)=false:=by kernel_rfl
abbrev wU:Nat:=60
theorem uJ:Tryz.prog.funcs[60]?=some Tryz.f60:=Tryz.func60
theorem uO:(Tryz.f60.name == "runtime.NumGoroutine" || Tryz.f60.body.isNone)=false:=by kernel_rfl
abbrev Bd:Nat:=61
theorem gc:Tryz.prog.funcs[61]?=some Tryz.f61:=Tryz.func61
theorem gp:(Tryz.f61.name == "runtime.NumGoroutine" || Tryz.f61.body.isNone)=false:=by kernel_rfl
abbrev FE:Nat:=62
theorem C8:Tryz.prog.funcs[62]?=some Tryz.f62:=Tryz.func62
theorem Dz:(Tryz.f62.name == "runtime.NumGoroutine" || Tryz.f62.body.isNone)=false:=by kernel_rfl
abbrev gM:Nat:=63
theorem lV:Tryz.prog.funcs[63]?=some Tryz.f63:=Tryz.func63
theorem l6:(Tryz.f63.name == "runtime.NumGoroutine" || Tryz.f63.body.isNone)=false:=by kernel_rfl
abbrev Fq:Nat:=66
theorem sM:Tryz.prog.funcs[66]?=some Tryz.f66:=Tryz.func66
theorem sG:(Tryz.f66.name == "runtime.NumGoroutine" || Tryz.f66.body.isNone)=false:=by kernel_rfl
abbrev zF:Nat:=69
theorem cQ:Tryz.prog.funcs[69]?=some Tryz.f69:=Tryz.func69
theorem cP:(Tryz.f69.name == "runtime.NumGoroutine" || Tryz.f69.body.isNone)=false:=by kernel_rfl
abbrev ER:Nat:=71
theorem s6:Tryz.prog.funcs[71]?=some Tryz.f71:=Tryz.func71
theorem tp:(Tryz.f71.name == "runtime.NumGoroutine" || Tryz.f71.body.isNone)=false:=by kernel_rfl
abbrev CL:Nat:=73
theorem Al:Tryz.prog.funcs[73]?=some Tryz.f73:=Tryz.func73
theorem Am:(Tryz.f73.name == "runtime.NumGoroutine" || Tryz.f73.body.isNone)=false:=by kernel_rfl
abbrev lR:Nat:=74
theorem jZ:Tryz.prog.funcs[74]?=some Tryz.f74:=Tryz.func74
theorem kx:(Tryz.f74.name == "runtime.NumGoroutine" || Tryz.f74.body.isNone)=false:=by kernel_rfl
abbrev AA:Nat:=75
theorem yx:Tryz.prog.funcs[75]?=some Tryz.f75:=Tryz.func75
theorem Aa:(Tryz.f75.name == "runtime.NumGoroutine" || Tryz.f75.body.isNone)=false:=by kernel_rfl
abbrev DG:Nat:=76
theorem iu:Tryz.prog.funcs[76]?=some Tryz.f76:=Tryz.func76
theorem iw:(Tryz.f76.name == "runtime.NumGoroutine" || Tryz.f76.body.isNone)=false:=by kernel_rfl
abbrev Jv:Nat:=77
theorem qG:Tryz.prog.funcs[77]?=some Tryz.f77:=Tryz.func77
theorem ql:(Tryz.f77.name == "runtime.NumGoroutine" || Tryz.f77.body.isNone)=false:=by kernel_rfl
abbrev sg:Nat:=78
theorem dP:Tryz.prog.funcs[78]?=some Tryz.f78:=Tryz.func78
theorem dR:(Tryz.f78.name == "runtime.NumGoroutine" || Tryz.f78.body.isNone)=false:=by kernel_rfl
abbrev Jh:Nat:=81
theorem FQ:Tryz.prog.funcs[81]?=some Tryz.f81:=Tryz.func81
theorem Gq:(Tryz.f81.name == "runtime.NumGoroutine" || Tryz.f81.body.isNone)=false:=by kernel_rfl
abbrev qv:Nat:=82
theorem pd:Tryz.prog.funcs[82]?=some Tryz.f82:=Tryz.func82
theorem pm:(Tryz.f82.name == "runtime.NumGoroutine" || Tryz.f82.body.isNone)=false:=by kernel_rfl
abbrev qi:Nat:=83
theorem pr:Tryz.prog.funcs[83]?=some Tryz.f83:=Tryz.func83
theorem pf:(Tryz.f83.name == "runtime.NumGoroutine" || Tryz.f83.body.isNone)=false:=by kernel_rfl
abbrev Bg:Nat:=84
theorem nv:Tryz.prog.funcs[84]?=some Tryz.f84:=Tryz.func84
theorem m8:(Tryz.f84.name == "runtime.NumGoroutine" || Tryz.f84.body.isNone)=false:=by kernel_rfl
abbrev E6:Nat:=85
theorem rS:Tryz.prog.funcs[85]?=some Tryz.f85:=Tryz.func85
theorem rh:(Tryz.f85.name == "runtime.NumGoroutine" || Tryz.f85.body.isNone)=false:=by kernel_rfl
abbrev K8:Nat:=86
theorem Bw:Tryz.prog.funcs[86]?=some Tryz.f86:=Tryz.func86
theorem BH:(Tryz.f86.name == "runtime.NumGoroutine" || Tryz.f86.body.isNone)=false:=by kernel_rfl
abbrev nR:Nat:=87
theorem mV:Tryz.prog.funcs[87]?=some Tryz.f87:=Tryz.func87
theorem mS:(Tryz.f87.name == "runtime.NumGoroutine" || Tryz.f87.body.isNone)=false:=by kernel_rfl
abbrev HL:Nat:=88
theorem vo:Tryz.prog.funcs[88]?=some Tryz.f88:=Tryz.func88
theorem vd:(Tryz.f88.name == "runtime.NumGoroutine" || Tryz.f88.body.isNone)=false:=by kernel_rfl
abbrev lj:Nat:=89
theorem r7:Tryz.prog.funcs[89]?=some Tryz.f89:=Tryz.func89
theorem rp:(Tryz.f89.name == "runtime.NumGoroutine" || Tryz.f89.body.isNone)=false:=by kernel_rfl
abbrev H4:Nat:=90
theorem F4:Tryz.prog.funcs[90]?=some Tryz.f90:=Tryz.func90
theorem FX:(Tryz.f90.name == "runtime.NumGoroutine" || Tryz.f90.body.isNone)=false:=by kernel_rfl
abbrev ol:Nat:=91
theorem mM:Tryz.prog.funcs[91]?=some Tryz.f91:=Tryz.func91
theorem mU:(Tryz.f91.name == "runtime.NumGoroutine" || Tryz.f91.body.isNone)=false:=by kernel_rfl
abbrev Fx:Nat:=92
theorem ma:Tryz.prog.funcs[92]?=some Tryz.f92:=Tryz.func92
theorem mo:(Tryz.f92.name == "runtime.NumGoroutine" || Tryz.f92.body.isNone)=false:=by kernel_rfl
abbrev uC:Nat:=93
theorem rI:Tryz.prog.funcs[93]?=some Tryz.f93:=Tryz.func93
theorem tj:(Tryz.f93.name == "runtime.NumGoroutine" || Tryz.f93.body.isNone)=false:=by kernel_rfl
abbrev uB:Nat:=94
theorem kC:Tryz.prog.funcs[94]?=some Tryz.f94:=Tryz.func94
theorem j8:(Tryz.f94.name == "runtime.NumGoroutine" || Tryz.f94.body.isNone)=false:=by kernel_rfl
abbrev JL:Nat:=95
theorem Hq:Tryz.prog.funcs[95]?=some Tryz.f95:=Tryz.func95
theorem HQ:(Tryz.f95.name == "runtime.NumGoroutine" || Tryz.f95.body.isNone)=false:=by kernel_rfl
abbrev wX:Nat:=96
theorem lE:Tryz.prog.funcs[96]?=some Tryz.f96:=Tryz.func96
theorem lg:(Tryz.f96.name == "runtime.NumGoroutine" || Tryz.f96.body.isNone)=false:=by kernel_rfl
abbrev Et:Nat:=97
theorem tr:Tryz.prog.funcs[97]?=some Tryz.f97:=Tryz.func97
theorem sH:(Tryz.f97.name == "runtime.NumGoroutine" || Tryz.f97.body.isNone)=false:=by kernel_rfl
abbrev Ik:Nat:=98
theorem oB:Tryz.prog.funcs[98]?=some Tryz.f98:=Tryz.func98
theorem nJ:(Tryz.f98.name == "runtime.NumGoroutine" || Tryz.f98.body.isNone)=false:=by kernel_rfl
abbrev JB:Nat:=99
theorem HI:Tryz.prog.funcs[99]?=some Tryz.f99:=Tryz.func99
theorem Ii:(Tryz.f99.name == "runtime.NumGoroutine" || Tryz.f99.body.isNone)=false:=by kernel_rfl
abbrev DB:Nat:=100
theorem AQ:Tryz.prog.funcs[100]?=some Tryz.f100:=Tryz.func100
theorem Ap:(Tryz.f100.name == "runtime.NumGoroutine" || Tryz.f100.body.isNone)=false:=by kernel_rfl
abbrev AR:Nat:=101
theorem n7:Tryz.prog.funcs[101]?=some Tryz.f101:=Tryz.func101
theorem oY:(Tryz.f101.name == "runtime.NumGoroutine" || Tryz.f101.body.isNone)=false:=by kernel_rfl
abbrev Kn:Nat:=102
theorem Jm:Tryz.prog.funcs[102]?=some Tryz.f102:=Tryz.func102
theorem Kb:(Tryz.f102.name == "runtime.NumGoroutine" || Tryz.f102.body.isNone)=false:=by kernel_rfl
abbrev FD:Nat:=103
theorem qW:Tryz.prog.funcs[103]?=some Tryz.f103:=Tryz.func103
theorem sa:(Tryz.f103.name == "runtime.NumGoroutine" || Tryz.f103.body.isNone)=false:=by kernel_rfl
abbrev tH:Nat:=104
theorem rP:Tryz.prog.funcs[104]?=some Tryz.f104:=Tryz.func104
theorem q9:(Tryz.f104.name == "runtime.NumGoroutine" || Tryz.f104.body.isNone)=false:=by kernel_rfl
abbrev ze:Nat:=105
theorem xD:Tryz.prog.funcs[105]?=some Tryz.f105:=Tryz.func105
theorem ww:(Tryz.f105.name == "runtime.NumGoroutine" || Tryz.f105.body.isNone)=false:=by kernel_rfl
abbrev Ef:Nat:=106
theorem Bk:Tryz.prog.funcs[106]?=some Tryz.f106:=Tryz.func106
theorem Bj:(Tryz.f106.name == "runtime.NumGoroutine" || Tryz.f106.body.isNone)=false:=by kernel_rfl
abbrev G1:Nat:=107
theorem EC:Tryz.prog.funcs[107]?=some Tryz.f107:=Tryz.func107
theorem EO:(Tryz.f107.name == "runtime.NumGoroutine" || Tryz.f107.body.isNone)=false:=by kernel_rfl
abbrev wS:Nat:=108
theorem ik:Tryz.prog.funcs[108]?=some Tryz.f108:=Tryz.func108
theorem ic:(Tryz.f108.name == "runtime.NumGoroutine" || Tryz.f108.body.isNone)=false:=by kernel_rfl
abbrev Lf:Nat:=109
theorem Cl:Tryz.prog.funcs[109]?=some Tryz.f109:=Tryz.func109
theorem Ct:(Tryz.f109.name == "runtime.NumGoroutine" || Tryz.f109.body.isNone)=false:=by kernel_rfl
abbrev qC:Nat:=110
theorem pb:Tryz.prog.funcs[110]?=some Tryz.f110:=Tryz.func110
theorem pk:(Tryz.f110.name == "runtime.NumGoroutine" || Tryz.f110.body.isNone)=false:=by kernel_rfl
abbrev ne:Nat:=111
theorem mZ:Tryz.prog.funcs[111]?=some Tryz.f111:=Tryz.func111
theorem mY:(Tryz.f111.name == "runtime.NumGoroutine" || Tryz.f111.body.isNone)=false:=by kernel_rfl
abbrev Ft:Nat:=112
theorem tk:Tryz.prog.funcs[112]?=some Tryz.f112:=Tryz.func112
theorem tw:(Tryz.f112.name == "runtime.NumGoroutine" || Tryz.f112.body.isNone)=false:=by kernel_rfl
abbrev Bi:Nat:=113
theorem yz:Tryz.prog.funcs[113]?=some Tryz.f113:=Tryz.func113
theorem yv:(Tryz.f113.name == "runtime.NumGoroutine" || Tryz.f113.body.isNone)=false:=by kernel_rfl
abbrev wz:Nat:=114
theorem ug:Tryz.prog.funcs[114]?=some Tryz.f114:=Tryz.func114
theorem tC:(Tryz.f114.name == "runtime.NumGoroutine" || Tryz.f114.body.isNone)=false:=by kernel_rfl
abbrev GA:Nat:=115
theorem En:Tryz.prog.funcs[115]?=some Tryz.f115:=Tryz.func115
theorem F1:(Tryz.f115.name == "runtime.NumGoroutine" || Tryz.f115.body.isNone)=false:=by kernel_rfl
abbrev Gp:Nat:=116
theorem C3:Tryz.prog.funcs[116]?=some Tryz.f116:=Tryz.func116
theorem CG:(Tryz.f116.name == "runtime.NumGoroutine" || Tryz.f116.body.isNone)=false:=by kernel_rfl
abbrev C4:Nat:=117
theorem Bf:Tryz.prog.funcs[117]?=some Tryz.f117:=Tryz.func117
theorem AE:(Tryz.f117.name == "runtime.NumGoroutine" || Tryz.f117.body.isNone)=false:=by kernel_rfl
abbrev Dg:Nat:=118
theorem kJ:Tryz.prog.funcs[118]?=some Tryz.f118:=Tryz.func118
theorem kP:(Tryz.f118.name == "runtime.NumGoroutine" || Tryz.f118.body.isNone)=false:=by kernel_rfl
abbrev Hy:Nat:=119
theorem FM:Tryz.prog.funcs[119]?=some Tryz.f119:=Tryz.func119
theorem Gs:(Tryz.f119.name == "runtime.NumGoroutine" || Tryz.f119.body.isNone)=false:=by kernel_rfl
abbrev xh:Nat:=120
theorem uL:Tryz.prog.funcs[120]?=some Tryz.f120:=Tryz.func120
theorem tz:(Tryz.f120.name == "runtime.NumGoroutine" || Tryz.f120.body.isNone)=false:=by kernel_rfl
abbrev F7:Nat:=121
theorem DU:Tryz.prog.funcs[121]?=some Tryz.f121:=Tryz.func121
theorem D1:(Tryz.f121.name == "runtime.NumGoroutine" || Tryz.f121.body.isNone)=false:=by kernel_rfl
abbrev Fd:Nat:=124
theorem sW:Tryz.prog.funcs[124]?=some Tryz.f124:=Tryz.func124
theorem sw:(Tryz.f124.name == "runtime.NumGoroutine" || Tryz.f124.body.isNone)=false:=by kernel_rfl
abbrev Fg:Nat:=125
theorem sX:Tryz.prog.funcs[125]?=some Tryz.f125:=Tryz.func125
theorem sI:(Tryz.f125.name == "runtime.NumGoroutine" || Tryz.f125.body.isNone)=false:=by kernel_rfl
abbrev Ht:Nat:=126
theorem oE:Tryz.prog.funcs[126]?=some Tryz.f126:=Tryz.func126
theorem ny:(Tryz.f126.name == "runtime.NumGoroutine" || Tryz.f126.body.isNone)=false:=by kernel_rfl
abbrev Bo:Nat:=127
theorem xX:Tryz.prog.funcs[127]?=some Tryz.f127:=Tryz.func127
theorem yQ:(Tryz.f127.name == "runtime.NumGoroutine" || Tryz.f127.body.isNone)=false:=by kernel_rfl
abbrev HG:Nat:=128
theorem Em:Tryz.prog.funcs[128]?=some Tryz.f128:=Tryz.func128
theorem EF:(Tryz.f128.name == "runtime.NumGoroutine" || Tryz.f128.body.isNone)=false:=by kernel_rfl
abbrev rZ:Nat:=129
theorem Ak:Tryz.prog.funcs[129]?=some Tryz.f129:=Tryz.func129
theorem Ax:(Tryz.f129.name == "runtime.NumGoroutine" || Tryz.f129.body.isNone)=false:=by kernel_rfl
abbrev sN:Nat:=130
theorem qh:Tryz.prog.funcs[130]?=some Tryz.f130:=Tryz.func130
theorem qr:(Tryz.f130.name == "runtime.NumGoroutine" || Tryz.f130.body.isNone)=false:=by kernel_rfl
abbrev Ae:Nat:=131
theorem zC:Tryz.prog.funcs[131]?=some Tryz.f131:=Tryz.func131
theorem zj:(Tryz.f131.name == "runtime.NumGoroutine" || Tryz.f131.body.isNone)=false:=by kernel_rfl
abbrev Er:Nat:=132
theorem Du:Tryz.prog.funcs[132]?=some Tryz.f132:=Tryz.func132
theorem CZ:(Tryz.f132.name == "runtime.NumGoroutine" || Tryz.f132.body.isNone)=false:=by kernel_rfl
abbrev G5:Nat:=133
theorem EJ:Tryz.prog.funcs[133]?=some Tryz.f133:=Tryz.func133
theorem EH:(Tryz.f133.name == "runtime.NumGoroutine" || Tryz.f133.body.isNone)=false:=by kernel_rfl
abbrev A4:Nat:=134
theorem yM:Tryz.prog.funcs[134]?=some Tryz.f134:=Tryz.func134
theorem zu:(Tryz.f134.name == "runtime.NumGoroutine" || Tryz.f134.body.isNone)=false:=by kernel_rfl
abbrev Fe:Nat:=135
theorem lZ:Tryz.prog.funcs[135]?=some Tryz.f135:=Tryz.func135
theorem mg:(Tryz.f135.name == "runtime.NumGoroutine" || Tryz.f135.body.isNone)=false:=by kernel_rfl
abbrev Ga:Nat:=136
theorem DE:Tryz.prog.funcs[136]?=some Tryz.f136:=Tryz.func136
theorem Dq:(Tryz.f136.name == "runtime.NumGoroutine" || Tryz.f136.body.isNone)=false:=by kernel_rfl
abbrev Av:Nat:=137
theorem xO:Tryz.prog.funcs[137]?=some Tryz.f137:=Tryz.func137
theorem zA:(Tryz.f137.name == "runtime.NumGoroutine" || Tryz.f137.body.isNone)=false:=by kernel_rfl
abbrev lh:Nat:=138
theorem sq:Tryz.prog.funcs[138]?=some Tryz.f138:=Tryz.func138
theorem ti:(Tryz.f138.name == "runtime.NumGoroutine" || Tryz.f138.body.isNone)=false:=by kernel_rfl
abbrev Ag:Nat:=139
theorem z3:Tryz.prog.funcs[139]?=some Tryz.f139:=Tryz.func139
theorem Ad:(Tryz.f139.name == "runtime.NumGoroutine" || Tryz.f139.body.isNone)=false:=by kernel_rfl
abbrev zi:Nat:=140
theorem vA:Tryz.prog.funcs[140]?=some Tryz.f140:=Tryz.func140
theorem vR:(Tryz.f140.name == "runtime.NumGoroutine" || Tryz.f140.body.isNone)=false:=by kernel_rfl
abbrev GB:Nat:=141
theorem vz:Tryz.prog.funcs[141]?=some Tryz.f141:=Tryz.func141
theorem vm:(Tryz.f141.name == "runtime.NumGoroutine" || Tryz.f141.body.isNone)=false:=by kernel_rfl
abbrev Bp:Nat:=142
theorem nC:Tryz.prog.funcs[142]?=some Tryz.f142:=Tryz.func142
theorem no:(Tryz.f142.name == "runtime.NumGoroutine" || Tryz.f142.body.isNone)=false:=by kernel_rfl
abbrev tN:Nat:=143
theorem kq:Tryz.prog.funcs[143]?=some Tryz.f143:=Tryz.func143
theorem j0:(Tryz.f143.name == "runtime.NumGoroutine" || Tryz.f143.body.isNone)=false:=by kernel_rfl
abbrev AJ:Nat:=145
theorem nS:Tryz.prog.funcs[145]?=some Tryz.f145:=Tryz.func145
theorem oC:(Tryz.f145.name == "runtime.NumGoroutine" || Tryz.f145.body.isNone)=false:=by kernel_rfl
abbrev GG:Nat:=146
theorem gk:Tryz.prog.funcs[146]?=some Tryz.f146:=Tryz.func146
theorem gn:(Tryz.f146.name == "runtime.NumGoroutine" || Tryz.f146.body.isNone)=false:=by kernel_rfl
abbrev HR:Nat:=147
theorem dz:Tryz.prog.funcs[147]?=some Tryz.f147:=Tryz.func147
theorem dA:(Tryz.f147.name == "runtime.NumGoroutine" || Tryz.f147.body.isNone)=false:=by kernel_rfl
abbrev EK:Nat:=148
theorem DN:Tryz.prog.funcs[148]?=some Tryz.f148:=Tryz.func148
theorem C1:(Tryz.f148.name == "runtime.NumGoroutine" || Tryz.f148.body.isNone)=false:=by kernel_rfl
abbrev tA:Nat:=149
theorem rY:Tryz.prog.funcs[149]?=some Tryz.f149:=Tryz.func149
theorem rQ:(Tryz.f149.name == "runtime.NumGoroutine" || Tryz.f149.body.isNone)=false:=by kernel_rfl
abbrev JT:Nat:=150
theorem zk:Tryz.prog.funcs[150]?=some Tryz.f150:=Tryz.func150
theorem zI:(Tryz.f150.name == "runtime.NumGoroutine" || Tryz.f150.body.isNone)=false:=by kernel_rfl
abbrev FY:Nat:=151
theorem iX:Tryz.prog.funcs[151]?=some Tryz.f151:=Tryz.func151
theorem iY:(Tryz.f151.name == "runtime.NumGoroutine" || Tryz.f151.body.isNone)=false:=by kernel_rfl
abbrev Dt:Nat:=152
theorem A5:Tryz.prog.funcs[152]?=some Tryz.f152:=Tryz.func152
theorem AB:(Tryz.f152.name == "runtime.NumGoroutine" || Tryz.f152.body.isNone)=false:=by kernel_rfl
abbrev Hm:Nat:=154
theorem vJ:Tryz.prog.funcs[154]?=some Tryz.f154:=Tryz.func154
theorem vC:(Tryz.f154.name == "runtime.NumGoroutine" || Tryz.f154.body.isNone)=false:=by kernel_rfl
abbrev G9:Nat:=156
theorem EA:Tryz.prog.funcs[156]?=some Tryz.f156:=Tryz.func156
theorem F5:(Tryz.f156.name == "runtime.NumGoroutine" || Tryz.f156.body.isNone)=false:=by kernel_rfl
abbrev Jt:Nat:=157
theorem Hn:Tryz.prog.funcs[157]?=some Tryz.f157:=Tryz.func157
theorem Iu:(Tryz.f157.name == "runtime.NumGoroutine" || Tryz.f157.body.isNone)=false:=by kernel_rfl
abbrev Ev:Nat:=158
theorem Do:Tryz.prog.funcs[158]?=some Tryz.f158:=Tryz.func158
theorem Dx:(Tryz.f158.name == "runtime.NumGoroutine" || Tryz.f158.body.isNone)=false:=by kernel_rfl
abbrev jV:Nat:=159
theorem ju:Tryz.prog.funcs[159]?=some Tryz.f159:=Tryz.func159
theorem jE:(Tryz.f159.name == "runtime.NumGoroutine" || Tryz.f159.body.isNone)=false:=by kernel_rfl
abbrev xf:Nat:=160
theorem tK:Tryz.prog.funcs[160]?=some Tryz.f160:=Tryz.func160
theorem uo:(Tryz.f160.name == "runtime.NumGoroutine" || Tryz.f160.body.isNone)=false:=by kernel_rfl
abbrev GX:Nat:=161
theorem E8:Tryz.prog.funcs[161]?=some Tryz.f161:=Tryz.func161
theorem El:(Tryz.f161.name == "runtime.NumGoroutine" || Tryz.f161.body.isNone)=false:=by kernel_rfl
abbrev Hp:Nat:=162
theorem vv:Tryz.prog.funcs[162]?=some Tryz.f162:=Tryz.func162
theorem vQ:(Tryz.f162.name == "runtime.NumGoroutine" || Tryz.f162.body.isNone)=false:=by kernel_rfl
abbrev Be:Nat:=163
theorem nt:Tryz.prog.funcs[163]?=some Tryz.f163:=Tryz.func163
theorem n5:(Tryz.f163.name == "runtime.NumGoroutine" || Tryz.f163.body.isNone)=false:=by kernel_rfl
abbrev FC:Nat:=164
theorem fO:Tryz.prog.funcs[164]?=some Tryz.f164:=Tryz.func164
theorem fI:(Tryz.f164.name == "runtime.NumGoroutine" || Tryz.f164.body.isNone)=false:=by kernel_rfl
abbrev Jp:Nat:=165
theorem G8:Tryz.prog.funcs[165]?=some Tryz.f165:=Tryz.func165
theorem HO:(Tryz.f165.name == "runtime.NumGoroutine" || Tryz.f165.body.isNone)=false:=by kernel_rfl
abbrev Hb:Nat:=166
theorem j5:Tryz.prog.funcs[166]?=some Tryz.f166:=Tryz.func166
theorem jW:(Tryz.f166.name == "runtime.NumGoroutine" || Tryz.f166.body.isNone)=false:=by kernel_rfl
abbrev Gy:Nat:=167
theorem kA:Tryz.prog.funcs[167]?=some Tryz.f167:=Tryz.func167
theorem j9:(Tryz.f167.name == "runtime.NumGoroutine" || Tryz.f167.body.isNone)=false:=by kernel_rfl
abbrev GM:Nat:=168
theorem oS:Tryz.prog.funcs[168]?=some Tryz.f168:=Tryz.func168
theorem nV:(Tryz.f168.name == "runtime.NumGoroutine" || Tryz.f168.body.isNone)=false:=by kernel_rfl
abbrev DZ:Nat:=169
theorem AZ:Tryz.prog.funcs[169]?=some Tryz.f169:=Tryz.func169
theorem Bb:(Tryz.f169.name == "runtime.NumGoroutine" || Tryz.f169.body.isNone)=false:=by kernel_rfl
abbrev Gr:Nat:=170
theorem DQ:Tryz.prog.funcs[170]?=some Tryz.f170:=Tryz.func170
theorem CI:(Tryz.f170.name == "runtime.NumGoroutine" || Tryz.f170.body.isNone)=false:=by kernel_rfl
abbrev Ko:Nat:=171
theorem Jn:Tryz.prog.funcs[171]?=some Tryz.f171:=Tryz.func171
theorem JX:(Tryz.f171.name == "runtime.NumGoroutine" || Tryz.f171.body.isNone)=false:=by kernel_rfl
abbrev Hx:Nat:=172
theorem Gh:Tryz.prog.funcs[172]?=some Tryz.f172:=Tryz.func172
theorem Gd:(Tryz.f172.name == "runtime.NumGoroutine" || Tryz.f172.body.isNone)=false:=by kernel_rfl
abbrev HM:Nat:=173
theorem FH:Tryz.prog.funcs[173]?=some Tryz.f173:=Tryz.func173
theorem Eq:(Tryz.f173.name == "runtime.NumGoroutine" || Tryz.f173.body.isNone)=false:=by kernel_rfl
abbrev E4:Nat:=174
theorem rE:Tryz.prog.funcs[174]?=some Tryz.f174:=Tryz.func174
theorem ta:(Tryz.f174.name == "runtime.NumGoroutine" || Tryz.f174.body.isNone)=false:=by kernel_rfl
abbrev Ep:Nat:=175
theorem rK:Tryz.prog.funcs[175]?=some Tryz.f175:=Tryz.func175
theorem sS:(Tryz.f175.name == "runtime.NumGoroutine" || Tryz.f175.body.isNone)=false:=by kernel_rfl
abbrev FB:Nat:=176
theorem rb:Tryz.prog.funcs[176]?=some Tryz.f176:=Tryz.func176
theorem sU:(Tryz.f176.name == "runtime.NumGoroutine" || Tryz.f176.body.isNone)=false:=by kernel_rfl
abbrev CN:Nat:=177
theorem Af:Tryz.prog.funcs[177]?=some Tryz.f177:=Tryz.func177
theorem Bn:(Tryz.f177.name == "runtime.NumGoroutine" || Tryz.f177.body.isNone)=false:=by kernel_rfl
abbrev Jo:Nat:=178
theorem GS:Tryz.prog.funcs[178]?=some Tryz.f178:=Tryz.func178
theorem GK:(Tryz.f178.name == "runtime.NumGoroutine" || Tryz.f178.body.isNone)=false:=by kernel_rfl
abbrev GZ:Nat:=179
theorem oK:Tryz.prog.funcs[179]?=some Tryz.f179:=Tryz.func179
theorem ow:(Tryz.f179.name == "runtime.NumGoroutine" || Tryz.f179.body.isNone)=false:=by kernel_rfl
abbrev AO:Nat:=181
theorem xU:Tryz.prog.funcs[181]?=some Tryz.f181:=Tryz.func181
theorem zt:(Tryz.f181.name == "runtime.NumGoroutine" || Tryz.f181.body.isNone)=false:=by kernel_rfl
abbrev Ke:Nat:=184
theorem HC:Tryz.prog.funcs[184]?=some Tryz.f184:=Tryz.func184
theorem H1:(Tryz.f184.name == "runtime.NumGoroutine" || Tryz.f184.body.isNone)=false:=by kernel_rfl
abbrev Hj:Nat:=185
theorem Ej:Tryz.prog.funcs[185]?=some Tryz.f185:=Tryz.func185
theorem ES:(Tryz.f185.name == "runtime.NumGoroutine" || Tryz.f185.body.isNone)=false:=by kernel_rfl
abbrev F8:Nat:=187
theorem Dp:Tryz.prog.funcs[187]?=some Tryz.f187:=Tryz.func187
theorem Dk:(Tryz.f187.name == "runtime.NumGoroutine" || Tryz.f187.body.isNone)=false:=by kernel_rfl
abbrev E5:Nat:=188
theorem tt:Tryz.prog.funcs[188]?=some Tryz.f188:=Tryz.func188
theorem rj:(Tryz.f188.name == "runtime.NumGoroutine" || Tryz.f188.body.isNone)=false:=by kernel_rfl
abbrev Ir:Nat:=189
theorem gd:Tryz.prog.funcs[189]?=some Tryz.f189:=Tryz.func189
theorem f3:(Tryz.f189.name == "runtime.NumGoroutine" || Tryz.f189.body.isNone)=false:=by kernel_rfl
abbrev GI:Nat:=190
theorem vB:Tryz.prog.funcs[190]?=some Tryz.f190:=Tryz.func190
theorem vX:(Tryz.f190.name == "runtime.NumGoroutine" || Tryz.f190.body.isNone)=false:=by kernel_rfl
abbrev Jr:Nat:=191
theorem H3:Tryz.prog.funcs[191]?=some Tryz.f191:=Tryz.func191
theorem Hh:(Tryz.f191.name == "runtime.NumGoroutine" || Tryz.f191.body.isNone)=false:=by kernel_rfl
abbrev Ji:Nat:=192
theorem Is:Tryz.prog.funcs[192]?=some Tryz.f192:=Tryz.func192
theorem HF:(Tryz.f192.name == "runtime.NumGoroutine" || Tryz.f192.body.isNone)=false:=by kernel_rfl
abbrev GH:Nat:=194
theorem FS:Tryz.prog.funcs[194]?=some Tryz.f194:=Tryz.func194
theorem FK:(Tryz.f194.name == "runtime.NumGoroutine" || Tryz.f194.body.isNone)=false:=by kernel_rfl
abbrev Fl:Nat:=195
theorem rR:Tryz.prog.funcs[195]?=some Tryz.f195:=Tryz.func195
theorem q4:(Tryz.f195.name == "runtime.NumGoroutine" || Tryz.f195.body.isNone)=false:=by kernel_rfl
abbrev Hf:Nat:=196
theorem Gf:Tryz.prog.funcs[196]?=some Tryz.f196:=Tryz.func196
theorem Ez:(Tryz.f196.name == "runtime.NumGoroutine" || Tryz.f196.body.isNone)=false:=by kernel_rfl
abbrev Da:Nat:=197
theorem AY:Tryz.prog.funcs[197]?=some Tryz.f197:=Tryz.func197
theorem A1:(Tryz.f197.name == "runtime.NumGoroutine" || Tryz.f197.body.isNone)=false:=by kernel_rfl
abbrev EY:Nat:=198
theorem CK:Tryz.prog.funcs[198]?=some Tryz.f198:=Tryz.func198
theorem Dj:(Tryz.f198.name == "runtime.NumGoroutine" || Tryz.f198.body.isNone)=false:=by kernel_rfl
abbrev G6:Nat:=199
theorem oM:Tryz.prog.funcs[199]?=some Tryz.f199:=Tryz.func199
theorem nZ:(Tryz.f199.name == "runtime.NumGoroutine" || Tryz.f199.body.isNone)=false:=by kernel_rfl
abbrev Im:Nat:=201
theorem vI:Tryz.prog.funcs[201]?=some Tryz.f201:=Tryz.func201
theorem vW:(Tryz.f201.name == "runtime.NumGoroutine" || Tryz.f201.body.isNone)=false:=by kernel_rfl
abbrev AW:Nat:=202
theorem nW:Tryz.prog.funcs[202]?=some Tryz.f202:=Tryz.func202
theorem nU:(Tryz.f202.name == "runtime.NumGoroutine" || Tryz.f202.body.isNone)=false:=by kernel_rfl
abbrev EU:Nat:=203
theorem Df:Tryz.prog.funcs[203]?=some Tryz.f203:=Tryz.func203
theorem Dn:(Tryz.f203.name == "runtime.NumGoroutine" || Tryz.f203.body.isNone)=false:=by kernel_rfl

end Go.Proofs.YtemmhhdnlbmicaaGreat
