/- Made by program: names for the numbers of functions and types, and closed facts on them. -/
import Derived.Test.YtemmhhdnlbmicaaGreatZMgS
import Derived.Test.YtemmhhdnlbmicaaGreatProg
import Derived.KernelRfl
namespace Go.Proofs.YtemmhhdnlbmicaaGreat
open Go
abbrev ff:Nat:=3
theorem bn:pA Tryz.prog 3=true:=by kernel_rfl
theorem Nt:iq Tryz.prog 3=some (.int .i64 0):=by kernel_rfl
theorem jc:Tryz.prog.underlying 3=some (.int .i64):=by kernel_rfl
abbrev lB:Nat:=4
theorem yE:Tryz.prog.underlying 4=some .bool:=by kernel_rfl
abbrev E7:Nat:=5
theorem yW:pA Tryz.prog 5=true:=by kernel_rfl
theorem fQ:Tryz.prog.underlying 5=some (.int .u8):=by kernel_rfl
abbrev iV:Nat:=9
theorem bl:pA Tryz.prog 9=true:=by kernel_rfl
theorem bg:Tryz.prog.underlying 9=some .string:=by kernel_rfl
abbrev Hx:Nat:=22
theorem gO:pA Tryz.prog 22=true:=by kernel_rfl
theorem vA:oG Tryz.prog 22=some (5,1,1,(.int .u8 0)):=by kernel_rfl
theorem eG:dA Tryz.prog 22=some (5,1):=by kernel_rfl
abbrev cd:Nat:=23
theorem aP:pA Tryz.prog 23=true:=by kernel_rfl
theorem bD:oG Tryz.prog 23=some (25,4,56,(.agg #[(.int .i64 0),(.int .i64 0),(.string ⟨#[]⟩),(.slice none 0 0)])):=by kernel_rfl
theorem av:dA Tryz.prog 23=some (25,4):=by kernel_rfl
abbrev ab:Nat:=25
theorem ai:vt Tryz.prog 25=some 4:=by kernel_rfl
theorem bG:iq Tryz.prog 25=some (.agg #[(.int .i64 0),(.int .i64 0),(.string ⟨#[]⟩),(.slice none 0 0)]):=by kernel_rfl
theorem bx:fB Tryz.prog 25 0=some 0:=by kernel_rfl
theorem bJ:fB Tryz.prog 25 1=some 1:=by kernel_rfl
theorem bo:fB Tryz.prog 25 2=some 2:=by kernel_rfl
theorem aT:fB Tryz.prog 25 3=some 3:=by kernel_rfl
theorem i8:oG Tryz.prog 32=some (39,5,80,(.agg #[(.int .i64 0),(.int .i64 0),(.string ⟨#[]⟩),(.slice none 0 0),(.slice none 0 0)])):=by kernel_rfl
theorem cC:dA Tryz.prog 32=some (39,5):=by kernel_rfl
abbrev aR:Nat:=39
theorem bF:vt Tryz.prog 39=some 5:=by kernel_rfl
theorem eI:iq Tryz.prog 39=some (.agg #[(.int .i64 0),(.int .i64 0),(.string ⟨#[]⟩),(.slice none 0 0),(.slice none 0 0)]):=by kernel_rfl
theorem dh:fB Tryz.prog 39 0=some 0:=by kernel_rfl
theorem bq:fB Tryz.prog 39 1=some 4:=by kernel_rfl
theorem lw:Tryz.prog.underlying 59=some (.map 3 25):=by kernel_rfl
abbrev Dk:Nat:=67
theorem z7:oG Tryz.prog 67=some (9,1,16,(.string ⟨#[]⟩)):=by kernel_rfl
theorem cG:dA Tryz.prog 67=some (9,1):=by kernel_rfl
abbrev q5:Nat:=71
theorem JV:pA Tryz.prog 71=true:=by kernel_rfl
theorem MK:iq Tryz.prog 71=some (.slice none 0 0):=by kernel_rfl
theorem pF:oG Tryz.prog 71=some (3,1,8,(.int .i64 0)):=by kernel_rfl
theorem fl:dA Tryz.prog 71=some (3,1):=by kernel_rfl
abbrev GR:Nat:=78
theorem fG:fB Tryz.prog 78 0=some 0:=by kernel_rfl
theorem nO:fB Tryz.prog 78 1=some 1:=by kernel_rfl
abbrev mI:Nat:=91
theorem DJ:pA Tryz.prog 91=true:=by kernel_rfl
abbrev dF:Nat:=8
abbrev yo:Nat:=15
theorem mp:Tryz.prog.funcs[15]?=some Tryz.f15:=Tryz.func15
theorem lM:(Tryz.f15.name == "runtime.NumGoroutine" || Tryz.f15.body.isNone)=false:=by kernel_rfl
abbrev z3:Nat:=17
theorem yB:Tryz.prog.funcs[17]?=some Tryz.f17:=Tryz.func17
theorem yx:(Tryz.f17.name == "runtime.NumGoroutine" || Tryz.f17.body.isNone)=false:=by kernel_rfl
abbrev xr:Nat:=18
theorem l3:Tryz.prog.funcs[18]?=some Tryz.f18:=Tryz.func18
theorem lL:(Tryz.f18.name == "runtime.NumGoroutine" || Tryz.f18.body.isNone)=false:=by kernel_rfl
abbrev vK:Nat:=23
theorem sa:Tryz.prog.funcs[23]?=some Tryz.f23:=Tryz.func23
theorem tE:(Tryz.f23.name == "runtime.NumGoroutine" || Tryz.f23.body.isNone)=false:=by kernel_rfl
abbrev zP:Nat:=25
theorem yb:Tryz.prog.funcs[25]?=some Tryz.f25:=Tryz.func25
theorem yy:(Tryz.f25.name == "runtime.NumGoroutine" || Tryz.f25.body.isNone)=false:=by kernel_rfl
abbrev yS:Nat:=26
theorem yr:Tryz.prog.funcs[26]?=some Tryz.f26:=Tryz.func26
theorem yv:(Tryz.f26.name == "runtime.NumGoroutine" || Tryz.f26.body.isNone)=false:=by kernel_rfl
abbrev Il:Nat:=27
theorem GM:Tryz.prog.funcs[27]?=some Tryz.f27:=Tryz.func27
theorem FT:(Tryz.f27.name == "runtime.NumGoroutine" || Tryz.f27.body.isNone)=false:=by kernel_rfl
abbrev yh:Nat:=29
theorem vM:Tryz.prog.funcs[29]?=some Tryz.f29:=Tryz.func29
theorem uR:(Tryz.f29.name == "runtime.NumGoroutine" || Tryz.f29.body.isNone)=false:=by kernel_rfl
abbrev pU:Nat:=30
theorem oU:Tryz.prog.funcs[30]?=some Tryz.f30:=Tryz.func30
theorem oK:(Tryz.f30.name == "runtime.NumGoroutine" || Tryz.f30.body.isNone)=false:=by kernel_rfl
abbrev xK:Nat:=31
theorem l6:Tryz.prog.funcs[31]?=some Tryz.f31:=Tryz.func31
theorem lY:(Tryz.f31.name == "runtime.NumGoroutine" || Tryz.f31.body.isNone)=false:=by kernel_rfl
abbrev G7:Nat:=32
theorem EG:Tryz.prog.funcs[32]?=some Tryz.f32:=Tryz.func32
theorem DD:(Tryz.f32.name == "runtime.NumGoroutine" || Tryz.f32.body.isNone)=false:=by kernel_rfl
abbrev y3:Nat:=33
theorem xV:Tryz.prog.funcs[33]?=some Tryz.f33:=Tryz.func33
theorem xW:(Tryz.f33.name == "runtime.NumGoroutine" || Tryz.f33.body.isNone)=false:=by kernel_rfl
abbrev D3:Nat:=34
theorem lx:Tryz.prog.funcs[34]?=some Tryz.f34:=Tryz.func34
theorem lD:(Tryz.f34.name == "runtime.NumGoroutine" || Tryz.f34.body.isNone)=false:=by kernel_rfl
abbrev GA:Nat:=35
theorem Eg:Tryz.prog.funcs[35]?=some Tryz.f35:=Tryz.func35
theorem Dt:(Tryz.f35.name == "runtime.NumGoroutine" || Tryz.f35.body.isNone)=false:=by kernel_rfl
abbrev vR:Nat:=36
theorem uh:Tryz.prog.funcs[36]?=some Tryz.f36:=Tryz.func36
theorem tZ:(Tryz.f36.name == "runtime.NumGoroutine" || Tryz.f36.body.isNone)=false:=by kernel_rfl
abbrev A0:Nat:=38
theorem xD:Tryz.prog.funcs[38]?=some Tryz.f38:=Tryz.func38
theorem xz:(Tryz.f38.name == "runtime.NumGoroutine" || Tryz.f38.body.isNone)=false:=by kernel_rfl
abbrev mU:Nat:=40
theorem iC:Tryz.prog.funcs[40]?=some Tryz.f40:=Tryz.func40
theorem iI:(Tryz.f40.name == "runtime.NumGoroutine" || Tryz.f40.body.isNone)=false:=by kernel_rfl
abbrev rf:Nat:=42
theorem fg:Tryz.prog.funcs[42]?=some Tryz.f42:=Tryz.func42
theorem e9:(Tryz.f42.name == "runtime.NumGoroutine" || Tryz.f42.body.isNone)=false:=by kernel_rfl
abbrev Cg:Nat:=43
theorem kq:Tryz.prog.funcs[43]?=some Tryz.f43:=Tryz.func43
theorem jO:(Tryz.f43.name == "runtime.NumGoroutine" || Tryz.f43.body.isNone)=false:=by kernel_rfl
abbrev EZ:Nat:=44
theorem qp:Tryz.prog.funcs[44]?=some Tryz.f44:=Tryz.func44
theorem qi:(Tryz.f44.name == "runtime.NumGoroutine" || Tryz.f44.body.isNone)=false:=by kernel_rfl
abbrev mc:Nat:=46
theorem gI:Tryz.prog.funcs[46]?=some Tryz.f46:=Tryz.func46
theorem gE:(Tryz.f46.name == "runtime.NumGoroutine" || Tryz.f46.body.isNone)=false:=by kernel_rfl
abbrev lk:Nat:=47
theorem qQ:Tryz.prog.funcs[47]?=some Tryz.f47:=Tryz.func47
theorem rp:(Tryz.f47.name == "runtime.NumGoroutine" || Tryz.f47.body.isNone)=false:=by kernel_rfl
abbrev zO:Nat:=48
theorem yA:Tryz.prog.funcs[48]?=some Tryz.f48:=Tryz.func48
theorem yw:(Tryz.f48.name == "runtime.NumGoroutine" || Tryz.f48.body.isNone)=false:=by kernel_rfl
abbrev Jh:Nat:=49
theorem Gh:Tryz.prog.funcs[49]?=some Tryz.f49:=Tryz.func49
theorem Hd:(Tryz.f49.name == "runtime.NumGoroutine" || Tryz.f49.body.isNone)=false:=by kernel_rfl
abbrev uN:Nat:=50
theorem kN:Tryz.prog.funcs[50]?=some Tryz.f50:=Tryz.func50
theorem kY:(Tryz.f50.name == "runtime.NumGoroutine" || Tryz.f50.body.isNone)=false:=by kernel_rfl
abbrev B9:Nat:=51
theorem ze:Tryz.prog.funcs[51]?=some Tryz.f51:=Tryz.func51
theorem zc:(Tryz.f51.name == "runtime.NumGoroutine" || Tryz.f51.body.isNone)=false:=by kernel_rfl
abbrev EE:Nat:=52
theorem Cd:Tryz.prog.funcs[52]?=some Tryz.f52:=Tryz.func52
theorem BJ:(Tryz.f52.name == "runtime.NumGoroutine" || Tryz.f52.body.isNone)=false:=by kernel_rfl
abbrev F8:Nat:=54
theorem mV:Tryz.prog.funcs[54]?=some Tryz.f54:=Tryz.func54
theorem mT:(Tryz.f54.name == "runtime.NumGoroutine" || Tryz.f54.body.isNone)=false:=by kernel_rfl
abbrev p7:Nat:=55
theorem ph:Tryz.prog.funcs[55]?=some Tryz.f55:=Tryz.func55
theorem pi:(Tryz.f55.name == "runtime.NumGoroutine" || Tryz.f55.body.isNone)=false:=by kernel_rfl
abbrev nw:Nat:=57
theorem dE:Tryz.prog.funcs[57]?=some Tryz.f57:=Tryz.func57
theorem dH:(Tryz.f57.name == "runtime.NumGoroutine" || Tryz.f57.body.isNone)=false:=by kernel_rfl
abbrev j8:Nat:=58
theorem pT:Tryz.prog.funcs[58]?=some Tryz.f58:=Tryz.func58
theorem qe:(Tryz.f58.name == "runtime.NumGoroutine" || Tryz.f58.body.isNone)=false:=by kernel_rfl
abbrev xq:Nat:=59
theorem vL:Tryz.prog.funcs[59]?=some Tryz.f59:=Tryz.func59
theorem vN:(Tryz.f59.name == "runtime.NumGoroutine" || Tryz.f59.body.isNone)=false:=by kernel_rfl
abbrev xR:Nat:=60
theorem vk:Tryz.prog.funcs[60]?=some Tryz.f60:=Tryz.func60
theorem u5:(Tryz.f60.name == "runtime.NumGoroutine" || Tryz.f60.body.isNone)=false:=by kernel_rfl
abbrev BE:Nat:=61
theorem ft:Tryz.prog.funcs[61]?=some Tryz.f61:=Tryz.func61
theorem fq:(Tryz.f61.name == "runtime.NumGoroutine" || Tryz.f61.body.isNone)=false:=by kernel_rfl
abbrev Ha:Nat:=62
theorem EM:Tryz.prog.funcs[62]?=some Tryz.f62:=Tryz.func62
theorem DI:(Tryz.f62.name == "runtime.NumGoroutine" || Tryz.f62.body.isNone)=false:=by kernel_rfl
abbrev gP:Nat:=63
theorem mD:Tryz.prog.funcs[63]?=some Tryz.f63:=Tryz.func63
theorem mK:(Tryz.f63.name == "runtime.NumGoroutine" || Tryz.f63.body.isNone)=false:=by kernel_rfl
abbrev li:Nat:=64
theorem rt:Tryz.prog.funcs[64]?=some Tryz.f64:=Tryz.func64
theorem rm:(Tryz.f64.name == "runtime.NumGoroutine" || Tryz.f64.body.isNone)=false:=by kernel_rfl
abbrev HL:Nat:=65
theorem FU:Tryz.prog.funcs[65]?=some Tryz.f65:=Tryz.func65
theorem Gi:(Tryz.f65.name == "runtime.NumGoroutine" || Tryz.f65.body.isNone)=false:=by kernel_rfl
abbrev FR:Nat:=66
theorem my:Tryz.prog.funcs[66]?=some Tryz.f66:=Tryz.func66
theorem mE:(Tryz.f66.name == "runtime.NumGoroutine" || Tryz.f66.body.isNone)=false:=by kernel_rfl
abbrev rS:Nat:=67
theorem rI:Tryz.prog.funcs[67]?=some Tryz.f67:=Tryz.func67
theorem ru:(Tryz.f67.name == "runtime.NumGoroutine" || Tryz.f67.body.isNone)=false:=by kernel_rfl
abbrev jl:Nat:=68
theorem o3:Tryz.prog.funcs[68]?=some Tryz.f68:=Tryz.func68
theorem oA:(Tryz.f68.name == "runtime.NumGoroutine" || Tryz.f68.body.isNone)=false:=by kernel_rfl
abbrev zA:Nat:=69
theorem bY:Tryz.prog.funcs[69]?=some Tryz.f69:=Tryz.func69
theorem bX:(Tryz.f69.name == "runtime.NumGoroutine" || Tryz.f69.body.isNone)=false:=by kernel_rfl
abbrev DP:Nat:=70
theorem BB:Tryz.prog.funcs[70]?=some Tryz.f70:=Tryz.func70
theorem B7:(Tryz.f70.name == "runtime.NumGoroutine" || Tryz.f70.body.isNone)=false:=by kernel_rfl
abbrev G0:Nat:=71
theorem mw:Tryz.prog.funcs[71]?=some Tryz.f71:=Tryz.func71
theorem mS:(Tryz.f71.name == "runtime.NumGoroutine" || Tryz.f71.body.isNone)=false:=by kernel_rfl
abbrev Ic:Nat:=72
theorem G2:Tryz.prog.funcs[72]?=some Tryz.f72:=Tryz.func72
theorem Gu:(Tryz.f72.name == "runtime.NumGoroutine" || Tryz.f72.body.isNone)=false:=by kernel_rfl
abbrev Er:Nat:=73
theorem Bw:Tryz.prog.funcs[73]?=some Tryz.f73:=Tryz.func73
theorem Cf:(Tryz.f73.name == "runtime.NumGoroutine" || Tryz.f73.body.isNone)=false:=by kernel_rfl
abbrev mm:Nat:=74
theorem kO:Tryz.prog.funcs[74]?=some Tryz.f74:=Tryz.func74
theorem kM:(Tryz.f74.name == "runtime.NumGoroutine" || Tryz.f74.body.isNone)=false:=by kernel_rfl
abbrev Bj:Nat:=75
theorem yQ:Tryz.prog.funcs[75]?=some Tryz.f75:=Tryz.func75
theorem Ak:(Tryz.f75.name == "runtime.NumGoroutine" || Tryz.f75.body.isNone)=false:=by kernel_rfl
abbrev EW:Nat:=76
theorem iD:Tryz.prog.funcs[76]?=some Tryz.f76:=Tryz.func76
theorem iG:(Tryz.f76.name == "runtime.NumGoroutine" || Tryz.f76.body.isNone)=false:=by kernel_rfl
abbrev K9:Nat:=77
theorem qN:Tryz.prog.funcs[77]?=some Tryz.f77:=Tryz.func77
theorem rJ:(Tryz.f77.name == "runtime.NumGoroutine" || Tryz.f77.body.isNone)=false:=by kernel_rfl
abbrev rN:Nat:=78
theorem dN:Tryz.prog.funcs[78]?=some Tryz.f78:=Tryz.func78
theorem dL:(Tryz.f78.name == "runtime.NumGoroutine" || Tryz.f78.body.isNone)=false:=by kernel_rfl
abbrev El:Nat:=79
theorem BQ:Tryz.prog.funcs[79]?=some Tryz.f79:=Tryz.func79
theorem Bn:(Tryz.f79.name == "runtime.NumGoroutine" || Tryz.f79.body.isNone)=false:=by kernel_rfl
abbrev Bx:Nat:=80
theorem At:Tryz.prog.funcs[80]?=some Tryz.f80:=Tryz.func80
theorem zn:(Tryz.f80.name == "runtime.NumGoroutine" || Tryz.f80.body.isNone)=false:=by kernel_rfl
abbrev JI:Nat:=81
theorem G8:Tryz.prog.funcs[81]?=some Tryz.f81:=Tryz.func81
theorem Gq:(Tryz.f81.name == "runtime.NumGoroutine" || Tryz.f81.body.isNone)=false:=by kernel_rfl
abbrev rr:Nat:=82
theorem qa:Tryz.prog.funcs[82]?=some Tryz.f82:=Tryz.func82
theorem pL:(Tryz.f82.name == "runtime.NumGoroutine" || Tryz.f82.body.isNone)=false:=by kernel_rfl
abbrev qO:Nat:=83
theorem pQ:Tryz.prog.funcs[83]?=some Tryz.f83:=Tryz.func83
theorem pY:(Tryz.f83.name == "runtime.NumGoroutine" || Tryz.f83.body.isNone)=false:=by kernel_rfl
abbrev Bq:Nat:=84
theorem gS:Tryz.prog.funcs[84]?=some Tryz.f84:=Tryz.func84
theorem gY:(Tryz.f84.name == "runtime.NumGoroutine" || Tryz.f84.body.isNone)=false:=by kernel_rfl
abbrev HA:Nat:=85
theorem uo:Tryz.prog.funcs[85]?=some Tryz.f85:=Tryz.func85
theorem ut:(Tryz.f85.name == "runtime.NumGoroutine" || Tryz.f85.body.isNone)=false:=by kernel_rfl
abbrev MA:Nat:=86
theorem CV:Tryz.prog.funcs[86]?=some Tryz.f86:=Tryz.func86
theorem CF:(Tryz.f86.name == "runtime.NumGoroutine" || Tryz.f86.body.isNone)=false:=by kernel_rfl
abbrev n5:Nat:=87
theorem nG:Tryz.prog.funcs[87]?=some Tryz.f87:=Tryz.func87
theorem nK:(Tryz.f87.name == "runtime.NumGoroutine" || Tryz.f87.body.isNone)=false:=by kernel_rfl
abbrev Im:Nat:=88
theorem oZ:Tryz.prog.funcs[88]?=some Tryz.f88:=Tryz.func88
theorem oY:(Tryz.f88.name == "runtime.NumGoroutine" || Tryz.f88.body.isNone)=false:=by kernel_rfl
abbrev lP:Nat:=89
theorem sZ:Tryz.prog.funcs[89]?=some Tryz.f89:=Tryz.func89
theorem ue:(Tryz.f89.name == "runtime.NumGoroutine" || Tryz.f89.body.isNone)=false:=by kernel_rfl
abbrev IP:Nat:=90
theorem Fo:Tryz.prog.funcs[90]?=some Tryz.f90:=Tryz.func90
theorem HB:(Tryz.f90.name == "runtime.NumGoroutine" || Tryz.f90.body.isNone)=false:=by kernel_rfl
abbrev oN:Nat:=91
theorem nM:Tryz.prog.funcs[91]?=some Tryz.f91:=Tryz.func91
theorem nN:(Tryz.f91.name == "runtime.NumGoroutine" || Tryz.f91.body.isNone)=false:=by kernel_rfl
abbrev G4:Nat:=92
theorem jq:Tryz.prog.funcs[92]?=some Tryz.f92:=Tryz.func92
theorem jo:(Tryz.f92.name == "runtime.NumGoroutine" || Tryz.f92.body.isNone)=false:=by kernel_rfl
abbrev uC:Nat:=93
theorem sH:Tryz.prog.funcs[93]?=some Tryz.f93:=Tryz.func93
theorem tM:(Tryz.f93.name == "runtime.NumGoroutine" || Tryz.f93.body.isNone)=false:=by kernel_rfl
abbrev vq:Nat:=94
theorem kF:Tryz.prog.funcs[94]?=some Tryz.f94:=Tryz.func94
theorem kE:(Tryz.f94.name == "runtime.NumGoroutine" || Tryz.f94.body.isNone)=false:=by kernel_rfl
abbrev Kr:Nat:=95
theorem H1:Tryz.prog.funcs[95]?=some Tryz.f95:=Tryz.func95
theorem Jo:(Tryz.f95.name == "runtime.NumGoroutine" || Tryz.f95.body.isNone)=false:=by kernel_rfl
abbrev ym:Nat:=96
theorem lN:Tryz.prog.funcs[96]?=some Tryz.f96:=Tryz.func96
theorem mi:(Tryz.f96.name == "runtime.NumGoroutine" || Tryz.f96.body.isNone)=false:=by kernel_rfl
abbrev Fh:Nat:=97
theorem ms:Tryz.prog.funcs[97]?=some Tryz.f97:=Tryz.func97
theorem mW:(Tryz.f97.name == "runtime.NumGoroutine" || Tryz.f97.body.isNone)=false:=by kernel_rfl
abbrev H8:Nat:=98
theorem kX:Tryz.prog.funcs[98]?=some Tryz.f98:=Tryz.func98
theorem kB:(Tryz.f98.name == "runtime.NumGoroutine" || Tryz.f98.body.isNone)=false:=by kernel_rfl
abbrev Kp:Nat:=99
theorem I0:Tryz.prog.funcs[99]?=some Tryz.f99:=Tryz.func99
theorem Ja:(Tryz.f99.name == "runtime.NumGoroutine" || Tryz.f99.body.isNone)=false:=by kernel_rfl
abbrev DS:Nat:=100
theorem Bd:Tryz.prog.funcs[100]?=some Tryz.f100:=Tryz.func100
theorem BO:(Tryz.f100.name == "runtime.NumGoroutine" || Tryz.f100.body.isNone)=false:=by kernel_rfl
abbrev Ch:Nat:=101
theorem pl:Tryz.prog.funcs[101]?=some Tryz.f101:=Tryz.func101
theorem o4:(Tryz.f101.name == "runtime.NumGoroutine" || Tryz.f101.body.isNone)=false:=by kernel_rfl
abbrev Mv:Nat:=102
theorem KY:Tryz.prog.funcs[102]?=some Tryz.f102:=Tryz.func102
theorem Kv:(Tryz.f102.name == "runtime.NumGoroutine" || Tryz.f102.body.isNone)=false:=by kernel_rfl
abbrev He:Nat:=103
theorem uq:Tryz.prog.funcs[103]?=some Tryz.f103:=Tryz.func103
theorem tR:(Tryz.f103.name == "runtime.NumGoroutine" || Tryz.f103.body.isNone)=false:=by kernel_rfl
abbrev uQ:Nat:=104
theorem sU:Tryz.prog.funcs[104]?=some Tryz.f104:=Tryz.func104
theorem sb:(Tryz.f104.name == "runtime.NumGoroutine" || Tryz.f104.body.isNone)=false:=by kernel_rfl
abbrev zH:Nat:=105
theorem xx:Tryz.prog.funcs[105]?=some Tryz.f105:=Tryz.func105
theorem xm:(Tryz.f105.name == "runtime.NumGoroutine" || Tryz.f105.body.isNone)=false:=by kernel_rfl
abbrev EX:Nat:=106
theorem Bz:Tryz.prog.funcs[106]?=some Tryz.f106:=Tryz.func106
theorem Bk:(Tryz.f106.name == "runtime.NumGoroutine" || Tryz.f106.body.isNone)=false:=by kernel_rfl
abbrev IU:Nat:=107
theorem Hj:Tryz.prog.funcs[107]?=some Tryz.f107:=Tryz.func107
theorem Hu:(Tryz.f107.name == "runtime.NumGoroutine" || Tryz.f107.body.isNone)=false:=by kernel_rfl
abbrev yn:Nat:=108
theorem io:Tryz.prog.funcs[108]?=some Tryz.f108:=Tryz.func108
theorem iA:(Tryz.f108.name == "runtime.NumGoroutine" || Tryz.f108.body.isNone)=false:=by kernel_rfl
abbrev Mj:Nat:=109
theorem C3:Tryz.prog.funcs[109]?=some Tryz.f109:=Tryz.func109
theorem CX:(Tryz.f109.name == "runtime.NumGoroutine" || Tryz.f109.body.isNone)=false:=by kernel_rfl
abbrev rg:Nat:=110
theorem pZ:Tryz.prog.funcs[110]?=some Tryz.f110:=Tryz.func110
theorem pR:(Tryz.f110.name == "runtime.NumGoroutine" || Tryz.f110.body.isNone)=false:=by kernel_rfl
abbrev nW:Nat:=111
theorem ny:Tryz.prog.funcs[111]?=some Tryz.f111:=Tryz.func111
theorem nL:(Tryz.f111.name == "runtime.NumGoroutine" || Tryz.f111.body.isNone)=false:=by kernel_rfl
abbrev Ho:Nat:=112
theorem rZ:Tryz.prog.funcs[112]?=some Tryz.f112:=Tryz.func112
theorem se:(Tryz.f112.name == "runtime.NumGoroutine" || Tryz.f112.body.isNone)=false:=by kernel_rfl
abbrev BV:Nat:=113
theorem zK:Tryz.prog.funcs[113]?=some Tryz.f113:=Tryz.func113
theorem yV:(Tryz.f113.name == "runtime.NumGoroutine" || Tryz.f113.body.isNone)=false:=by kernel_rfl
abbrev xQ:Nat:=114
theorem vi:Tryz.prog.funcs[114]?=some Tryz.f114:=Tryz.func114
theorem vv:(Tryz.f114.name == "runtime.NumGoroutine" || Tryz.f114.body.isNone)=false:=by kernel_rfl
abbrev IW:Nat:=115
theorem Gp:Tryz.prog.funcs[115]?=some Tryz.f115:=Tryz.func115
theorem FO:(Tryz.f115.name == "runtime.NumGoroutine" || Tryz.f115.body.isNone)=false:=by kernel_rfl
abbrev Hv:Nat:=116
theorem DX:Tryz.prog.funcs[116]?=some Tryz.f116:=Tryz.func116
theorem Ds:(Tryz.f116.name == "runtime.NumGoroutine" || Tryz.f116.body.isNone)=false:=by kernel_rfl
abbrev DQ:Nat:=117
theorem BW:Tryz.prog.funcs[117]?=some Tryz.f117:=Tryz.func117
theorem Cr:(Tryz.f117.name == "runtime.NumGoroutine" || Tryz.f117.body.isNone)=false:=by kernel_rfl
abbrev EJ:Nat:=118
theorem iE:Tryz.prog.funcs[118]?=some Tryz.f118:=Tryz.func118
theorem iJ:(Tryz.f118.name == "runtime.NumGoroutine" || Tryz.f118.body.isNone)=false:=by kernel_rfl
abbrev IV:Nat:=119
theorem Hc:Tryz.prog.funcs[119]?=some Tryz.f119:=Tryz.func119
theorem Fz:(Tryz.f119.name == "runtime.NumGoroutine" || Tryz.f119.body.isNone)=false:=by kernel_rfl
abbrev xS:Nat:=120
theorem uF:Tryz.prog.funcs[120]?=some Tryz.f120:=Tryz.func120
theorem uL:(Tryz.f120.name == "runtime.NumGoroutine" || Tryz.f120.body.isNone)=false:=by kernel_rfl
abbrev FQ:Nat:=121
theorem D0:Tryz.prog.funcs[121]?=some Tryz.f121:=Tryz.func121
theorem Ej:(Tryz.f121.name == "runtime.NumGoroutine" || Tryz.f121.body.isNone)=false:=by kernel_rfl
abbrev ot:Nat:=122
theorem uf:Tryz.prog.funcs[122]?=some Tryz.f122:=Tryz.func122
theorem tC:(Tryz.f122.name == "runtime.NumGoroutine" || Tryz.f122.body.isNone)=false:=by kernel_rfl
abbrev AL:Nat:=123
theorem xN:Tryz.prog.funcs[123]?=some Tryz.f123:=Tryz.func123
theorem yk:(Tryz.f123.name == "runtime.NumGoroutine" || Tryz.f123.body.isNone)=false:=by kernel_rfl
abbrev Gt:Nat:=124
theorem tV:Tryz.prog.funcs[124]?=some Tryz.f124:=Tryz.func124
theorem um:(Tryz.f124.name == "runtime.NumGoroutine" || Tryz.f124.body.isNone)=false:=by kernel_rfl
abbrev FF:Nat:=125
theorem tc:Tryz.prog.funcs[125]?=some Tryz.f125:=Tryz.func125
theorem s6:(Tryz.f125.name == "runtime.NumGoroutine" || Tryz.f125.body.isNone)=false:=by kernel_rfl
abbrev Jk:Nat:=126
theorem pj:Tryz.prog.funcs[126]?=some Tryz.f126:=Tryz.func126
theorem og:(Tryz.f126.name == "runtime.NumGoroutine" || Tryz.f126.body.isNone)=false:=by kernel_rfl
abbrev Ck:Nat:=127
theorem A4:Tryz.prog.funcs[127]?=some Tryz.f127:=Tryz.func127
theorem Aa:(Tryz.f127.name == "runtime.NumGoroutine" || Tryz.f127.body.isNone)=false:=by kernel_rfl
abbrev HW:Nat:=128
theorem GU:Tryz.prog.funcs[128]?=some Tryz.f128:=Tryz.func128
theorem Gm:(Tryz.f128.name == "runtime.NumGoroutine" || Tryz.f128.body.isNone)=false:=by kernel_rfl
abbrev sI:Nat:=129
theorem Cq:Tryz.prog.funcs[129]?=some Tryz.f129:=Tryz.func129
theorem BX:(Tryz.f129.name == "runtime.NumGoroutine" || Tryz.f129.body.isNone)=false:=by kernel_rfl
abbrev tA:Nat:=130
theorem rM:Tryz.prog.funcs[130]?=some Tryz.f130:=Tryz.func130
theorem rb:(Tryz.f130.name == "runtime.NumGoroutine" || Tryz.f130.body.isNone)=false:=by kernel_rfl
abbrev Bh:Nat:=131
theorem yO:Tryz.prog.funcs[131]?=some Tryz.f131:=Tryz.func131
theorem zi:(Tryz.f131.name == "runtime.NumGoroutine" || Tryz.f131.body.isNone)=false:=by kernel_rfl
abbrev G1:Nat:=132
theorem E5:Tryz.prog.funcs[132]?=some Tryz.f132:=Tryz.func132
theorem DZ:(Tryz.f132.name == "runtime.NumGoroutine" || Tryz.f132.body.isNone)=false:=by kernel_rfl
abbrev HI:Nat:=133
theorem FS:Tryz.prog.funcs[133]?=some Tryz.f133:=Tryz.func133
theorem Hy:(Tryz.f133.name == "runtime.NumGoroutine" || Tryz.f133.body.isNone)=false:=by kernel_rfl
abbrev Bb:Nat:=134
theorem Ag:Tryz.prog.funcs[134]?=some Tryz.f134:=Tryz.func134
theorem yL:(Tryz.f134.name == "runtime.NumGoroutine" || Tryz.f134.body.isNone)=false:=by kernel_rfl
abbrev Ft:Nat:=135
theorem mM:Tryz.prog.funcs[135]?=some Tryz.f135:=Tryz.func135
theorem mB:(Tryz.f135.name == "runtime.NumGoroutine" || Tryz.f135.body.isNone)=false:=by kernel_rfl
abbrev FJ:Nat:=136
theorem EF:Tryz.prog.funcs[136]?=some Tryz.f136:=Tryz.func136
theorem D5:(Tryz.f136.name == "runtime.NumGoroutine" || Tryz.f136.body.isNone)=false:=by kernel_rfl
abbrev Bc:Nat:=137
theorem z5:Tryz.prog.funcs[137]?=some Tryz.f137:=Tryz.func137
theorem zX:(Tryz.f137.name == "runtime.NumGoroutine" || Tryz.f137.body.isNone)=false:=by kernel_rfl
abbrev md:Nat:=138
theorem sQ:Tryz.prog.funcs[138]?=some Tryz.f138:=Tryz.func138
theorem r7:(Tryz.f138.name == "runtime.NumGoroutine" || Tryz.f138.body.isNone)=false:=by kernel_rfl
abbrev B0:Nat:=139
theorem Ad:Tryz.prog.funcs[139]?=some Tryz.f139:=Tryz.func139
theorem Ba:(Tryz.f139.name == "runtime.NumGoroutine" || Tryz.f139.body.isNone)=false:=by kernel_rfl
abbrev zJ:Nat:=140
theorem vP:Tryz.prog.funcs[140]?=some Tryz.f140:=Tryz.func140
theorem xf:(Tryz.f140.name == "runtime.NumGoroutine" || Tryz.f140.body.isNone)=false:=by kernel_rfl
abbrev Jj:Nat:=141
theorem wH:Tryz.prog.funcs[141]?=some Tryz.f141:=Tryz.func141
theorem wO:(Tryz.f141.name == "runtime.NumGoroutine" || Tryz.f141.body.isNone)=false:=by kernel_rfl
abbrev Bv:Nat:=142
theorem pd:Tryz.prog.funcs[142]?=some Tryz.f142:=Tryz.func142
theorem pg:(Tryz.f142.name == "runtime.NumGoroutine" || Tryz.f142.body.isNone)=false:=by kernel_rfl
abbrev uB:Nat:=143
theorem kG:Tryz.prog.funcs[143]?=some Tryz.f143:=Tryz.func143
theorem kQ:(Tryz.f143.name == "runtime.NumGoroutine" || Tryz.f143.body.isNone)=false:=by kernel_rfl
abbrev Bu:Nat:=145
theorem o9:Tryz.prog.funcs[145]?=some Tryz.f145:=Tryz.func145
theorem oD:(Tryz.f145.name == "runtime.NumGoroutine" || Tryz.f145.body.isNone)=false:=by kernel_rfl
abbrev HH:Nat:=146
theorem gq:Tryz.prog.funcs[146]?=some Tryz.f146:=Tryz.func146
theorem gi:(Tryz.f146.name == "runtime.NumGoroutine" || Tryz.f146.body.isNone)=false:=by kernel_rfl
abbrev Ib:Nat:=147
theorem cU:Tryz.prog.funcs[147]?=some Tryz.f147:=Tryz.func147
theorem cT:(Tryz.f147.name == "runtime.NumGoroutine" || Tryz.f147.body.isNone)=false:=by kernel_rfl
abbrev GT:Nat:=148
theorem EC:Tryz.prog.funcs[148]?=some Tryz.f148:=Tryz.func148
theorem Dy:(Tryz.f148.name == "runtime.NumGoroutine" || Tryz.f148.body.isNone)=false:=by kernel_rfl
abbrev vC:Nat:=149
theorem sK:Tryz.prog.funcs[149]?=some Tryz.f149:=Tryz.func149
theorem si:(Tryz.f149.name == "runtime.NumGoroutine" || Tryz.f149.body.isNone)=false:=by kernel_rfl
abbrev Kk:Nat:=150
theorem ri:Tryz.prog.funcs[150]?=some Tryz.f150:=Tryz.func150
theorem qV:(Tryz.f150.name == "runtime.NumGoroutine" || Tryz.f150.body.isNone)=false:=by kernel_rfl
abbrev GF:Nat:=151
theorem gw:Tryz.prog.funcs[151]?=some Tryz.f151:=Tryz.func151
theorem gv:(Tryz.f151.name == "runtime.NumGoroutine" || Tryz.f151.body.isNone)=false:=by kernel_rfl
abbrev DF:Nat:=152
theorem Ct:Tryz.prog.funcs[152]?=some Tryz.f152:=Tryz.func152
theorem B6:(Tryz.f152.name == "runtime.NumGoroutine" || Tryz.f152.body.isNone)=false:=by kernel_rfl
abbrev HY:Nat:=154
theorem pq:Tryz.prog.funcs[154]?=some Tryz.f154:=Tryz.func154
theorem nR:(Tryz.f154.name == "runtime.NumGoroutine" || Tryz.f154.body.isNone)=false:=by kernel_rfl
abbrev Ae:Nat:=155
theorem Gd:Tryz.prog.funcs[155]?=some Tryz.f155:=Tryz.func155
theorem GS:(Tryz.f155.name == "runtime.NumGoroutine" || Tryz.f155.body.isNone)=false:=by kernel_rfl
abbrev AH:Nat:=156
theorem oj:Tryz.prog.funcs[156]?=some Tryz.f156:=Tryz.func156
theorem pD:(Tryz.f156.name == "runtime.NumGoroutine" || Tryz.f156.body.isNone)=false:=by kernel_rfl
abbrev KA:Nat:=157
theorem IJ:Tryz.prog.funcs[157]?=some Tryz.f157:=Tryz.func157
theorem Io:(Tryz.f157.name == "runtime.NumGoroutine" || Tryz.f157.body.isNone)=false:=by kernel_rfl
abbrev Fm:Nat:=158
theorem EI:Tryz.prog.funcs[158]?=some Tryz.f158:=Tryz.func158
theorem DW:(Tryz.f158.name == "runtime.NumGoroutine" || Tryz.f158.body.isNone)=false:=by kernel_rfl
abbrev ky:Nat:=159
theorem j5:Tryz.prog.funcs[159]?=some Tryz.f159:=Tryz.func159
theorem j1:(Tryz.f159.name == "runtime.NumGoroutine" || Tryz.f159.body.isNone)=false:=by kernel_rfl
abbrev xC:Nat:=160
theorem uS:Tryz.prog.funcs[160]?=some Tryz.f160:=Tryz.func160
theorem uI:(Tryz.f160.name == "runtime.NumGoroutine" || Tryz.f160.body.isNone)=false:=by kernel_rfl
abbrev HV:Nat:=161
theorem GN:Tryz.prog.funcs[161]?=some Tryz.f161:=Tryz.func161
theorem GC:(Tryz.f161.name == "runtime.NumGoroutine" || Tryz.f161.body.isNone)=false:=by kernel_rfl
abbrev IA:Nat:=162
theorem xd:Tryz.prog.funcs[162]?=some Tryz.f162:=Tryz.func162
theorem wQ:(Tryz.f162.name == "runtime.NumGoroutine" || Tryz.f162.body.isNone)=false:=by kernel_rfl
abbrev Ce:Nat:=163
theorem pm:Tryz.prog.funcs[163]?=some Tryz.f163:=Tryz.func163
theorem pk:(Tryz.f163.name == "runtime.NumGoroutine" || Tryz.f163.body.isNone)=false:=by kernel_rfl
abbrev FV:Nat:=164
theorem fO:Tryz.prog.funcs[164]?=some Tryz.f164:=Tryz.func164
theorem fL:(Tryz.f164.name == "runtime.NumGoroutine" || Tryz.f164.body.isNone)=false:=by kernel_rfl
abbrev KW:Nat:=165
theorem Ig:Tryz.prog.funcs[165]?=some Tryz.f165:=Tryz.func165
theorem IZ:(Tryz.f165.name == "runtime.NumGoroutine" || Tryz.f165.body.isNone)=false:=by kernel_rfl
abbrev Jp:Nat:=166
theorem ll:Tryz.prog.funcs[166]?=some Tryz.f166:=Tryz.func166
theorem kD:(Tryz.f166.name == "runtime.NumGoroutine" || Tryz.f166.body.isNone)=false:=by kernel_rfl
abbrev In:Nat:=167
theorem kV:Tryz.prog.funcs[167]?=some Tryz.f167:=Tryz.func167
theorem kR:(Tryz.f167.name == "runtime.NumGoroutine" || Tryz.f167.body.isNone)=false:=by kernel_rfl
abbrev IM:Nat:=168
theorem oW:Tryz.prog.funcs[168]?=some Tryz.f168:=Tryz.func168
theorem pz:(Tryz.f168.name == "runtime.NumGoroutine" || Tryz.f168.body.isNone)=false:=by kernel_rfl
abbrev EL:Nat:=169
theorem Bl:Tryz.prog.funcs[169]?=some Tryz.f169:=Tryz.func169
theorem BH:(Tryz.f169.name == "runtime.NumGoroutine" || Tryz.f169.body.isNone)=false:=by kernel_rfl
abbrev G9:Nat:=170
theorem Ff:Tryz.prog.funcs[170]?=some Tryz.f170:=Tryz.func170
theorem Em:(Tryz.f170.name == "runtime.NumGoroutine" || Tryz.f170.body.isNone)=false:=by kernel_rfl
abbrev L3:Nat:=171
theorem K5:Tryz.prog.funcs[171]?=some Tryz.f171:=Tryz.func171
theorem K0:(Tryz.f171.name == "runtime.NumGoroutine" || Tryz.f171.body.isNone)=false:=by kernel_rfl
abbrev H5:Nat:=172
theorem Fv:Tryz.prog.funcs[172]?=some Tryz.f172:=Tryz.func172
theorem GB:(Tryz.f172.name == "runtime.NumGoroutine" || Tryz.f172.body.isNone)=false:=by kernel_rfl
abbrev HC:Nat:=173
theorem Gg:Tryz.prog.funcs[173]?=some Tryz.f173:=Tryz.func173
theorem Hs:(Tryz.f173.name == "runtime.NumGoroutine" || Tryz.f173.body.isNone)=false:=by kernel_rfl
abbrev Hb:Nat:=174
theorem rW:Tryz.prog.funcs[174]?=some Tryz.f174:=Tryz.func174
theorem sj:(Tryz.f174.name == "runtime.NumGoroutine" || Tryz.f174.body.isNone)=false:=by kernel_rfl
abbrev Gs:Nat:=175
theorem r2:Tryz.prog.funcs[175]?=some Tryz.f175:=Tryz.func175
theorem tn:(Tryz.f175.name == "runtime.NumGoroutine" || Tryz.f175.body.isNone)=false:=by kernel_rfl
abbrev Fi:Nat:=176
theorem th:Tryz.prog.funcs[176]?=some Tryz.f176:=Tryz.func176
theorem rU:(Tryz.f176.name == "runtime.NumGoroutine" || Tryz.f176.body.isNone)=false:=by kernel_rfl
abbrev D7:Nat:=177
theorem Cn:Tryz.prog.funcs[177]?=some Tryz.f177:=Tryz.func177
theorem BS:(Tryz.f177.name == "runtime.NumGoroutine" || Tryz.f177.body.isNone)=false:=by kernel_rfl
abbrev Kc:Nat:=178
theorem I8:Tryz.prog.funcs[178]?=some Tryz.f178:=Tryz.func178
theorem HP:(Tryz.f178.name == "runtime.NumGoroutine" || Tryz.f178.body.isNone)=false:=by kernel_rfl
abbrev IL:Nat:=179
theorem lf:Tryz.prog.funcs[179]?=some Tryz.f179:=Tryz.func179
theorem kZ:(Tryz.f179.name == "runtime.NumGoroutine" || Tryz.f179.body.isNone)=false:=by kernel_rfl
abbrev BA:Nat:=181
theorem Ay:Tryz.prog.funcs[181]?=some Tryz.f181:=Tryz.func181
theorem yN:(Tryz.f181.name == "runtime.NumGoroutine" || Tryz.f181.body.isNone)=false:=by kernel_rfl
abbrev Ko:Nat:=184
theorem HD:Tryz.prog.funcs[184]?=some Tryz.f184:=Tryz.func184
theorem IE:(Tryz.f184.name == "runtime.NumGoroutine" || Tryz.f184.body.isNone)=false:=by kernel_rfl
abbrev Id:Nat:=185
theorem GJ:Tryz.prog.funcs[185]?=some Tryz.f185:=Tryz.func185
theorem FW:(Tryz.f185.name == "runtime.NumGoroutine" || Tryz.f185.body.isNone)=false:=by kernel_rfl
abbrev Hk:Nat:=187
theorem D6:Tryz.prog.funcs[187]?=some Tryz.f187:=Tryz.func187
theorem D2:(Tryz.f187.name == "runtime.NumGoroutine" || Tryz.f187.body.isNone)=false:=by kernel_rfl
abbrev FN:Nat:=188
theorem tu:Tryz.prog.funcs[188]?=some Tryz.f188:=Tryz.func188
theorem tt:(Tryz.f188.name == "runtime.NumGoroutine" || Tryz.f188.body.isNone)=false:=by kernel_rfl
abbrev HE:Nat:=189
theorem gj:Tryz.prog.funcs[189]?=some Tryz.f189:=Tryz.func189
theorem gk:(Tryz.f189.name == "runtime.NumGoroutine" || Tryz.f189.body.isNone)=false:=by kernel_rfl
abbrev Ia:Nat:=190
theorem wd:Tryz.prog.funcs[190]?=some Tryz.f190:=Tryz.func190
theorem wW:(Tryz.f190.name == "runtime.NumGoroutine" || Tryz.f190.body.isNone)=false:=by kernel_rfl
abbrev Ky:Nat:=191
theorem HK:Tryz.prog.funcs[191]?=some Tryz.f191:=Tryz.func191
theorem HG:(Tryz.f191.name == "runtime.NumGoroutine" || Tryz.f191.body.isNone)=false:=by kernel_rfl
abbrev KP:Nat:=192
theorem H2:Tryz.prog.funcs[192]?=some Tryz.f192:=Tryz.func192
theorem Iy:(Tryz.f192.name == "runtime.NumGoroutine" || Tryz.f192.body.isNone)=false:=by kernel_rfl
abbrev Jn:Nat:=194
theorem F0:Tryz.prog.funcs[194]?=some Tryz.f194:=Tryz.func194
theorem F2:(Tryz.f194.name == "runtime.NumGoroutine" || Tryz.f194.body.isNone)=false:=by kernel_rfl
abbrev Ht:Nat:=195
theorem sY:Tryz.prog.funcs[195]?=some Tryz.f195:=Tryz.func195
theorem sT:(Tryz.f195.name == "runtime.NumGoroutine" || Tryz.f195.body.isNone)=false:=by kernel_rfl
abbrev HF:Nat:=196
theorem Hr:Tryz.prog.funcs[196]?=some Tryz.f196:=Tryz.func196
theorem F7:(Tryz.f196.name == "runtime.NumGoroutine" || Tryz.f196.body.isNone)=false:=by kernel_rfl
abbrev Ex:Nat:=197
theorem BP:Tryz.prog.funcs[197]?=some Tryz.f197:=Tryz.func197
theorem B8:(Tryz.f197.name == "runtime.NumGoroutine" || Tryz.f197.body.isNone)=false:=by kernel_rfl
abbrev FM:Nat:=198
theorem DY:Tryz.prog.funcs[198]?=some Tryz.f198:=Tryz.func198
theorem EP:(Tryz.f198.name == "runtime.NumGoroutine" || Tryz.f198.body.isNone)=false:=by kernel_rfl
abbrev Ii:Nat:=199
theorem n9:Tryz.prog.funcs[199]?=some Tryz.f199:=Tryz.func199
theorem oS:(Tryz.f199.name == "runtime.NumGoroutine" || Tryz.f199.body.isNone)=false:=by kernel_rfl
abbrev Ij:Nat:=201
theorem xj:Tryz.prog.funcs[201]?=some Tryz.f201:=Tryz.func201
theorem wM:(Tryz.f201.name == "runtime.NumGoroutine" || Tryz.f201.body.isNone)=false:=by kernel_rfl
abbrev BT:Nat:=202
theorem nX:Tryz.prog.funcs[202]?=some Tryz.f202:=Tryz.func202
theorem nZ:(Tryz.f202.name == "runtime.NumGoroutine" || Tryz.f202.body.isNone)=false:=by kernel_rfl
abbrev Hl:Nat:=203
theorem Dw:Tryz.prog.funcs[203]?=some Tryz.f203:=Tryz.func203
theorem Ed:(Tryz.f203.name == "runtime.NumGoroutine" || Tryz.f203.body.isNone)=false:=by kernel_rfl

end Go.Proofs.YtemmhhdnlbmicaaGreat
