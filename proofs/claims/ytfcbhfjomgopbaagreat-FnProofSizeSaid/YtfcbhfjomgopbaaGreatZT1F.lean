/- Made by program: names for the numbers of functions and types, and closed facts on them. -/
import Derived.Test.YtfcbhfjomgopbaaGreatZT1S
import Derived.Test.YtfcbhfjomgopbaaGreatProg
import Derived.KernelRfl
namespace Go.Proofs.YtfcbhfjomgopbaaGreat
open Go
abbrev eW:Nat:=3
theorem aY:iw Tryz.prog 3=true:=by kernel_rfl
theorem Hf:gK Tryz.prog 3=some (.int .i64 0):=by kernel_rfl
theorem mX:Tryz.prog.underlying 3=some (.int .i64):=by kernel_rfl
abbrev Nh:Nat:=4
theorem BS:Tryz.prog.underlying 4=some .bool:=by kernel_rfl
abbrev CA:Nat:=5
theorem ya:iw Tryz.prog 5=true:=by kernel_rfl
theorem fq:Tryz.prog.underlying 5=some (.int .u8):=by kernel_rfl
abbrev hY:Nat:=9
theorem bn:iw Tryz.prog 9=true:=by kernel_rfl
theorem bl:Tryz.prog.underlying 9=some .string:=by kernel_rfl
theorem md:cw Tryz.prog 22=some (60,5):=by kernel_rfl
theorem Bu:iw Tryz.prog 23=true:=by kernel_rfl
theorem s3:cw Tryz.prog 23=some (25,4):=by kernel_rfl
theorem Ev:iH Tryz.prog 25=some 4:=by kernel_rfl
theorem Hi:bZ Tryz.prog 25 0=some 0:=by kernel_rfl
theorem GO:bZ Tryz.prog 25 1=some 1:=by kernel_rfl
theorem GH:bZ Tryz.prog 25 2=some 2:=by kernel_rfl
theorem Gg:bZ Tryz.prog 25 3=some 3:=by kernel_rfl
abbrev GR:Nat:=32
theorem lO:fB Tryz.prog 32=some (56,5,80,(.agg #[(.int .i64 0),(.int .i64 0),(.string ⟨#[]⟩),(.slice none 0 0),(.slice none 0 0)])):=by kernel_rfl
theorem fl:cw Tryz.prog 32=some (56,5):=by kernel_rfl
abbrev pO:Nat:=34
theorem aJ:iw Tryz.prog 34=true:=by kernel_rfl
theorem bO:fB Tryz.prog 34=some (36,4,56,(.agg #[(.int .i64 0),(.int .i64 0),(.string ⟨#[]⟩),(.slice none 0 0)])):=by kernel_rfl
theorem aC:cw Tryz.prog 34=some (36,4):=by kernel_rfl
abbrev ab:Nat:=36
theorem ai:iH Tryz.prog 36=some 4:=by kernel_rfl
theorem bH:gK Tryz.prog 36=some (.agg #[(.int .i64 0),(.int .i64 0),(.string ⟨#[]⟩),(.slice none 0 0)]):=by kernel_rfl
theorem bC:bZ Tryz.prog 36 0=some 0:=by kernel_rfl
theorem bF:bZ Tryz.prog 36 1=some 1:=by kernel_rfl
theorem bB:bZ Tryz.prog 36 2=some 2:=by kernel_rfl
theorem aK:bZ Tryz.prog 36 3=some 3:=by kernel_rfl
abbrev BP:Nat:=37
theorem bY:iw Tryz.prog 37=true:=by kernel_rfl
theorem fW:fB Tryz.prog 37=some (39,6,88,(.agg #[(.int .i64 0),(.int .i64 0),(.string ⟨#[]⟩),(.slice none 0 0),(.int .i64 0),(.slice none 0 0)])):=by kernel_rfl
theorem cA:cw Tryz.prog 37=some (39,6):=by kernel_rfl
abbrev au:Nat:=39
theorem bA:iH Tryz.prog 39=some 6:=by kernel_rfl
theorem dk:gK Tryz.prog 39=some (.agg #[(.int .i64 0),(.int .i64 0),(.string ⟨#[]⟩),(.slice none 0 0),(.int .i64 0),(.slice none 0 0)]):=by kernel_rfl
theorem fZ:bZ Tryz.prog 39 0=some 0:=by kernel_rfl
theorem fX:bZ Tryz.prog 39 1=some 4:=by kernel_rfl
theorem bQ:bZ Tryz.prog 39 2=some 5:=by kernel_rfl
abbrev FF:Nat:=44
theorem fY:iw Tryz.prog 44=true:=by kernel_rfl
theorem tp:fB Tryz.prog 44=some (5,1,1,(.int .u8 0)):=by kernel_rfl
theorem dL:cw Tryz.prog 44=some (5,1):=by kernel_rfl
abbrev Gk:Nat:=49
theorem gU:iw Tryz.prog 49=true:=by kernel_rfl
theorem nL:fB Tryz.prog 49=some (3,1,8,(.int .i64 0)):=by kernel_rfl
theorem cX:cw Tryz.prog 49=some (3,1):=by kernel_rfl
abbrev bw:Nat:=56
theorem cr:iH Tryz.prog 56=some 5:=by kernel_rfl
theorem fo:gK Tryz.prog 56=some (.agg #[(.int .i64 0),(.int .i64 0),(.string ⟨#[]⟩),(.slice none 0 0),(.slice none 0 0)]):=by kernel_rfl
theorem dt:bZ Tryz.prog 56 0=some 0:=by kernel_rfl
theorem cD:bZ Tryz.prog 56 1=some 4:=by kernel_rfl
theorem Ic:iH Tryz.prog 60=some 5:=by kernel_rfl
theorem CR:bZ Tryz.prog 60 0=some 0:=by kernel_rfl
theorem BW:bZ Tryz.prog 60 1=some 4:=by kernel_rfl
abbrev fK:Nat:=70
theorem nM:iw Tryz.prog 70=true:=by kernel_rfl
abbrev D2:Nat:=98
theorem eI:bZ Tryz.prog 98 0=some 0:=by kernel_rfl
theorem mq:bZ Tryz.prog 98 1=some 1:=by kernel_rfl
abbrev tQ:Nat:=120
theorem GF:iw Tryz.prog 120=true:=by kernel_rfl
theorem yY:fB Tryz.prog 120=some (9,1,16,(.string ⟨#[]⟩)):=by kernel_rfl
theorem ce:cw Tryz.prog 120=some (9,1):=by kernel_rfl
theorem eG:iw Tryz.prog 127=true:=by kernel_rfl
theorem mD:fB Tryz.prog 127=some (175,5,64,(.agg #[(.int .i64 0),(.int .i64 0),(.string ⟨#[]⟩),(.slice none 0 0),(.int .i64 0)])):=by kernel_rfl
theorem g6:cw Tryz.prog 127=some (175,5):=by kernel_rfl
theorem cP:iw Tryz.prog 128=true:=by kernel_rfl
theorem dC:fB Tryz.prog 128=some (180,7,128,(.agg #[(.int .i64 0),(.int .i64 0),(.string ⟨#[]⟩),(.slice none 0 0),(.slice none 0 0),(.slice none 0 0),(.slice none 0 0)])):=by kernel_rfl
theorem fM:cw Tryz.prog 128=some (180,7):=by kernel_rfl
abbrev bU:Nat:=130
theorem cb:iH Tryz.prog 130=some 3:=by kernel_rfl
theorem fx:gK Tryz.prog 130=some (.agg #[(.slice none 0 0),(.slice none 0 0),(.slice none 0 0)]):=by kernel_rfl
theorem eZ:bZ Tryz.prog 130 0=some 0:=by kernel_rfl
theorem gW:bZ Tryz.prog 130 1=some 1:=by kernel_rfl
theorem cQ:bZ Tryz.prog 130 2=some 2:=by kernel_rfl
abbrev nq:Nat:=132
theorem fG:iw Tryz.prog 132=true:=by kernel_rfl
theorem ek:fB Tryz.prog 132=some (183,6,72,(.agg #[(.int .i64 0),(.int .i64 0),(.string ⟨#[]⟩),(.slice none 0 0),(.int .i64 0),(.int .i64 0)])):=by kernel_rfl
theorem CZ:cw Tryz.prog 132=some (183,6):=by kernel_rfl
abbrev Du:Nat:=133
theorem fL:iw Tryz.prog 133=true:=by kernel_rfl
theorem gV:fB Tryz.prog 133=some (132,1,24,(.slice none 0 0)):=by kernel_rfl
theorem oW:cw Tryz.prog 133=some (132,1):=by kernel_rfl
abbrev aW:Nat:=135
theorem bj:iH Tryz.prog 135=some 5:=by kernel_rfl
theorem cV:gK Tryz.prog 135=some (.agg #[(.slice none 0 0),(.slice none 0 0),(.slice none 0 0),(.slice none 0 0),(.slice none 0 0)]):=by kernel_rfl
theorem bR:bZ Tryz.prog 135 0=some 0:=by kernel_rfl
theorem eV:bZ Tryz.prog 135 1=some 3:=by kernel_rfl
theorem eR:bZ Tryz.prog 135 2=some 4:=by kernel_rfl
theorem FP:cw Tryz.prog 169=some (120,1):=by kernel_rfl
abbrev gG:Nat:=175
theorem zc:iH Tryz.prog 175=some 5:=by kernel_rfl
theorem GM:gK Tryz.prog 175=some (.agg #[(.int .i64 0),(.int .i64 0),(.string ⟨#[]⟩),(.slice none 0 0),(.int .i64 0)]):=by kernel_rfl
theorem Ci:bZ Tryz.prog 175 0=some 0:=by kernel_rfl
abbrev cn:Nat:=180
theorem cR:iH Tryz.prog 180=some 7:=by kernel_rfl
theorem iy:gK Tryz.prog 180=some (.agg #[(.int .i64 0),(.int .i64 0),(.string ⟨#[]⟩),(.slice none 0 0),(.slice none 0 0),(.slice none 0 0),(.slice none 0 0)]):=by kernel_rfl
theorem i4:bZ Tryz.prog 180 0=some 0:=by kernel_rfl
theorem mZ:bZ Tryz.prog 180 1=some 4:=by kernel_rfl
theorem cO:bZ Tryz.prog 180 2=some 5:=by kernel_rfl
theorem iK:bZ Tryz.prog 180 3=some 6:=by kernel_rfl
abbrev fU:Nat:=183
theorem AH:bZ Tryz.prog 183 0=some 0:=by kernel_rfl
theorem AB:bZ Tryz.prog 183 1=some 4:=by kernel_rfl
theorem AL:bZ Tryz.prog 183 2=some 5:=by kernel_rfl
abbrev cT:Nat:=4
abbrev od:Nat:=12
theorem y6:Tryz.prog.funcs[12]?=some Tryz.f12:=Tryz.func12
theorem wX:(Tryz.f12.name == "runtime.NumGoroutine" || Tryz.f12.body.isNone)=false:=by kernel_rfl
abbrev pT:Nat:=17
theorem pB:Tryz.prog.funcs[17]?=some Tryz.f17:=Tryz.func17
theorem pD:(Tryz.f17.name == "runtime.NumGoroutine" || Tryz.f17.body.isNone)=false:=by kernel_rfl
abbrev zU:Nat:=18
theorem mx:Tryz.prog.funcs[18]?=some Tryz.f18:=Tryz.func18
theorem mS:(Tryz.f18.name == "runtime.NumGoroutine" || Tryz.f18.body.isNone)=false:=by kernel_rfl
abbrev Ah:Nat:=19
theorem mI:Tryz.prog.funcs[19]?=some Tryz.f19:=Tryz.func19
theorem m9:(Tryz.f19.name == "runtime.NumGoroutine" || Tryz.f19.body.isNone)=false:=by kernel_rfl
abbrev yu:Nat:=20
theorem vQ:Tryz.prog.funcs[20]?=some Tryz.f20:=Tryz.func20
theorem vP:(Tryz.f20.name == "runtime.NumGoroutine" || Tryz.f20.body.isNone)=false:=by kernel_rfl
abbrev zk:Nat:=31
theorem li:Tryz.prog.funcs[31]?=some Tryz.f31:=Tryz.func31
theorem lm:(Tryz.f31.name == "runtime.NumGoroutine" || Tryz.f31.body.isNone)=false:=by kernel_rfl
abbrev qF:Nat:=33
theorem o8:Tryz.prog.funcs[33]?=some Tryz.f33:=Tryz.func33
theorem oF:(Tryz.f33.name == "runtime.NumGoroutine" || Tryz.f33.body.isNone)=false:=by kernel_rfl
abbrev pn:Nat:=34
theorem mF:Tryz.prog.funcs[34]?=some Tryz.f34:=Tryz.func34
theorem mo:(Tryz.f34.name == "runtime.NumGoroutine" || Tryz.f34.body.isNone)=false:=by kernel_rfl
abbrev ph:Nat:=40
theorem nR:Tryz.prog.funcs[40]?=some Tryz.f40:=Tryz.func40
theorem nO:(Tryz.f40.name == "runtime.NumGoroutine" || Tryz.f40.body.isNone)=false:=by kernel_rfl
abbrev zV:Nat:=41
theorem iI:Tryz.prog.funcs[41]?=some Tryz.f41:=Tryz.func41
theorem iS:(Tryz.f41.name == "runtime.NumGoroutine" || Tryz.f41.body.isNone)=false:=by kernel_rfl
abbrev El:Nat:=42
theorem kB:Tryz.prog.funcs[42]?=some Tryz.f42:=Tryz.func42
theorem kY:(Tryz.f42.name == "runtime.NumGoroutine" || Tryz.f42.body.isNone)=false:=by kernel_rfl
abbrev FE:Nat:=45
theorem Cl:Tryz.prog.funcs[45]?=some Tryz.f45:=Tryz.func45
theorem BQ:(Tryz.f45.name == "runtime.NumGoroutine" || Tryz.f45.body.isNone)=false:=by kernel_rfl
abbrev ER:Nat:=46
theorem DC:Tryz.prog.funcs[46]?=some Tryz.f46:=Tryz.func46
theorem Cs:(Tryz.f46.name == "runtime.NumGoroutine" || Tryz.f46.body.isNone)=false:=by kernel_rfl
abbrev y8:Nat:=47
theorem ch:Tryz.prog.funcs[47]?=some Tryz.f47:=Tryz.func47
theorem ci:(Tryz.f47.name == "runtime.NumGoroutine" || Tryz.f47.body.isNone)=false:=by kernel_rfl
abbrev o4:Nat:=49
theorem nz:Tryz.prog.funcs[49]?=some Tryz.f49:=Tryz.func49
theorem nh:(Tryz.f49.name == "runtime.NumGoroutine" || Tryz.f49.body.isNone)=false:=by kernel_rfl
abbrev vy:Nat:=54
theorem tM:Tryz.prog.funcs[54]?=some Tryz.f54:=Tryz.func54
theorem tc:(Tryz.f54.name == "runtime.NumGoroutine" || Tryz.f54.body.isNone)=false:=by kernel_rfl
abbrev Cf:Nat:=55
theorem o7:Tryz.prog.funcs[55]?=some Tryz.f55:=Tryz.func55
theorem o6:(Tryz.f55.name == "runtime.NumGoroutine" || Tryz.f55.body.isNone)=false:=by kernel_rfl
abbrev mM:Nat:=57
theorem kw:Tryz.prog.funcs[57]?=some Tryz.f57:=Tryz.func57
theorem kI:(Tryz.f57.name == "runtime.NumGoroutine" || Tryz.f57.body.isNone)=false:=by kernel_rfl
abbrev FJ:Nat:=59
theorem rJ:Tryz.prog.funcs[59]?=some Tryz.f59:=Tryz.func59
theorem sx:(Tryz.f59.name == "runtime.NumGoroutine" || Tryz.f59.body.isNone)=false:=by kernel_rfl
abbrev JH:Nat:=61
theorem HZ:Tryz.prog.funcs[61]?=some Tryz.f61:=Tryz.func61
theorem GV:(Tryz.f61.name == "runtime.NumGoroutine" || Tryz.f61.body.isNone)=false:=by kernel_rfl
abbrev zW:Nat:=63
theorem xz:Tryz.prog.funcs[63]?=some Tryz.f63:=Tryz.func63
theorem y7:(Tryz.f63.name == "runtime.NumGoroutine" || Tryz.f63.body.isNone)=false:=by kernel_rfl
abbrev Hr:Nat:=64
theorem jj:Tryz.prog.funcs[64]?=some Tryz.f64:=Tryz.func64
theorem jm:(Tryz.f64.name == "runtime.NumGoroutine" || Tryz.f64.body.isNone)=false:=by kernel_rfl
abbrev kz:Nat:=65
theorem jT:Tryz.prog.funcs[65]?=some Tryz.f65:=Tryz.func65
theorem km:(Tryz.f65.name == "runtime.NumGoroutine" || Tryz.f65.body.isNone)=false:=by kernel_rfl
abbrev wE:Nat:=66
theorem tf:Tryz.prog.funcs[66]?=some Tryz.f66:=Tryz.func66
theorem sP:(Tryz.f66.name == "runtime.NumGoroutine" || Tryz.f66.body.isNone)=false:=by kernel_rfl
abbrev EB:Nat:=67
theorem CV:Tryz.prog.funcs[67]?=some Tryz.f67:=Tryz.func67
theorem De:(Tryz.f67.name == "runtime.NumGoroutine" || Tryz.f67.body.isNone)=false:=by kernel_rfl
abbrev Ez:Nat:=68
theorem BV:Tryz.prog.funcs[68]?=some Tryz.f68:=Tryz.func68
theorem DH:(Tryz.f68.name == "runtime.NumGoroutine" || Tryz.f68.body.isNone)=false:=by kernel_rfl
abbrev qe:Nat:=70
theorem dq:Tryz.prog.funcs[70]?=some Tryz.f70:=Tryz.func70
theorem dr:(Tryz.f70.name == "runtime.NumGoroutine" || Tryz.f70.body.isNone)=false:=by kernel_rfl
abbrev pi:Nat:=71
theorem eK:Tryz.prog.funcs[71]?=some Tryz.f71:=Tryz.func71
theorem eH:(Tryz.f71.name == "runtime.NumGoroutine" || Tryz.f71.body.isNone)=false:=by kernel_rfl
abbrev Av:Nat:=72
theorem eC:Tryz.prog.funcs[72]?=some Tryz.f72:=Tryz.func72
theorem eA:(Tryz.f72.name == "runtime.NumGoroutine" || Tryz.f72.body.isNone)=false:=by kernel_rfl
abbrev Di:Nat:=73
theorem AA:Tryz.prog.funcs[73]?=some Tryz.f73:=Tryz.func73
theorem zB:(Tryz.f73.name == "runtime.NumGoroutine" || Tryz.f73.body.isNone)=false:=by kernel_rfl
abbrev GW:Nat:=74
theorem jz:Tryz.prog.funcs[74]?=some Tryz.f74:=Tryz.func74
theorem jA:(Tryz.f74.name == "runtime.NumGoroutine" || Tryz.f74.body.isNone)=false:=by kernel_rfl
abbrev zD:Nat:=76
theorem yT:Tryz.prog.funcs[76]?=some Tryz.f76:=Tryz.func76
theorem xu:(Tryz.f76.name == "runtime.NumGoroutine" || Tryz.f76.body.isNone)=false:=by kernel_rfl
abbrev FD:Nat:=77
theorem Dm:Tryz.prog.funcs[77]?=some Tryz.f77:=Tryz.func77
theorem C4:(Tryz.f77.name == "runtime.NumGoroutine" || Tryz.f77.body.isNone)=false:=by kernel_rfl
abbrev zI:Nat:=79
theorem iJ:Tryz.prog.funcs[79]?=some Tryz.f79:=Tryz.func79
theorem iX:(Tryz.f79.name == "runtime.NumGoroutine" || Tryz.f79.body.isNone)=false:=by kernel_rfl
abbrev Aa:Nat:=80
theorem iV:Tryz.prog.funcs[80]?=some Tryz.f80:=Tryz.func80
theorem iR:(Tryz.f80.name == "runtime.NumGoroutine" || Tryz.f80.body.isNone)=false:=by kernel_rfl
abbrev DV:Nat:=81
theorem sG:Tryz.prog.funcs[81]?=some Tryz.f81:=Tryz.func81
theorem rU:(Tryz.f81.name == "runtime.NumGoroutine" || Tryz.f81.body.isNone)=false:=by kernel_rfl
abbrev Az:Nat:=82
theorem iZ:Tryz.prog.funcs[82]?=some Tryz.f82:=Tryz.func82
theorem iT:(Tryz.f82.name == "runtime.NumGoroutine" || Tryz.f82.body.isNone)=false:=by kernel_rfl
abbrev JR:Nat:=85
theorem yH:Tryz.prog.funcs[85]?=some Tryz.f85:=Tryz.func85
theorem yz:(Tryz.f85.name == "runtime.NumGoroutine" || Tryz.f85.body.isNone)=false:=by kernel_rfl
abbrev zY:Nat:=89
theorem yw:Tryz.prog.funcs[89]?=some Tryz.f89:=Tryz.func89
theorem wW:(Tryz.f89.name == "runtime.NumGoroutine" || Tryz.f89.body.isNone)=false:=by kernel_rfl
abbrev HG:Nat:=91
theorem EI:Tryz.prog.funcs[91]?=some Tryz.f91:=Tryz.func91
theorem DY:(Tryz.f91.name == "runtime.NumGoroutine" || Tryz.f91.body.isNone)=false:=by kernel_rfl
abbrev nX:Nat:=92
theorem l7:Tryz.prog.funcs[92]?=some Tryz.f92:=Tryz.func92
theorem mY:(Tryz.f92.name == "runtime.NumGoroutine" || Tryz.f92.body.isNone)=false:=by kernel_rfl
abbrev kj:Nat:=93
theorem jx:Tryz.prog.funcs[93]?=some Tryz.f93:=Tryz.func93
theorem jh:(Tryz.f93.name == "runtime.NumGoroutine" || Tryz.f93.body.isNone)=false:=by kernel_rfl
abbrev E8:Nat:=94
theorem qd:Tryz.prog.funcs[94]?=some Tryz.f94:=Tryz.func94
theorem qU:(Tryz.f94.name == "runtime.NumGoroutine" || Tryz.f94.body.isNone)=false:=by kernel_rfl
abbrev Dg:Nat:=95
theorem zR:Tryz.prog.funcs[95]?=some Tryz.f95:=Tryz.func95
theorem AG:(Tryz.f95.name == "runtime.NumGoroutine" || Tryz.f95.body.isNone)=false:=by kernel_rfl
abbrev HE:Nat:=96
theorem Eu:Tryz.prog.funcs[96]?=some Tryz.f96:=Tryz.func96
theorem FK:(Tryz.f96.name == "runtime.NumGoroutine" || Tryz.f96.body.isNone)=false:=by kernel_rfl
abbrev EP:Nat:=97
theorem CG:Tryz.prog.funcs[97]?=some Tryz.f97:=Tryz.func97
theorem BU:(Tryz.f97.name == "runtime.NumGoroutine" || Tryz.f97.body.isNone)=false:=by kernel_rfl
abbrev H7:Nat:=98
theorem FA:Tryz.prog.funcs[98]?=some Tryz.f98:=Tryz.func98
theorem DQ:(Tryz.f98.name == "runtime.NumGoroutine" || Tryz.f98.body.isNone)=false:=by kernel_rfl
abbrev Et:Nat:=99
theorem Cg:Tryz.prog.funcs[99]?=some Tryz.f99:=Tryz.func99
theorem Cd:(Tryz.f99.name == "runtime.NumGoroutine" || Tryz.f99.body.isNone)=false:=by kernel_rfl
abbrev Da:Nat:=100
theorem oh:Tryz.prog.funcs[100]?=some Tryz.f100:=Tryz.func100
theorem og:(Tryz.f100.name == "runtime.NumGoroutine" || Tryz.f100.body.isNone)=false:=by kernel_rfl
abbrev ot:Nat:=101
theorem na:Tryz.prog.funcs[101]?=some Tryz.f101:=Tryz.func101
theorem lQ:(Tryz.f101.name == "runtime.NumGoroutine" || Tryz.f101.body.isNone)=false:=by kernel_rfl
abbrev EK:Nat:=102
theorem ql:Tryz.prog.funcs[102]?=some Tryz.f102:=Tryz.func102
theorem rB:(Tryz.f102.name == "runtime.NumGoroutine" || Tryz.f102.body.isNone)=false:=by kernel_rfl
abbrev Gf:Nat:=103
theorem Fc:Tryz.prog.funcs[103]?=some Tryz.f103:=Tryz.func103
theorem FI:(Tryz.f103.name == "runtime.NumGoroutine" || Tryz.f103.body.isNone)=false:=by kernel_rfl
abbrev Dq:Nat:=105
theorem jG:Tryz.prog.funcs[105]?=some Tryz.f105:=Tryz.func105
theorem jH:(Tryz.f105.name == "runtime.NumGoroutine" || Tryz.f105.body.isNone)=false:=by kernel_rfl
abbrev Jv:Nat:=106
theorem kQ:Tryz.prog.funcs[106]?=some Tryz.f106:=Tryz.func106
theorem k3:(Tryz.f106.name == "runtime.NumGoroutine" || Tryz.f106.body.isNone)=false:=by kernel_rfl
abbrev Jj:Nat:=107
theorem zd:Tryz.prog.funcs[107]?=some Tryz.f107:=Tryz.func107
theorem yl:(Tryz.f107.name == "runtime.NumGoroutine" || Tryz.f107.body.isNone)=false:=by kernel_rfl
abbrev KK:Nat:=108
theorem Bw:Tryz.prog.funcs[108]?=some Tryz.f108:=Tryz.func108
theorem AV:(Tryz.f108.name == "runtime.NumGoroutine" || Tryz.f108.body.isNone)=false:=by kernel_rfl
abbrev zA:Nat:=109
theorem mf:Tryz.prog.funcs[109]?=some Tryz.f109:=Tryz.func109
theorem lR:(Tryz.f109.name == "runtime.NumGoroutine" || Tryz.f109.body.isNone)=false:=by kernel_rfl
abbrev K7:Nat:=110
theorem I6:Tryz.prog.funcs[110]?=some Tryz.f110:=Tryz.func110
theorem JJ:(Tryz.f110.name == "runtime.NumGoroutine" || Tryz.f110.body.isNone)=false:=by kernel_rfl
abbrev lL:Nat:=111
theorem kL:Tryz.prog.funcs[111]?=some Tryz.f111:=Tryz.func111
theorem kM:(Tryz.f111.name == "runtime.NumGoroutine" || Tryz.f111.body.isNone)=false:=by kernel_rfl
abbrev Hd:Nat:=113
theorem EF:Tryz.prog.funcs[113]?=some Tryz.f113:=Tryz.func113
theorem DX:(Tryz.f113.name == "runtime.NumGoroutine" || Tryz.f113.body.isNone)=false:=by kernel_rfl
abbrev FQ:Nat:=114
theorem sC:Tryz.prog.funcs[114]?=some Tryz.f114:=Tryz.func114
theorem qt:(Tryz.f114.name == "runtime.NumGoroutine" || Tryz.f114.body.isNone)=false:=by kernel_rfl
abbrev Gc:Nat:=115
theorem pX:Tryz.prog.funcs[115]?=some Tryz.f115:=Tryz.func115
theorem pN:(Tryz.f115.name == "runtime.NumGoroutine" || Tryz.f115.body.isNone)=false:=by kernel_rfl
abbrev GK:Nat:=116
theorem uv:Tryz.prog.funcs[116]?=some Tryz.f116:=Tryz.func116
theorem uI:(Tryz.f116.name == "runtime.NumGoroutine" || Tryz.f116.body.isNone)=false:=by kernel_rfl
abbrev Ew:Nat:=117
theorem eq:Tryz.prog.funcs[117]?=some Tryz.f117:=Tryz.func117
theorem ev:(Tryz.f117.name == "runtime.NumGoroutine" || Tryz.f117.body.isNone)=false:=by kernel_rfl
abbrev B0:Nat:=119
theorem oL:Tryz.prog.funcs[119]?=some Tryz.f119:=Tryz.func119
theorem oH:(Tryz.f119.name == "runtime.NumGoroutine" || Tryz.f119.body.isNone)=false:=by kernel_rfl
abbrev HY:Nat:=129
theorem FL:Tryz.prog.funcs[129]?=some Tryz.f129:=Tryz.func129
theorem FZ:(Tryz.f129.name == "runtime.NumGoroutine" || Tryz.f129.body.isNone)=false:=by kernel_rfl
abbrev vz:Nat:=130
theorem sV:Tryz.prog.funcs[130]?=some Tryz.f130:=Tryz.func130
theorem tk:(Tryz.f130.name == "runtime.NumGoroutine" || Tryz.f130.body.isNone)=false:=by kernel_rfl
abbrev G0:Nat:=131
theorem eJ:Tryz.prog.funcs[131]?=some Tryz.f131:=Tryz.func131
theorem eM:(Tryz.f131.name == "runtime.NumGoroutine" || Tryz.f131.body.isNone)=false:=by kernel_rfl
abbrev EE:Nat:=132
theorem C2:Tryz.prog.funcs[132]?=some Tryz.f132:=Tryz.func132
theorem Cn:(Tryz.f132.name == "runtime.NumGoroutine" || Tryz.f132.body.isNone)=false:=by kernel_rfl
abbrev yG:Nat:=133
theorem lf:Tryz.prog.funcs[133]?=some Tryz.f133:=Tryz.func133
theorem lw:(Tryz.f133.name == "runtime.NumGoroutine" || Tryz.f133.body.isNone)=false:=by kernel_rfl
abbrev uS:Nat:=134
theorem rC:Tryz.prog.funcs[134]?=some Tryz.f134:=Tryz.func134
theorem r7:(Tryz.f134.name == "runtime.NumGoroutine" || Tryz.f134.body.isNone)=false:=by kernel_rfl
abbrev EQ:Nat:=135
theorem r5:Tryz.prog.funcs[135]?=some Tryz.f135:=Tryz.func135
theorem pM:(Tryz.f135.name == "runtime.NumGoroutine" || Tryz.f135.body.isNone)=false:=by kernel_rfl
abbrev E0:Nat:=136
theorem ri:Tryz.prog.funcs[136]?=some Tryz.f136:=Tryz.func136
theorem qL:(Tryz.f136.name == "runtime.NumGoroutine" || Tryz.f136.body.isNone)=false:=by kernel_rfl
abbrev JU:Nat:=137
theorem Hn:Tryz.prog.funcs[137]?=some Tryz.f137:=Tryz.func137
theorem GI:(Tryz.f137.name == "runtime.NumGoroutine" || Tryz.f137.body.isNone)=false:=by kernel_rfl
abbrev Ga:Nat:=138
theorem Dk:Tryz.prog.funcs[138]?=some Tryz.f138:=Tryz.func138
theorem Dc:(Tryz.f138.name == "runtime.NumGoroutine" || Tryz.f138.body.isNone)=false:=by kernel_rfl
abbrev Do:Nat:=139
theorem oB:Tryz.prog.funcs[139]?=some Tryz.f139:=Tryz.func139
theorem oX:(Tryz.f139.name == "runtime.NumGoroutine" || Tryz.f139.body.isNone)=false:=by kernel_rfl
abbrev GN:Nat:=140
theorem ie:Tryz.prog.funcs[140]?=some Tryz.f140:=Tryz.func140
theorem g9:(Tryz.f140.name == "runtime.NumGoroutine" || Tryz.f140.body.isNone)=false:=by kernel_rfl
abbrev zC:Nat:=141
theorem wV:Tryz.prog.funcs[141]?=some Tryz.f141:=Tryz.func141
theorem xo:(Tryz.f141.name == "runtime.NumGoroutine" || Tryz.f141.body.isNone)=false:=by kernel_rfl
abbrev Gy:Nat:=142
theorem EJ:Tryz.prog.funcs[142]?=some Tryz.f142:=Tryz.func142
theorem FO:(Tryz.f142.name == "runtime.NumGoroutine" || Tryz.f142.body.isNone)=false:=by kernel_rfl
abbrev Gb:Nat:=143
theorem BX:Tryz.prog.funcs[143]?=some Tryz.f143:=Tryz.func143
theorem Dl:(Tryz.f143.name == "runtime.NumGoroutine" || Tryz.f143.body.isNone)=false:=by kernel_rfl
abbrev pf:Nat:=144
theorem n6:Tryz.prog.funcs[144]?=some Tryz.f144:=Tryz.func144
theorem nT:(Tryz.f144.name == "runtime.NumGoroutine" || Tryz.f144.body.isNone)=false:=by kernel_rfl
abbrev JB:Nat:=145
theorem Hc:Tryz.prog.funcs[145]?=some Tryz.f145:=Tryz.func145
theorem Gw:(Tryz.f145.name == "runtime.NumGoroutine" || Tryz.f145.body.isNone)=false:=by kernel_rfl
abbrev HI:Nat:=146
theorem vf:Tryz.prog.funcs[146]?=some Tryz.f146:=Tryz.func146
theorem uA:(Tryz.f146.name == "runtime.NumGoroutine" || Tryz.f146.body.isNone)=false:=by kernel_rfl
abbrev nZ:Nat:=147
theorem lX:Tryz.prog.funcs[147]?=some Tryz.f147:=Tryz.func147
theorem lZ:(Tryz.f147.name == "runtime.NumGoroutine" || Tryz.f147.body.isNone)=false:=by kernel_rfl
abbrev Gm:Nat:=151
theorem cF:Tryz.prog.funcs[151]?=some Tryz.f151:=Tryz.func151
theorem cG:(Tryz.f151.name == "runtime.NumGoroutine" || Tryz.f151.body.isNone)=false:=by kernel_rfl
abbrev DU:Nat:=152
theorem rF:Tryz.prog.funcs[152]?=some Tryz.f152:=Tryz.func152
theorem r8:(Tryz.f152.name == "runtime.NumGoroutine" || Tryz.f152.body.isNone)=false:=by kernel_rfl
abbrev sT:Nat:=153
theorem r4:Tryz.prog.funcs[153]?=some Tryz.f153:=Tryz.func153
theorem rG:(Tryz.f153.name == "runtime.NumGoroutine" || Tryz.f153.body.isNone)=false:=by kernel_rfl
abbrev Fh:Nat:=154
theorem CP:Tryz.prog.funcs[154]?=some Tryz.f154:=Tryz.func154
theorem Co:(Tryz.f154.name == "runtime.NumGoroutine" || Tryz.f154.body.isNone)=false:=by kernel_rfl
abbrev Lm:Nat:=155
theorem Jh:Tryz.prog.funcs[155]?=some Tryz.f155:=Tryz.func155
theorem Jq:(Tryz.f155.name == "runtime.NumGoroutine" || Tryz.f155.body.isNone)=false:=by kernel_rfl
abbrev zw:Nat:=156
theorem xm:Tryz.prog.funcs[156]?=some Tryz.f156:=Tryz.func156
theorem yf:(Tryz.f156.name == "runtime.NumGoroutine" || Tryz.f156.body.isNone)=false:=by kernel_rfl
abbrev xT:Nat:=157
theorem wb:Tryz.prog.funcs[157]?=some Tryz.f157:=Tryz.func157
theorem vR:(Tryz.f157.name == "runtime.NumGoroutine" || Tryz.f157.body.isNone)=false:=by kernel_rfl
abbrev FX:Nat:=158
theorem kT:Tryz.prog.funcs[158]?=some Tryz.f158:=Tryz.func158
theorem kN:(Tryz.f158.name == "runtime.NumGoroutine" || Tryz.f158.body.isNone)=false:=by kernel_rfl
abbrev Gz:Nat:=159
theorem vj:Tryz.prog.funcs[159]?=some Tryz.f159:=Tryz.func159
theorem u9:(Tryz.f159.name == "runtime.NumGoroutine" || Tryz.f159.body.isNone)=false:=by kernel_rfl
abbrev CS:Nat:=160
theorem Ax:Tryz.prog.funcs[160]?=some Tryz.f160:=Tryz.func160
theorem Ai:(Tryz.f160.name == "runtime.NumGoroutine" || Tryz.f160.body.isNone)=false:=by kernel_rfl
abbrev Hx:Nat:=161
theorem du:Tryz.prog.funcs[161]?=some Tryz.f161:=Tryz.func161
theorem dv:(Tryz.f161.name == "runtime.NumGoroutine" || Tryz.f161.body.isNone)=false:=by kernel_rfl
abbrev DN:Nat:=162
theorem eQ:Tryz.prog.funcs[162]?=some Tryz.f162:=Tryz.func162
theorem eO:(Tryz.f162.name == "runtime.NumGoroutine" || Tryz.f162.body.isNone)=false:=by kernel_rfl
abbrev EA:Nat:=163
theorem gh:Tryz.prog.funcs[163]?=some Tryz.f163:=Tryz.func163
theorem gq:(Tryz.f163.name == "runtime.NumGoroutine" || Tryz.f163.body.isNone)=false:=by kernel_rfl
abbrev JT:Nat:=164
theorem Hp:Tryz.prog.funcs[164]?=some Tryz.f164:=Tryz.func164
theorem H3:(Tryz.f164.name == "runtime.NumGoroutine" || Tryz.f164.body.isNone)=false:=by kernel_rfl
abbrev yQ:Nat:=165
theorem wt:Tryz.prog.funcs[165]?=some Tryz.f165:=Tryz.func165
theorem vO:(Tryz.f165.name == "runtime.NumGoroutine" || Tryz.f165.body.isNone)=false:=by kernel_rfl
abbrev Am:Nat:=166
theorem y5:Tryz.prog.funcs[166]?=some Tryz.f166:=Tryz.func166
theorem y4:(Tryz.f166.name == "runtime.NumGoroutine" || Tryz.f166.body.isNone)=false:=by kernel_rfl
abbrev GY:Nat:=167
theorem EX:Tryz.prog.funcs[167]?=some Tryz.f167:=Tryz.func167
theorem EV:(Tryz.f167.name == "runtime.NumGoroutine" || Tryz.f167.body.isNone)=false:=by kernel_rfl
abbrev Fl:Nat:=168
theorem C6:Tryz.prog.funcs[168]?=some Tryz.f168:=Tryz.func168
theorem CO:(Tryz.f168.name == "runtime.NumGoroutine" || Tryz.f168.body.isNone)=false:=by kernel_rfl
abbrev Ao:Nat:=169
theorem yR:Tryz.prog.funcs[169]?=some Tryz.f169:=Tryz.func169
theorem yI:(Tryz.f169.name == "runtime.NumGoroutine" || Tryz.f169.body.isNone)=false:=by kernel_rfl
abbrev xR:Nat:=170
theorem mK:Tryz.prog.funcs[170]?=some Tryz.f170:=Tryz.func170
theorem mO:(Tryz.f170.name == "runtime.NumGoroutine" || Tryz.f170.body.isNone)=false:=by kernel_rfl
abbrev tO:Nat:=171
theorem qA:Tryz.prog.funcs[171]?=some Tryz.f171:=Tryz.func171
theorem sf:(Tryz.f171.name == "runtime.NumGoroutine" || Tryz.f171.body.isNone)=false:=by kernel_rfl
abbrev GD:Nat:=173
theorem FT:Tryz.prog.funcs[173]?=some Tryz.f173:=Tryz.func173
theorem DW:(Tryz.f173.name == "runtime.NumGoroutine" || Tryz.f173.body.isNone)=false:=by kernel_rfl
abbrev Em:Nat:=175
theorem DK:Tryz.prog.funcs[175]?=some Tryz.f175:=Tryz.func175
theorem CT:(Tryz.f175.name == "runtime.NumGoroutine" || Tryz.f175.body.isNone)=false:=by kernel_rfl
abbrev Fe:Nat:=176
theorem ir:Tryz.prog.funcs[176]?=some Tryz.f176:=Tryz.func176
theorem iu:(Tryz.f176.name == "runtime.NumGoroutine" || Tryz.f176.body.isNone)=false:=by kernel_rfl
abbrev CX:Nat:=177
theorem Ar:Tryz.prog.funcs[177]?=some Tryz.f177:=Tryz.func177
theorem zH:(Tryz.f177.name == "runtime.NumGoroutine" || Tryz.f177.body.isNone)=false:=by kernel_rfl
abbrev Gv:Nat:=178
theorem uo:Tryz.prog.funcs[178]?=some Tryz.f178:=Tryz.func178
theorem uG:(Tryz.f178.name == "runtime.NumGoroutine" || Tryz.f178.body.isNone)=false:=by kernel_rfl
abbrev Es:Nat:=179
theorem rq:Tryz.prog.funcs[179]?=some Tryz.f179:=Tryz.func179
theorem sq:(Tryz.f179.name == "runtime.NumGoroutine" || Tryz.f179.body.isNone)=false:=by kernel_rfl
abbrev I0:Nat:=180
theorem HQ:Tryz.prog.funcs[180]?=some Tryz.f180:=Tryz.func180
theorem Gi:(Tryz.f180.name == "runtime.NumGoroutine" || Tryz.f180.body.isNone)=false:=by kernel_rfl
abbrev DF:Nat:=181
theorem zz:Tryz.prog.funcs[181]?=some Tryz.f181:=Tryz.func181
theorem Ae:(Tryz.f181.name == "runtime.NumGoroutine" || Tryz.f181.body.isNone)=false:=by kernel_rfl
abbrev K1:Nat:=182
theorem JO:Tryz.prog.funcs[182]?=some Tryz.f182:=Tryz.func182
theorem JD:(Tryz.f182.name == "runtime.NumGoroutine" || Tryz.f182.body.isNone)=false:=by kernel_rfl
abbrev EM:Nat:=183
theorem C9:Tryz.prog.funcs[183]?=some Tryz.f183:=Tryz.func183
theorem CK:(Tryz.f183.name == "runtime.NumGoroutine" || Tryz.f183.body.isNone)=false:=by kernel_rfl
abbrev Jb:Nat:=184
theorem Hj:Tryz.prog.funcs[184]?=some Tryz.f184:=Tryz.func184
theorem Hk:(Tryz.f184.name == "runtime.NumGoroutine" || Tryz.f184.body.isNone)=false:=by kernel_rfl
abbrev Ee:Nat:=185
theorem qD:Tryz.prog.funcs[185]?=some Tryz.f185:=Tryz.func185
theorem qm:(Tryz.f185.name == "runtime.NumGoroutine" || Tryz.f185.body.isNone)=false:=by kernel_rfl
abbrev GU:Nat:=187
theorem fp:Tryz.prog.funcs[187]?=some Tryz.f187:=Tryz.func187
theorem fw:(Tryz.f187.name == "runtime.NumGoroutine" || Tryz.f187.body.isNone)=false:=by kernel_rfl
abbrev Eo:Nat:=188
theorem sD:Tryz.prog.funcs[188]?=some Tryz.f188:=Tryz.func188
theorem rb:(Tryz.f188.name == "runtime.NumGoroutine" || Tryz.f188.body.isNone)=false:=by kernel_rfl
abbrev HX:Nat:=189
theorem Ft:Tryz.prog.funcs[189]?=some Tryz.f189:=Tryz.func189
theorem DP:(Tryz.f189.name == "runtime.NumGoroutine" || Tryz.f189.body.isNone)=false:=by kernel_rfl
abbrev E6:Nat:=190
theorem qP:Tryz.prog.funcs[190]?=some Tryz.f190:=Tryz.func190
theorem qH:(Tryz.f190.name == "runtime.NumGoroutine" || Tryz.f190.body.isNone)=false:=by kernel_rfl
abbrev FB:Nat:=191
theorem DG:Tryz.prog.funcs[191]?=some Tryz.f191:=Tryz.func191
theorem CJ:(Tryz.f191.name == "runtime.NumGoroutine" || Tryz.f191.body.isNone)=false:=by kernel_rfl
abbrev Ck:Nat:=192
theorem jJ:Tryz.prog.funcs[192]?=some Tryz.f192:=Tryz.func192
theorem jF:(Tryz.f192.name == "runtime.NumGoroutine" || Tryz.f192.body.isNone)=false:=by kernel_rfl
abbrev Jy:Nat:=193
theorem Gn:Tryz.prog.funcs[193]?=some Tryz.f193:=Tryz.func193
theorem HU:(Tryz.f193.name == "runtime.NumGoroutine" || Tryz.f193.body.isNone)=false:=by kernel_rfl
abbrev Ji:Nat:=194
theorem Ho:Tryz.prog.funcs[194]?=some Tryz.f194:=Tryz.func194
theorem Ig:(Tryz.f194.name == "runtime.NumGoroutine" || Tryz.f194.body.isNone)=false:=by kernel_rfl
abbrev Id:Nat:=195
theorem ma:Tryz.prog.funcs[195]?=some Tryz.f195:=Tryz.func195
theorem mr:(Tryz.f195.name == "runtime.NumGoroutine" || Tryz.f195.body.isNone)=false:=by kernel_rfl
abbrev HM:Nat:=196
theorem Fo:Tryz.prog.funcs[196]?=some Tryz.f196:=Tryz.func196
theorem EC:(Tryz.f196.name == "runtime.NumGoroutine" || Tryz.f196.body.isNone)=false:=by kernel_rfl
abbrev EY:Nat:=197
theorem qR:Tryz.prog.funcs[197]?=some Tryz.f197:=Tryz.func197
theorem sm:(Tryz.f197.name == "runtime.NumGoroutine" || Tryz.f197.body.isNone)=false:=by kernel_rfl
abbrev HW:Nat:=198
theorem Fv:Tryz.prog.funcs[198]?=some Tryz.f198:=Tryz.func198
theorem DO:(Tryz.f198.name == "runtime.NumGoroutine" || Tryz.f198.body.isNone)=false:=by kernel_rfl
abbrev DE:Nat:=199
theorem zN:Tryz.prog.funcs[199]?=some Tryz.f199:=Tryz.func199
theorem Aw:(Tryz.f199.name == "runtime.NumGoroutine" || Tryz.f199.body.isNone)=false:=by kernel_rfl
abbrev EG:Nat:=200
theorem Cp:Tryz.prog.funcs[200]?=some Tryz.f200:=Tryz.func200
theorem C5:(Tryz.f200.name == "runtime.NumGoroutine" || Tryz.f200.body.isNone)=false:=by kernel_rfl
abbrev Hv:Nat:=201
theorem mV:Tryz.prog.funcs[201]?=some Tryz.f201:=Tryz.func201
theorem mR:(Tryz.f201.name == "runtime.NumGoroutine" || Tryz.f201.body.isNone)=false:=by kernel_rfl
abbrev HP:Nat:=202
theorem Eg:Tryz.prog.funcs[202]?=some Tryz.f202:=Tryz.func202
theorem Fk:(Tryz.f202.name == "runtime.NumGoroutine" || Tryz.f202.body.isNone)=false:=by kernel_rfl
abbrev GA:Nat:=203
theorem Fb:Tryz.prog.funcs[203]?=some Tryz.f203:=Tryz.func203
theorem FW:(Tryz.f203.name == "runtime.NumGoroutine" || Tryz.f203.body.isNone)=false:=by kernel_rfl
abbrev Ja:Nat:=204
theorem HD:Tryz.prog.funcs[204]?=some Tryz.f204:=Tryz.func204
theorem Hg:(Tryz.f204.name == "runtime.NumGoroutine" || Tryz.f204.body.isNone)=false:=by kernel_rfl
abbrev HL:Nat:=205
theorem uU:Tryz.prog.funcs[205]?=some Tryz.f205:=Tryz.func205
theorem ui:(Tryz.f205.name == "runtime.NumGoroutine" || Tryz.f205.body.isNone)=false:=by kernel_rfl
abbrev At:Nat:=206
theorem mp:Tryz.prog.funcs[206]?=some Tryz.f206:=Tryz.func206
theorem mH:(Tryz.f206.name == "runtime.NumGoroutine" || Tryz.f206.body.isNone)=false:=by kernel_rfl
abbrev Eh:Nat:=207
theorem Dr:Tryz.prog.funcs[207]?=some Tryz.f207:=Tryz.func207
theorem CQ:(Tryz.f207.name == "runtime.NumGoroutine" || Tryz.f207.body.isNone)=false:=by kernel_rfl
abbrev Dy:Nat:=208
theorem zM:Tryz.prog.funcs[208]?=some Tryz.f208:=Tryz.func208
theorem zt:(Tryz.f208.name == "runtime.NumGoroutine" || Tryz.f208.body.isNone)=false:=by kernel_rfl
abbrev IY:Nat:=209
theorem HC:Tryz.prog.funcs[209]?=some Tryz.f209:=Tryz.func209
theorem H8:(Tryz.f209.name == "runtime.NumGoroutine" || Tryz.f209.body.isNone)=false:=by kernel_rfl
abbrev Ib:Nat:=211
theorem uD:Tryz.prog.funcs[211]?=some Tryz.f211:=Tryz.func211
theorem uL:(Tryz.f211.name == "runtime.NumGoroutine" || Tryz.f211.body.isNone)=false:=by kernel_rfl

end Go.Proofs.YtfcbhfjomgopbaaGreat
