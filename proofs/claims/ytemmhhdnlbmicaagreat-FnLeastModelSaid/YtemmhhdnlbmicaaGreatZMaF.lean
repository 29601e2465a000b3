/- Made by program: names for the numbers of functions and types, and closed facts on them. -/
import Derived.Test.YtemmhhdnlbmicaaGreatZMaS
import Derived.Test.YtemmhhdnlbmicaaGreatProg
import Derived.KernelRfl
namespace Go.Proofs.YtemmhhdnlbmicaaGreat
open Go
abbrev fx:Nat:=3
theorem bn:pf Tryz.prog 3=true:=by kernel_rfl
theorem Pc:iE Tryz.prog 3=some (.int .i64 0):=by kernel_rfl
theorem kM:Tryz.prog.underlying 3=some (.int .i64):=by kernel_rfl
abbrev l0:Nat:=4
theorem jK:Tryz.prog.underlying 4=some .bool:=by kernel_rfl
abbrev D7:Nat:=5
theorem At:pf Tryz.prog 5=true:=by kernel_rfl
theorem gz:Tryz.prog.underlying 5=some (.int .u8):=by kernel_rfl
abbrev i9:Nat:=9
theorem bm:pf Tryz.prog 9=true:=by kernel_rfl
theorem bi:Tryz.prog.underlying 9=some .string:=by kernel_rfl
abbrev Hg:Nat:=22
theorem g9:pf Tryz.prog 22=true:=by kernel_rfl
theorem vX:oY Tryz.prog 22=some (5,1,1,(.int .u8 0)):=by kernel_rfl
theorem dU:dD Tryz.prog 22=some (5,1):=by kernel_rfl
abbrev cg:Nat:=23
theorem aQ:pf Tryz.prog 23=true:=by kernel_rfl
theorem bM:oY Tryz.prog 23=some (25,4,56,(.agg #[(.int .i64 0),(.int .i64 0),(.string ⟨#[]⟩),(.slice none 0 0)])):=by kernel_rfl
theorem av:dD Tryz.prog 23=some (25,4):=by kernel_rfl
abbrev ac:Nat:=25
theorem al:wg Tryz.prog 25=some 4:=by kernel_rfl
theorem bN:iE Tryz.prog 25=some (.agg #[(.int .i64 0),(.int .i64 0),(.string ⟨#[]⟩),(.slice none 0 0)]):=by kernel_rfl
theorem bD:fB Tryz.prog 25 0=some 0:=by kernel_rfl
theorem bI:fB Tryz.prog 25 1=some 1:=by kernel_rfl
theorem bo:fB Tryz.prog 25 2=some 2:=by kernel_rfl
theorem aS:fB Tryz.prog 25 3=some 3:=by kernel_rfl
theorem jb:oY Tryz.prog 32=some (39,5,80,(.agg #[(.int .i64 0),(.int .i64 0),(.string ⟨#[]⟩),(.slice none 0 0),(.slice none 0 0)])):=by kernel_rfl
theorem c4:dD Tryz.prog 32=some (39,5):=by kernel_rfl
abbrev aR:Nat:=39
theorem bF:wg Tryz.prog 39=some 5:=by kernel_rfl
theorem eL:iE Tryz.prog 39=some (.agg #[(.int .i64 0),(.int .i64 0),(.string ⟨#[]⟩),(.slice none 0 0),(.slice none 0 0)]):=by kernel_rfl
theorem dh:fB Tryz.prog 39 0=some 0:=by kernel_rfl
theorem bp:fB Tryz.prog 39 1=some 4:=by kernel_rfl
abbrev uo:Nat:=56
theorem lS:Tryz.prog.underlying 59=some (.map 3 25):=by kernel_rfl
abbrev DA:Nat:=67
theorem Bq:oY Tryz.prog 67=some (9,1,16,(.string ⟨#[]⟩)):=by kernel_rfl
theorem dd:dD Tryz.prog 67=some (9,1):=by kernel_rfl
abbrev rX:Nat:=71
theorem Lb:pf Tryz.prog 71=true:=by kernel_rfl
theorem OS:iE Tryz.prog 71=some (.slice none 0 0):=by kernel_rfl
theorem p9:oY Tryz.prog 71=some (3,1,8,(.int .i64 0)):=by kernel_rfl
theorem fU:dD Tryz.prog 71=some (3,1):=by kernel_rfl
abbrev HG:Nat:=78
theorem fO:fB Tryz.prog 78 0=some 0:=by kernel_rfl
theorem oF:fB Tryz.prog 78 1=some 1:=by kernel_rfl
abbrev mU:Nat:=91
theorem FK:pf Tryz.prog 91=true:=by kernel_rfl
abbrev dB:Nat:=4
abbrev dK:Nat:=6
abbrev dL:Nat:=7
abbrev Hw:Nat:=11
theorem h8:Tryz.prog.funcs[11]?=some Tryz.f11:=Tryz.func11
theorem ic:(Tryz.f11.name == "runtime.NumGoroutine" || Tryz.f11.body.isNone)=false:=by kernel_rfl
abbrev wx:Nat:=14
theorem vf:Tryz.prog.funcs[14]?=some Tryz.f14:=Tryz.func14
theorem uY:(Tryz.f14.name == "runtime.NumGoroutine" || Tryz.f14.body.isNone)=false:=by kernel_rfl
abbrev yQ:Nat:=15
theorem iD:Tryz.prog.funcs[15]?=some Tryz.f15:=Tryz.func15
theorem iz:(Tryz.f15.name == "runtime.NumGoroutine" || Tryz.f15.body.isNone)=false:=by kernel_rfl
abbrev EO:Nat:=16
theorem qZ:Tryz.prog.funcs[16]?=some Tryz.f16:=Tryz.func16
theorem rg:(Tryz.f16.name == "runtime.NumGoroutine" || Tryz.f16.body.isNone)=false:=by kernel_rfl
abbrev z8:Nat:=17
theorem nu:Tryz.prog.funcs[17]?=some Tryz.f17:=Tryz.func17
theorem nJ:(Tryz.f17.name == "runtime.NumGoroutine" || Tryz.f17.body.isNone)=false:=by kernel_rfl
abbrev yp:Nat:=18
theorem iK:Tryz.prog.funcs[18]?=some Tryz.f18:=Tryz.func18
theorem iH:(Tryz.f18.name == "runtime.NumGoroutine" || Tryz.f18.body.isNone)=false:=by kernel_rfl
abbrev Eh:Nat:=19
theorem BT:Tryz.prog.funcs[19]?=some Tryz.f19:=Tryz.func19
theorem Cm:(Tryz.f19.name == "runtime.NumGoroutine" || Tryz.f19.body.isNone)=false:=by kernel_rfl
abbrev yV:Nat:=20
theorem ws:Tryz.prog.funcs[20]?=some Tryz.f20:=Tryz.func20
theorem wz:(Tryz.f20.name == "runtime.NumGoroutine" || Tryz.f20.body.isNone)=false:=by kernel_rfl
abbrev sx:Nat:=21
theorem qH:Tryz.prog.funcs[21]?=some Tryz.f21:=Tryz.func21
theorem qy:(Tryz.f21.name == "runtime.NumGoroutine" || Tryz.f21.body.isNone)=false:=by kernel_rfl
abbrev AE:Nat:=22
theorem yN:Tryz.prog.funcs[22]?=some Tryz.f22:=Tryz.func22
theorem zl:(Tryz.f22.name == "runtime.NumGoroutine" || Tryz.f22.body.isNone)=false:=by kernel_rfl
abbrev vD:Nat:=23
theorem lK:Tryz.prog.funcs[23]?=some Tryz.f23:=Tryz.func23
theorem ll:(Tryz.f23.name == "runtime.NumGoroutine" || Tryz.f23.body.isNone)=false:=by kernel_rfl
abbrev rV:Nat:=24
theorem qj:Tryz.prog.funcs[24]?=some Tryz.f24:=Tryz.func24
theorem qr:(Tryz.f24.name == "runtime.NumGoroutine" || Tryz.f24.body.isNone)=false:=by kernel_rfl
abbrev BB:Nat:=25
theorem gY:Tryz.prog.funcs[25]?=some Tryz.f25:=Tryz.func25
theorem gW:(Tryz.f25.name == "runtime.NumGoroutine" || Tryz.f25.body.isNone)=false:=by kernel_rfl
abbrev AN:Nat:=26
theorem nO:Tryz.prog.funcs[26]?=some Tryz.f26:=Tryz.func26
theorem nt:(Tryz.f26.name == "runtime.NumGoroutine" || Tryz.f26.body.isNone)=false:=by kernel_rfl
abbrev JC:Nat:=27
theorem H1:Tryz.prog.funcs[27]?=some Tryz.f27:=Tryz.func27
theorem HP:(Tryz.f27.name == "runtime.NumGoroutine" || Tryz.f27.body.isNone)=false:=by kernel_rfl
abbrev wQ:Nat:=28
theorem sH:Tryz.prog.funcs[28]?=some Tryz.f28:=Tryz.func28
theorem uL:(Tryz.f28.name == "runtime.NumGoroutine" || Tryz.f28.body.isNone)=false:=by kernel_rfl
abbrev yr:Nat:=29
theorem vL:Tryz.prog.funcs[29]?=some Tryz.f29:=Tryz.func29
theorem wa:(Tryz.f29.name == "runtime.NumGoroutine" || Tryz.f29.body.isNone)=false:=by kernel_rfl
abbrev HS:Nat:=32
theorem tV:Tryz.prog.funcs[32]?=some Tryz.f32:=Tryz.func32
theorem sR:(Tryz.f32.name == "runtime.NumGoroutine" || Tryz.f32.body.isNone)=false:=by kernel_rfl
abbrev zV:Nat:=33
theorem nP:Tryz.prog.funcs[33]?=some Tryz.f33:=Tryz.func33
theorem nG:(Tryz.f33.name == "runtime.NumGoroutine" || Tryz.f33.body.isNone)=false:=by kernel_rfl
abbrev Fz:Nat:=34
theorem qN:Tryz.prog.funcs[34]?=some Tryz.f34:=Tryz.func34
theorem rl:(Tryz.f34.name == "runtime.NumGoroutine" || Tryz.f34.body.isNone)=false:=by kernel_rfl
abbrev xj:Nat:=36
theorem tL:Tryz.prog.funcs[36]?=some Tryz.f36:=Tryz.func36
theorem uF:(Tryz.f36.name == "runtime.NumGoroutine" || Tryz.f36.body.isNone)=false:=by kernel_rfl
abbrev Aj:Nat:=38
theorem yt:Tryz.prog.funcs[38]?=some Tryz.f38:=Tryz.func38
theorem yX:(Tryz.f38.name == "runtime.NumGoroutine" || Tryz.f38.body.isNone)=false:=by kernel_rfl
abbrev jB:Nat:=40
theorem gR:Tryz.prog.funcs[40]?=some Tryz.f40:=Tryz.func40
theorem gT:(Tryz.f40.name == "runtime.NumGoroutine" || Tryz.f40.body.isNone)=false:=by kernel_rfl
abbrev rR:Nat:=42
theorem fi:Tryz.prog.funcs[42]?=some Tryz.f42:=Tryz.func42
theorem fj:(Tryz.f42.name == "runtime.NumGoroutine" || Tryz.f42.body.isNone)=false:=by kernel_rfl
abbrev BV:Nat:=43
theorem gx:Tryz.prog.funcs[43]?=some Tryz.f43:=Tryz.func43
theorem gw:(Tryz.f43.name == "runtime.NumGoroutine" || Tryz.f43.body.isNone)=false:=by kernel_rfl
abbrev FR:Nat:=44
theorem qT:Tryz.prog.funcs[44]?=some Tryz.f44:=Tryz.func44
theorem rq:(Tryz.f44.name == "runtime.NumGoroutine" || Tryz.f44.body.isNone)=false:=by kernel_rfl
abbrev qA:Nat:=45
theorem jf:Tryz.prog.funcs[45]?=some Tryz.f45:=Tryz.func45
theorem i8:(Tryz.f45.name == "runtime.NumGoroutine" || Tryz.f45.body.isNone)=false:=by kernel_rfl
abbrev mr:Nat:=46
theorem fp:Tryz.prog.funcs[46]?=some Tryz.f46:=Tryz.func46
theorem fo:(Tryz.f46.name == "runtime.NumGoroutine" || Tryz.f46.body.isNone)=false:=by kernel_rfl
abbrev lJ:Nat:=47
theorem rM:Tryz.prog.funcs[47]?=some Tryz.f47:=Tryz.func47
theorem rY:(Tryz.f47.name == "runtime.NumGoroutine" || Tryz.f47.body.isNone)=false:=by kernel_rfl
abbrev zT:Nat:=48
theorem zi:Tryz.prog.funcs[48]?=some Tryz.f48:=Tryz.func48
theorem y8:(Tryz.f48.name == "runtime.NumGoroutine" || Tryz.f48.body.isNone)=false:=by kernel_rfl
abbrev Kd:Nat:=49
theorem yl:Tryz.prog.funcs[49]?=some Tryz.f49:=Tryz.func49
theorem wU:(Tryz.f49.name == "runtime.NumGoroutine" || Tryz.f49.body.isNone)=false:=by kernel_rfl
abbrev vy:Nat:=50
theorem kW:Tryz.prog.funcs[50]?=some Tryz.f50:=Tryz.func50
theorem lc:(Tryz.f50.name == "runtime.NumGoroutine" || Tryz.f50.body.isNone)=false:=by kernel_rfl
abbrev CM:Nat:=51
theorem zQ:Tryz.prog.funcs[51]?=some Tryz.f51:=Tryz.func51
theorem Bh:(Tryz.f51.name == "runtime.NumGoroutine" || Tryz.f51.body.isNone)=false:=by kernel_rfl
abbrev Eb:Nat:=52
theorem rc:Tryz.prog.funcs[52]?=some Tryz.f52:=Tryz.func52
theorem q4:(Tryz.f52.name == "runtime.NumGoroutine" || Tryz.f52.body.isNone)=false:=by kernel_rfl
abbrev gj:Nat:=53
theorem rG:Tryz.prog.funcs[53]?=some Tryz.f53:=Tryz.func53
theorem r7:(Tryz.f53.name == "runtime.NumGoroutine" || Tryz.f53.body.isNone)=false:=by kernel_rfl
abbrev GZ:Nat:=54
theorem jz:Tryz.prog.funcs[54]?=some Tryz.f54:=Tryz.func54
theorem jF:(Tryz.f54.name == "runtime.NumGoroutine" || Tryz.f54.body.isNone)=false:=by kernel_rfl
abbrev qc:Nat:=55
theorem o6:Tryz.prog.funcs[55]?=some Tryz.f55:=Tryz.func55
theorem oA:(Tryz.f55.name == "runtime.NumGoroutine" || Tryz.f55.body.isNone)=false:=by kernel_rfl
abbrev kY:Nat:=56
theorem ss:Tryz.prog.funcs[56]?=some Tryz.f56:=Tryz.func56
theorem sy:(Tryz.f56.name == "runtime.NumGoroutine" || Tryz.f56.body.isNone)=false:=by kernel_rfl
abbrev nR:Nat:=57
theorem dk:Tryz.prog.funcs[57]?=some Tryz.f57:=Tryz.func57
theorem dq:(Tryz.f57.name == "runtime.NumGoroutine" || Tryz.f57.body.isNone)=false:=by kernel_rfl
abbrev kP:Nat:=58
theorem qt:Tryz.prog.funcs[58]?=some Tryz.f58:=Tryz.func58
theorem qi:(Tryz.f58.name == "runtime.NumGoroutine" || Tryz.f58.body.isNone)=false:=by kernel_rfl
abbrev yR:Nat:=59
theorem wK:Tryz.prog.funcs[59]?=some Tryz.f59:=Tryz.func59
theorem vm:(Tryz.f59.name == "runtime.NumGoroutine" || Tryz.f59.body.isNone)=false:=by kernel_rfl
abbrev yy:Nat:=60
theorem mw:Tryz.prog.funcs[60]?=some Tryz.f60:=Tryz.func60
theorem ml:(Tryz.f60.name == "runtime.NumGoroutine" || Tryz.f60.body.isNone)=false:=by kernel_rfl
abbrev CY:Nat:=61
theorem fG:Tryz.prog.funcs[61]?=some Tryz.f61:=Tryz.func61
theorem fC:(Tryz.f61.name == "runtime.NumGoroutine" || Tryz.f61.body.isNone)=false:=by kernel_rfl
abbrev HK:Nat:=62
theorem FD:Tryz.prog.funcs[62]?=some Tryz.f62:=Tryz.func62
theorem FG:(Tryz.f62.name == "runtime.NumGoroutine" || Tryz.f62.body.isNone)=false:=by kernel_rfl
abbrev g8:Nat:=63
theorem jP:Tryz.prog.funcs[63]?=some Tryz.f63:=Tryz.func63
theorem jE:(Tryz.f63.name == "runtime.NumGoroutine" || Tryz.f63.body.isNone)=false:=by kernel_rfl
abbrev kZ:Nat:=64
theorem sC:Tryz.prog.funcs[64]?=some Tryz.f64:=Tryz.func64
theorem sB:(Tryz.f64.name == "runtime.NumGoroutine" || Tryz.f64.body.isNone)=false:=by kernel_rfl
abbrev Kv:Nat:=65
theorem Gx:Tryz.prog.funcs[65]?=some Tryz.f65:=Tryz.func65
theorem HT:(Tryz.f65.name == "runtime.NumGoroutine" || Tryz.f65.body.isNone)=false:=by kernel_rfl
abbrev HM:Nat:=66
theorem mR:Tryz.prog.funcs[66]?=some Tryz.f66:=Tryz.func66
theorem m7:(Tryz.f66.name == "runtime.NumGoroutine" || Tryz.f66.body.isNone)=false:=by kernel_rfl
abbrev tR:Nat:=67
theorem r8:Tryz.prog.funcs[67]?=some Tryz.f67:=Tryz.func67
theorem rU:(Tryz.f67.name == "runtime.NumGoroutine" || Tryz.f67.body.isNone)=false:=by kernel_rfl
abbrev jp:Nat:=68
theorem oV:Tryz.prog.funcs[68]?=some Tryz.f68:=Tryz.func68
theorem oS:(Tryz.f68.name == "runtime.NumGoroutine" || Tryz.f68.body.isNone)=false:=by kernel_rfl
abbrev Au:Nat:=69
theorem c5:Tryz.prog.funcs[69]?=some Tryz.f69:=Tryz.func69
theorem c8:(Tryz.f69.name == "runtime.NumGoroutine" || Tryz.f69.body.isNone)=false:=by kernel_rfl
abbrev Hr:Nat:=71
theorem ug:Tryz.prog.funcs[71]?=some Tryz.f71:=Tryz.func71
theorem td:(Tryz.f71.name == "runtime.NumGoroutine" || Tryz.f71.body.isNone)=false:=by kernel_rfl
abbrev FT:Nat:=73
theorem CH:Tryz.prog.funcs[73]?=some Tryz.f73:=Tryz.func73
theorem CV:(Tryz.f73.name == "runtime.NumGoroutine" || Tryz.f73.body.isNone)=false:=by kernel_rfl
abbrev mq:Nat:=74
theorem ly:Tryz.prog.funcs[74]?=some Tryz.f74:=Tryz.func74
theorem li:(Tryz.f74.name == "runtime.NumGoroutine" || Tryz.f74.body.isNone)=false:=by kernel_rfl
abbrev CD:Nat:=75
theorem A6:Tryz.prog.funcs[75]?=some Tryz.f75:=Tryz.func75
theorem BR:(Tryz.f75.name == "runtime.NumGoroutine" || Tryz.f75.body.isNone)=false:=by kernel_rfl
abbrev EB:Nat:=76
theorem iR:Tryz.prog.funcs[76]?=some Tryz.f76:=Tryz.func76
theorem iT:(Tryz.f76.name == "runtime.NumGoroutine" || Tryz.f76.body.isNone)=false:=by kernel_rfl
abbrev Mu:Nat:=77
theorem rE:Tryz.prog.funcs[77]?=some Tryz.f77:=Tryz.func77
theorem sk:(Tryz.f77.name == "runtime.NumGoroutine" || Tryz.f77.body.isNone)=false:=by kernel_rfl
abbrev uI:Nat:=78
theorem dY:Tryz.prog.funcs[78]?=some Tryz.f78:=Tryz.func78
theorem d5:(Tryz.f78.name == "runtime.NumGoroutine" || Tryz.f78.body.isNone)=false:=by kernel_rfl
abbrev Le:Nat:=81
theorem Gu:Tryz.prog.funcs[81]?=some Tryz.f81:=Tryz.func81
theorem HR:(Tryz.f81.name == "runtime.NumGoroutine" || Tryz.f81.body.isNone)=false:=by kernel_rfl
abbrev rL:Nat:=82
theorem qL:Tryz.prog.funcs[82]?=some Tryz.f82:=Tryz.func82
theorem qh:(Tryz.f82.name == "runtime.NumGoroutine" || Tryz.f82.body.isNone)=false:=by kernel_rfl
abbrev sd:Nat:=83
theorem qn:Tryz.prog.funcs[83]?=some Tryz.f83:=Tryz.func83
theorem qz:(Tryz.f83.name == "runtime.NumGoroutine" || Tryz.f83.body.isNone)=false:=by kernel_rfl
abbrev CQ:Nat:=84
theorem oh:Tryz.prog.funcs[84]?=some Tryz.f84:=Tryz.func84
theorem pc:(Tryz.f84.name == "runtime.NumGoroutine" || Tryz.f84.body.isNone)=false:=by kernel_rfl
abbrev Hf:Nat:=85
theorem sZ:Tryz.prog.funcs[85]?=some Tryz.f85:=Tryz.func85
theorem u7:(Tryz.f85.name == "runtime.NumGoroutine" || Tryz.f85.body.isNone)=false:=by kernel_rfl
abbrev M8:Nat:=86
theorem D2:Tryz.prog.funcs[86]?=some Tryz.f86:=Tryz.func86
theorem D6:(Tryz.f86.name == "runtime.NumGoroutine" || Tryz.f86.body.isNone)=false:=by kernel_rfl
abbrev o7:Nat:=87
theorem n5:Tryz.prog.funcs[87]?=some Tryz.f87:=Tryz.func87
theorem oc:(Tryz.f87.name == "runtime.NumGoroutine" || Tryz.f87.body.isNone)=false:=by kernel_rfl
abbrev KJ:Nat:=88
theorem pL:Tryz.prog.funcs[88]?=some Tryz.f88:=Tryz.func88
theorem pn:(Tryz.f88.name == "runtime.NumGoroutine" || Tryz.f88.body.isNone)=false:=by kernel_rfl
abbrev l8:Nat:=89
theorem tC:Tryz.prog.funcs[89]?=some Tryz.f89:=Tryz.func89
theorem tv:(Tryz.f89.name == "runtime.NumGoroutine" || Tryz.f89.body.isNone)=false:=by kernel_rfl
abbrev Jb:Nat:=90
theorem G6:Tryz.prog.funcs[90]?=some Tryz.f90:=Tryz.func90
theorem HN:(Tryz.f90.name == "runtime.NumGoroutine" || Tryz.f90.body.isNone)=false:=by kernel_rfl
abbrev pH:Nat:=91
theorem nW:Tryz.prog.funcs[91]?=some Tryz.f91:=Tryz.func91
theorem od:(Tryz.f91.name == "runtime.NumGoroutine" || Tryz.f91.body.isNone)=false:=by kernel_rfl
abbrev Gk:Nat:=92
theorem jI:Tryz.prog.funcs[92]?=some Tryz.f92:=Tryz.func92
theorem jG:(Tryz.f92.name == "runtime.NumGoroutine" || Tryz.f92.body.isNone)=false:=by kernel_rfl
abbrev we:Nat:=93
theorem ur:Tryz.prog.funcs[93]?=some Tryz.f93:=Tryz.func93
theorem sJ:(Tryz.f93.name == "runtime.NumGoroutine" || Tryz.f93.body.isNone)=false:=by kernel_rfl
abbrev vM:Nat:=94
theorem lQ:Tryz.prog.funcs[94]?=some Tryz.f94:=Tryz.func94
theorem kT:(Tryz.f94.name == "runtime.NumGoroutine" || Tryz.f94.body.isNone)=false:=by kernel_rfl
abbrev Md:Nat:=95
theorem Ip:Tryz.prog.funcs[95]?=some Tryz.f95:=Tryz.func95
theorem KQ:(Tryz.f95.name == "runtime.NumGoroutine" || Tryz.f95.body.isNone)=false:=by kernel_rfl
abbrev yF:Nat:=96
theorem ms:Tryz.prog.funcs[96]?=some Tryz.f96:=Tryz.func96
theorem mG:(Tryz.f96.name == "runtime.NumGoroutine" || Tryz.f96.body.isNone)=false:=by kernel_rfl
abbrev H7:Nat:=97
theorem uM:Tryz.prog.funcs[97]?=some Tryz.f97:=Tryz.func97
theorem s5:(Tryz.f97.name == "runtime.NumGoroutine" || Tryz.f97.body.isNone)=false:=by kernel_rfl
abbrev Ke:Nat:=98
theorem pp:Tryz.prog.funcs[98]?=some Tryz.f98:=Tryz.func98
theorem pI:(Tryz.f98.name == "runtime.NumGoroutine" || Tryz.f98.body.isNone)=false:=by kernel_rfl
abbrev L9:Nat:=99
theorem Kh:Tryz.prog.funcs[99]?=some Tryz.f99:=Tryz.func99
theorem Kg:(Tryz.f99.name == "runtime.NumGoroutine" || Tryz.f99.body.isNone)=false:=by kernel_rfl
abbrev Es:Nat:=100
theorem B5:Tryz.prog.funcs[100]?=some Tryz.f100:=Tryz.func100
theorem Cv:(Tryz.f100.name == "runtime.NumGoroutine" || Tryz.f100.body.isNone)=false:=by kernel_rfl
abbrev Cz:Nat:=101
theorem pj:Tryz.prog.funcs[101]?=some Tryz.f101:=Tryz.func101
theorem pF:(Tryz.f101.name == "runtime.NumGoroutine" || Tryz.f101.body.isNone)=false:=by kernel_rfl
abbrev Ne:Nat:=102
theorem MM:Tryz.prog.funcs[102]?=some Tryz.f102:=Tryz.func102
theorem MQ:(Tryz.f102.name == "runtime.NumGoroutine" || Tryz.f102.body.isNone)=false:=by kernel_rfl
abbrev HX:Nat:=103
theorem uN:Tryz.prog.funcs[103]?=some Tryz.f103:=Tryz.func103
theorem tb:(Tryz.f103.name == "runtime.NumGoroutine" || Tryz.f103.body.isNone)=false:=by kernel_rfl
abbrev wB:Nat:=104
theorem uv:Tryz.prog.funcs[104]?=some Tryz.f104:=Tryz.func104
theorem tY:(Tryz.f104.name == "runtime.NumGoroutine" || Tryz.f104.body.isNone)=false:=by kernel_rfl
abbrev AC:Nat:=105
theorem yU:Tryz.prog.funcs[105]?=some Tryz.f105:=Tryz.func105
theorem ze:(Tryz.f105.name == "runtime.NumGoroutine" || Tryz.f105.body.isNone)=false:=by kernel_rfl
abbrev EE:Nat:=106
theorem BW:Tryz.prog.funcs[106]?=some Tryz.f106:=Tryz.func106
theorem C3:(Tryz.f106.name == "runtime.NumGoroutine" || Tryz.f106.body.isNone)=false:=by kernel_rfl
abbrev KL:Nat:=107
theorem Ho:Tryz.prog.funcs[107]?=some Tryz.f107:=Tryz.func107
theorem HL:(Tryz.f107.name == "runtime.NumGoroutine" || Tryz.f107.body.isNone)=false:=by kernel_rfl
abbrev yE:Nat:=108
theorem iy:Tryz.prog.funcs[108]?=some Tryz.f108:=Tryz.func108
theorem iC:(Tryz.f108.name == "runtime.NumGoroutine" || Tryz.f108.body.isNone)=false:=by kernel_rfl
abbrev M0:Nat:=109
theorem DP:Tryz.prog.funcs[109]?=some Tryz.f109:=Tryz.func109
theorem Dz:(Tryz.f109.name == "runtime.NumGoroutine" || Tryz.f109.body.isNone)=false:=by kernel_rfl
abbrev r3:Nat:=110
theorem qI:Tryz.prog.funcs[110]?=some Tryz.f110:=Tryz.func110
theorem qu:(Tryz.f110.name == "runtime.NumGoroutine" || Tryz.f110.body.isNone)=false:=by kernel_rfl
abbrev ox:Nat:=111
theorem n8:Tryz.prog.funcs[111]?=some Tryz.f111:=Tryz.func111
theorem nT:(Tryz.f111.name == "runtime.NumGoroutine" || Tryz.f111.body.isNone)=false:=by kernel_rfl
abbrev GL:Nat:=112
theorem tD:Tryz.prog.funcs[112]?=some Tryz.f112:=Tryz.func112
theorem ta:(Tryz.f112.name == "runtime.NumGoroutine" || Tryz.f112.body.isNone)=false:=by kernel_rfl
abbrev BU:Nat:=113
theorem BG:Tryz.prog.funcs[113]?=some Tryz.f113:=Tryz.func113
theorem Bf:(Tryz.f113.name == "runtime.NumGoroutine" || Tryz.f113.body.isNone)=false:=by kernel_rfl
abbrev yz:Nat:=114
theorem wc:Tryz.prog.funcs[114]?=some Tryz.f114:=Tryz.func114
theorem vE:(Tryz.f114.name == "runtime.NumGoroutine" || Tryz.f114.body.isNone)=false:=by kernel_rfl
abbrev Im:Nat:=115
theorem F1:Tryz.prog.funcs[115]?=some Tryz.f115:=Tryz.func115
theorem GB:(Tryz.f115.name == "runtime.NumGoroutine" || Tryz.f115.body.isNone)=false:=by kernel_rfl
abbrev Ij:Nat:=116
theorem Ft:Tryz.prog.funcs[116]?=some Tryz.f116:=Tryz.func116
theorem Ej:(Tryz.f116.name == "runtime.NumGoroutine" || Tryz.f116.body.isNone)=false:=by kernel_rfl
abbrev FF:Nat:=117
theorem CX:Tryz.prog.funcs[117]?=some Tryz.f117:=Tryz.func117
theorem CR:(Tryz.f117.name == "runtime.NumGoroutine" || Tryz.f117.body.isNone)=false:=by kernel_rfl
abbrev Ec:Nat:=118
theorem lW:Tryz.prog.funcs[118]?=some Tryz.f118:=Tryz.func118
theorem lV:(Tryz.f118.name == "runtime.NumGoroutine" || Tryz.f118.body.isNone)=false:=by kernel_rfl
abbrev Ji:Nat:=119
theorem F2:Tryz.prog.funcs[119]?=some Tryz.f119:=Tryz.func119
theorem Gn:(Tryz.f119.name == "runtime.NumGoroutine" || Tryz.f119.body.isNone)=false:=by kernel_rfl
abbrev y4:Nat:=120
theorem vC:Tryz.prog.funcs[120]?=some Tryz.f120:=Tryz.func120
theorem wo:(Tryz.f120.name == "runtime.NumGoroutine" || Tryz.f120.body.isNone)=false:=by kernel_rfl
abbrev H0:Nat:=121
theorem Ey:Tryz.prog.funcs[121]?=some Tryz.f121:=Tryz.func121
theorem Eo:(Tryz.f121.name == "runtime.NumGoroutine" || Tryz.f121.body.isNone)=false:=by kernel_rfl
abbrev Ha:Nat:=124
theorem tM:Tryz.prog.funcs[124]?=some Tryz.f124:=Tryz.func124
theorem ve:(Tryz.f124.name == "runtime.NumGoroutine" || Tryz.f124.body.isNone)=false:=by kernel_rfl
abbrev Ih:Nat:=125
theorem tE:Tryz.prog.funcs[125]?=some Tryz.f125:=Tryz.func125
theorem sW:(Tryz.f125.name == "runtime.NumGoroutine" || Tryz.f125.body.isNone)=false:=by kernel_rfl
abbrev JL:Nat:=126
theorem pM:Tryz.prog.funcs[126]?=some Tryz.f126:=Tryz.func126
theorem oz:(Tryz.f126.name == "runtime.NumGoroutine" || Tryz.f126.body.isNone)=false:=by kernel_rfl
abbrev Ch:Nat:=127
theorem BN:Tryz.prog.funcs[127]?=some Tryz.f127:=Tryz.func127
theorem zM:(Tryz.f127.name == "runtime.NumGoroutine" || Tryz.f127.body.isNone)=false:=by kernel_rfl
abbrev KY:Nat:=128
theorem GO:Tryz.prog.funcs[128]?=some Tryz.f128:=Tryz.func128
theorem Gg:(Tryz.f128.name == "runtime.NumGoroutine" || Tryz.f128.body.isNone)=false:=by kernel_rfl
abbrev tj:Nat:=129
theorem B8:Tryz.prog.funcs[129]?=some Tryz.f129:=Tryz.func129
theorem CC:(Tryz.f129.name == "runtime.NumGoroutine" || Tryz.f129.body.isNone)=false:=by kernel_rfl
abbrev tT:Nat:=130
theorem rO:Tryz.prog.funcs[130]?=some Tryz.f130:=Tryz.func130
theorem sA:(Tryz.f130.name == "runtime.NumGoroutine" || Tryz.f130.body.isNone)=false:=by kernel_rfl
abbrev Cr:Nat:=131
theorem A0:Tryz.prog.funcs[131]?=some Tryz.f131:=Tryz.func131
theorem z1:(Tryz.f131.name == "runtime.NumGoroutine" || Tryz.f131.body.isNone)=false:=by kernel_rfl
abbrev Gh:Nat:=132
theorem EV:Tryz.prog.funcs[132]?=some Tryz.f132:=Tryz.func132
theorem EX:(Tryz.f132.name == "runtime.NumGoroutine" || Tryz.f132.body.isNone)=false:=by kernel_rfl
abbrev Kr:Nat:=133
theorem Hn:Tryz.prog.funcs[133]?=some Tryz.f133:=Tryz.func133
theorem G3:(Tryz.f133.name == "runtime.NumGoroutine" || Tryz.f133.body.isNone)=false:=by kernel_rfl
abbrev B0:Nat:=134
theorem Bk:Tryz.prog.funcs[134]?=some Tryz.f134:=Tryz.func134
theorem z0:(Tryz.f134.name == "runtime.NumGoroutine" || Tryz.f134.body.isNone)=false:=by kernel_rfl
abbrev Gb:Nat:=135
theorem m9:Tryz.prog.funcs[135]?=some Tryz.f135:=Tryz.func135
theorem mW:(Tryz.f135.name == "runtime.NumGoroutine" || Tryz.f135.body.isNone)=false:=by kernel_rfl
abbrev G8:Nat:=136
theorem Fj:Tryz.prog.funcs[136]?=some Tryz.f136:=Tryz.func136
theorem Fb:(Tryz.f136.name == "runtime.NumGoroutine" || Tryz.f136.body.isNone)=false:=by kernel_rfl
abbrev Ck:Nat:=137
theorem A2:Tryz.prog.funcs[137]?=some Tryz.f137:=Tryz.func137
theorem zY:(Tryz.f137.name == "runtime.NumGoroutine" || Tryz.f137.body.isNone)=false:=by kernel_rfl
abbrev l6:Nat:=138
theorem sG:Tryz.prog.funcs[138]?=some Tryz.f138:=Tryz.func138
theorem tP:(Tryz.f138.name == "runtime.NumGoroutine" || Tryz.f138.body.isNone)=false:=by kernel_rfl
abbrev Cn:Nat:=139
theorem AD:Tryz.prog.funcs[139]?=some Tryz.f139:=Tryz.func139
theorem zS:(Tryz.f139.name == "runtime.NumGoroutine" || Tryz.f139.body.isNone)=false:=by kernel_rfl
abbrev z3:Nat:=140
theorem xo:Tryz.prog.funcs[140]?=some Tryz.f140:=Tryz.func140
theorem xx:(Tryz.f140.name == "runtime.NumGoroutine" || Tryz.f140.body.isNone)=false:=by kernel_rfl
abbrev KP:Nat:=141
theorem xZ:Tryz.prog.funcs[141]?=some Tryz.f141:=Tryz.func141
theorem wR:(Tryz.f141.name == "runtime.NumGoroutine" || Tryz.f141.body.isNone)=false:=by kernel_rfl
abbrev CS:Nat:=142
theorem oU:Tryz.prog.funcs[142]?=some Tryz.f142:=Tryz.func142
theorem pw:(Tryz.f142.name == "runtime.NumGoroutine" || Tryz.f142.body.isNone)=false:=by kernel_rfl
abbrev vi:Nat:=143
theorem kV:Tryz.prog.funcs[143]?=some Tryz.f143:=Tryz.func143
theorem lO:(Tryz.f143.name == "runtime.NumGoroutine" || Tryz.f143.body.isNone)=false:=by kernel_rfl
abbrev CG:Nat:=145
theorem pe:Tryz.prog.funcs[145]?=some Tryz.f145:=Tryz.func145
theorem pi:(Tryz.f145.name == "runtime.NumGoroutine" || Tryz.f145.body.isNone)=false:=by kernel_rfl
abbrev IC:Nat:=146
theorem gA:Tryz.prog.funcs[146]?=some Tryz.f146:=Tryz.func146
theorem gt:(Tryz.f146.name == "runtime.NumGoroutine" || Tryz.f146.body.isNone)=false:=by kernel_rfl
abbrev J5:Nat:=147
theorem dE:Tryz.prog.funcs[147]?=some Tryz.f147:=Tryz.func147
theorem dH:(Tryz.f147.name == "runtime.NumGoroutine" || Tryz.f147.body.isNone)=false:=by kernel_rfl
abbrev Gq:Nat:=148
theorem EZ:Tryz.prog.funcs[148]?=some Tryz.f148:=Tryz.func148
theorem ES:(Tryz.f148.name == "runtime.NumGoroutine" || Tryz.f148.body.isNone)=false:=by kernel_rfl
abbrev wi:Nat:=149
theorem tA:Tryz.prog.funcs[149]?=some Tryz.f149:=Tryz.func149
theorem u1:(Tryz.f149.name == "runtime.NumGoroutine" || Tryz.f149.body.isNone)=false:=by kernel_rfl
abbrev Mg:Nat:=150
theorem Bp:Tryz.prog.funcs[150]?=some Tryz.f150:=Tryz.func150
theorem Bj:(Tryz.f150.name == "runtime.NumGoroutine" || Tryz.f150.body.isNone)=false:=by kernel_rfl
abbrev Hc:Nat:=151
theorem jQ:Tryz.prog.funcs[151]?=some Tryz.f151:=Tryz.func151
theorem jN:(Tryz.f151.name == "runtime.NumGoroutine" || Tryz.f151.body.isNone)=false:=by kernel_rfl
abbrev EY:Nat:=152
theorem CA:Tryz.prog.funcs[152]?=some Tryz.f152:=Tryz.func152
theorem Cs:(Tryz.f152.name == "runtime.NumGoroutine" || Tryz.f152.body.isNone)=false:=by kernel_rfl
abbrev KF:Nat:=154
theorem xt:Tryz.prog.funcs[154]?=some Tryz.f154:=Tryz.func154
theorem xz:(Tryz.f154.name == "runtime.NumGoroutine" || Tryz.f154.body.isNone)=false:=by kernel_rfl
abbrev IM:Nat:=156
theorem H8:Tryz.prog.funcs[156]?=some Tryz.f156:=Tryz.func156
theorem Hq:(Tryz.f156.name == "runtime.NumGoroutine" || Tryz.f156.body.isNone)=false:=by kernel_rfl
abbrev MX:Nat:=157
theorem Jh:Tryz.prog.funcs[157]?=some Tryz.f157:=Tryz.func157
theorem Is:(Tryz.f157.name == "runtime.NumGoroutine" || Tryz.f157.body.isNone)=false:=by kernel_rfl
abbrev Hk:Nat:=158
theorem Ew:Tryz.prog.funcs[158]?=some Tryz.f158:=Tryz.func158
theorem FZ:(Tryz.f158.name == "runtime.NumGoroutine" || Tryz.f158.body.isNone)=false:=by kernel_rfl
abbrev kS:Nat:=159
theorem kH:Tryz.prog.funcs[159]?=some Tryz.f159:=Tryz.func159
theorem kw:(Tryz.f159.name == "runtime.NumGoroutine" || Tryz.f159.body.isNone)=false:=by kernel_rfl
abbrev zf:Nat:=160
theorem wj:Tryz.prog.funcs[160]?=some Tryz.f160:=Tryz.func160
theorem wq:(Tryz.f160.name == "runtime.NumGoroutine" || Tryz.f160.body.isNone)=false:=by kernel_rfl
abbrev Jj:Nat:=161
theorem Gp:Tryz.prog.funcs[161]?=some Tryz.f161:=Tryz.func161
theorem H9:(Tryz.f161.name == "runtime.NumGoroutine" || Tryz.f161.body.isNone)=false:=by kernel_rfl
abbrev Je:Nat:=162
theorem x1:Tryz.prog.funcs[162]?=some Tryz.f162:=Tryz.func162
theorem xF:(Tryz.f162.name == "runtime.NumGoroutine" || Tryz.f162.body.isNone)=false:=by kernel_rfl
abbrev CL:Nat:=163
theorem oK:Tryz.prog.funcs[163]?=some Tryz.f163:=Tryz.func163
theorem pX:(Tryz.f163.name == "runtime.NumGoroutine" || Tryz.f163.body.isNone)=false:=by kernel_rfl
abbrev Ii:Nat:=164
theorem fW:Tryz.prog.funcs[164]?=some Tryz.f164:=Tryz.func164
theorem fV:(Tryz.f164.name == "runtime.NumGoroutine" || Tryz.f164.body.isNone)=false:=by kernel_rfl
abbrev LW:Nat:=165
theorem Kj:Tryz.prog.funcs[165]?=some Tryz.f165:=Tryz.func165
theorem I0:(Tryz.f165.name == "runtime.NumGoroutine" || Tryz.f165.body.isNone)=false:=by kernel_rfl
abbrev Kt:Nat:=166
theorem lL:Tryz.prog.funcs[166]?=some Tryz.f166:=Tryz.func166
theorem lD:(Tryz.f166.name == "runtime.NumGoroutine" || Tryz.f166.body.isNone)=false:=by kernel_rfl
abbrev IW:Nat:=167
theorem kX:Tryz.prog.funcs[167]?=some Tryz.f167:=Tryz.func167
theorem lg:(Tryz.f167.name == "runtime.NumGoroutine" || Tryz.f167.body.isNone)=false:=by kernel_rfl
abbrev IX:Nat:=168
theorem oD:Tryz.prog.funcs[168]?=some Tryz.f168:=Tryz.func168
theorem pW:(Tryz.f168.name == "runtime.NumGoroutine" || Tryz.f168.body.isNone)=false:=by kernel_rfl
abbrev E7:Nat:=169
theorem Cc:Tryz.prog.funcs[169]?=some Tryz.f169:=Tryz.func169
theorem C9:(Tryz.f169.name == "runtime.NumGoroutine" || Tryz.f169.body.isNone)=false:=by kernel_rfl
abbrev Gf:Nat:=170
theorem Ev:Tryz.prog.funcs[170]?=some Tryz.f170:=Tryz.func170
theorem FN:(Tryz.f170.name == "runtime.NumGoroutine" || Tryz.f170.body.isNone)=false:=by kernel_rfl
abbrev NS:Nat:=171
theorem Ma:Tryz.prog.funcs[171]?=some Tryz.f171:=Tryz.func171
theorem MT:(Tryz.f171.name == "runtime.NumGoroutine" || Tryz.f171.body.isNone)=false:=by kernel_rfl
abbrev JB:Nat:=172
theorem Gi:Tryz.prog.funcs[172]?=some Tryz.f172:=Tryz.func172
theorem Hl:(Tryz.f172.name == "runtime.NumGoroutine" || Tryz.f172.body.isNone)=false:=by kernel_rfl
abbrev IQ:Nat:=173
theorem GM:Tryz.prog.funcs[173]?=some Tryz.f173:=Tryz.func173
theorem Hm:(Tryz.f173.name == "runtime.NumGoroutine" || Tryz.f173.body.isNone)=false:=by kernel_rfl
abbrev G9:Nat:=174
theorem tW:Tryz.prog.funcs[174]?=some Tryz.f174:=Tryz.func174
theorem u9:(Tryz.f174.name == "runtime.NumGoroutine" || Tryz.f174.body.isNone)=false:=by kernel_rfl
abbrev Hs:Nat:=175
theorem sO:Tryz.prog.funcs[175]?=some Tryz.f175:=Tryz.func175
theorem sV:(Tryz.f175.name == "runtime.NumGoroutine" || Tryz.f175.body.isNone)=false:=by kernel_rfl
abbrev HZ:Nat:=176
theorem sL:Tryz.prog.funcs[176]?=some Tryz.f176:=Tryz.func176
theorem sM:(Tryz.f176.name == "runtime.NumGoroutine" || Tryz.f176.body.isNone)=false:=by kernel_rfl
abbrev EJ:Nat:=177
theorem C0:Tryz.prog.funcs[177]?=some Tryz.f177:=Tryz.func177
theorem B9:(Tryz.f177.name == "runtime.NumGoroutine" || Tryz.f177.body.isNone)=false:=by kernel_rfl
abbrev LE:Nat:=178
theorem Jx:Tryz.prog.funcs[178]?=some Tryz.f178:=Tryz.func178
theorem KO:(Tryz.f178.name == "runtime.NumGoroutine" || Tryz.f178.body.isNone)=false:=by kernel_rfl
abbrev KC:Nat:=179
theorem oT:Tryz.prog.funcs[179]?=some Tryz.f179:=Tryz.func179
theorem pt:(Tryz.f179.name == "runtime.NumGoroutine" || Tryz.f179.body.isNone)=false:=by kernel_rfl
abbrev B6:Nat:=181
theorem BK:Tryz.prog.funcs[181]?=some Tryz.f181:=Tryz.func181
theorem zs:(Tryz.f181.name == "runtime.NumGoroutine" || Tryz.f181.body.isNone)=false:=by kernel_rfl
abbrev Me:Nat:=184
theorem Jq:Tryz.prog.funcs[184]?=some Tryz.f184:=Tryz.func184
theorem JD:(Tryz.f184.name == "runtime.NumGoroutine" || Tryz.f184.body.isNone)=false:=by kernel_rfl
abbrev Iy:Nat:=185
theorem GE:Tryz.prog.funcs[185]?=some Tryz.f185:=Tryz.func185
theorem GX:(Tryz.f185.name == "runtime.NumGoroutine" || Tryz.f185.body.isNone)=false:=by kernel_rfl
abbrev GW:Nat:=187
theorem Ed:Tryz.prog.funcs[187]?=some Tryz.f187:=Tryz.func187
theorem FW:(Tryz.f187.name == "runtime.NumGoroutine" || Tryz.f187.body.isNone)=false:=by kernel_rfl
abbrev Ig:Nat:=188
theorem s6:Tryz.prog.funcs[188]?=some Tryz.f188:=Tryz.func188
theorem sP:(Tryz.f188.name == "runtime.NumGoroutine" || Tryz.f188.body.isNone)=false:=by kernel_rfl
abbrev Jz:Nat:=189
theorem gB:Tryz.prog.funcs[189]?=some Tryz.f189:=Tryz.func189
theorem gu:(Tryz.f189.name == "runtime.NumGoroutine" || Tryz.f189.body.isNone)=false:=by kernel_rfl
abbrev IB:Nat:=190
theorem xU:Tryz.prog.funcs[190]?=some Tryz.f190:=Tryz.func190
theorem yd:(Tryz.f190.name == "runtime.NumGoroutine" || Tryz.f190.body.isNone)=false:=by kernel_rfl
abbrev Mw:Nat:=191
theorem JM:Tryz.prog.funcs[191]?=some Tryz.f191:=Tryz.func191
theorem JR:(Tryz.f191.name == "runtime.NumGoroutine" || Tryz.f191.body.isNone)=false:=by kernel_rfl
abbrev Mj:Nat:=192
theorem IY:Tryz.prog.funcs[192]?=some Tryz.f192:=Tryz.func192
theorem Il:(Tryz.f192.name == "runtime.NumGoroutine" || Tryz.f192.body.isNone)=false:=by kernel_rfl
abbrev Jd:Nat:=194
theorem Ic:Tryz.prog.funcs[194]?=some Tryz.f194:=Tryz.func194
theorem Hx:(Tryz.f194.name == "runtime.NumGoroutine" || Tryz.f194.body.isNone)=false:=by kernel_rfl
abbrev HV:Nat:=195
theorem sY:Tryz.prog.funcs[195]?=some Tryz.f195:=Tryz.func195
theorem uu:(Tryz.f195.name == "runtime.NumGoroutine" || Tryz.f195.body.isNone)=false:=by kernel_rfl
abbrev JZ:Nat:=196
theorem Gc:Tryz.prog.funcs[196]?=some Tryz.f196:=Tryz.func196
theorem HE:(Tryz.f196.name == "runtime.NumGoroutine" || Tryz.f196.body.isNone)=false:=by kernel_rfl
abbrev Fh:Nat:=197
theorem C8:Tryz.prog.funcs[197]?=some Tryz.f197:=Tryz.func197
theorem Ct:(Tryz.f197.name == "runtime.NumGoroutine" || Tryz.f197.body.isNone)=false:=by kernel_rfl
abbrev Gd:Nat:=198
theorem Eu:Tryz.prog.funcs[198]?=some Tryz.f198:=Tryz.func198
theorem Fq:(Tryz.f198.name == "runtime.NumGoroutine" || Tryz.f198.body.isNone)=false:=by kernel_rfl
abbrev Kp:Nat:=199
theorem pY:Tryz.prog.funcs[199]?=some Tryz.f199:=Tryz.func199
theorem oo:(Tryz.f199.name == "runtime.NumGoroutine" || Tryz.f199.body.isNone)=false:=by kernel_rfl
abbrev Io:Nat:=201
theorem xS:Tryz.prog.funcs[201]?=some Tryz.f201:=Tryz.func201
theorem yg:(Tryz.f201.name == "runtime.NumGoroutine" || Tryz.f201.body.isNone)=false:=by kernel_rfl
abbrev C2:Nat:=202
theorem ot:Tryz.prog.funcs[202]?=some Tryz.f202:=Tryz.func202
theorem oQ:(Tryz.f202.name == "runtime.NumGoroutine" || Tryz.f202.body.isNone)=false:=by kernel_rfl
abbrev GN:Nat:=203
theorem ET:Tryz.prog.funcs[203]?=some Tryz.f203:=Tryz.func203
theorem FY:(Tryz.f203.name == "runtime.NumGoroutine" || Tryz.f203.body.isNone)=false:=by kernel_rfl

end Go.Proofs.YtemmhhdnlbmicaaGreat
