/- Made by program: names for the numbers of functions and types, and closed facts on them. -/
import Derived.Test.YtfcbhfjomgopbaaGreatZcS
import Derived.Test.YtfcbhfjomgopbaaGreatProg
import Derived.KernelRfl
namespace Go.Proofs.YtfcbhfjomgopbaaGreat
open Go
abbrev ce:Nat:=3
theorem Dq:Tryz.prog.cellsOf 3=1:=by kernel_rfl
theorem aR:jx Tryz.prog 3=true:=by kernel_rfl
theorem DO:gm Tryz.prog 3=some (.int .i64 0):=by kernel_rfl
theorem fD:Tryz.prog.underlying 3=some (.int .i64):=by kernel_rfl
abbrev Bj:Nat:=4
theorem y5:Tryz.prog.underlying 4=some .bool:=by kernel_rfl
abbrev pC:Nat:=9
theorem CM:Tryz.prog.cellsOf 9=1:=by kernel_rfl
theorem bk:jx Tryz.prog 9=true:=by kernel_rfl
theorem dX:Tryz.prog.underlying 9=some .string:=by kernel_rfl
abbrev BR:Nat:=22
theorem ef:cG Tryz.prog 22=some (60,5):=by kernel_rfl
abbrev D3:Nat:=23
theorem ya:Tryz.prog.cellsOf 23=1:=by kernel_rfl
theorem mI:jx Tryz.prog 23=true:=by kernel_rfl
theorem fM:cG Tryz.prog 23=some (25,4):=by kernel_rfl
abbrev EV:Nat:=25
theorem vf:Tryz.prog.cellsOf 25=4:=by kernel_rfl
theorem DS:DN Tryz.prog 25=some [(0,3),(1,3),(2,9),(3,23)]:=by kernel_rfl
theorem km:lo Tryz.prog 25=some 4:=by kernel_rfl
theorem Bf:cg Tryz.prog 25 0=some 0:=by kernel_rfl
theorem Bm:cg Tryz.prog 25 1=some 1:=by kernel_rfl
theorem uO:cg Tryz.prog 25 2=some 2:=by kernel_rfl
theorem uP:cg Tryz.prog 25 3=some 3:=by kernel_rfl
theorem BD:Tryz.prog.cellsOf 26=1:=by kernel_rfl
theorem wg:jx Tryz.prog 26=true:=by kernel_rfl
theorem fG:cG Tryz.prog 26=some (28,6):=by kernel_rfl
abbrev iq:Nat:=28
theorem CJ:Tryz.prog.cellsOf 28=6:=by kernel_rfl
theorem CK:DN Tryz.prog 28=some [(0,25),(4,3),(5,26)]:=by kernel_rfl
theorem im:lo Tryz.prog 28=some 6:=by kernel_rfl
theorem sH:cg Tryz.prog 28 0=some 0:=by kernel_rfl
theorem A2:cg Tryz.prog 28 1=some 4:=by kernel_rfl
theorem sI:cg Tryz.prog 28 2=some 5:=by kernel_rfl
theorem AA:ou Tryz.prog 32=some (56,5,80,(.agg #[(.int .i64 0),(.int .i64 0),(.string ⟨#[]⟩),(.slice none 0 0),(.slice none 0 0)])):=by kernel_rfl
theorem bI:cG Tryz.prog 32=some (56,5):=by kernel_rfl
theorem aO:jx Tryz.prog 34=true:=by kernel_rfl
theorem gv:ou Tryz.prog 34=some (36,4,56,(.agg #[(.int .i64 0),(.int .i64 0),(.string ⟨#[]⟩),(.slice none 0 0)])):=by kernel_rfl
theorem aC:cG Tryz.prog 34=some (36,4):=by kernel_rfl
abbrev ac:Nat:=36
theorem al:lo Tryz.prog 36=some 4:=by kernel_rfl
theorem bA:gm Tryz.prog 36=some (.agg #[(.int .i64 0),(.int .i64 0),(.string ⟨#[]⟩),(.slice none 0 0)]):=by kernel_rfl
theorem aU:cg Tryz.prog 36 0=some 0:=by kernel_rfl
theorem a9:cg Tryz.prog 36 1=some 1:=by kernel_rfl
theorem bi:cg Tryz.prog 36 2=some 2:=by kernel_rfl
theorem aP:cg Tryz.prog 36 3=some 3:=by kernel_rfl
theorem bT:jx Tryz.prog 37=true:=by kernel_rfl
theorem BW:ou Tryz.prog 37=some (39,6,88,(.agg #[(.int .i64 0),(.int .i64 0),(.string ⟨#[]⟩),(.slice none 0 0),(.int .i64 0),(.slice none 0 0)])):=by kernel_rfl
theorem bD:cG Tryz.prog 37=some (39,6):=by kernel_rfl
abbrev bx:Nat:=39
theorem bS:lo Tryz.prog 39=some 6:=by kernel_rfl
theorem rh:gm Tryz.prog 39=some (.agg #[(.int .i64 0),(.int .i64 0),(.string ⟨#[]⟩),(.slice none 0 0),(.int .i64 0),(.slice none 0 0)]):=by kernel_rfl
theorem ct:cg Tryz.prog 39 0=some 0:=by kernel_rfl
theorem ch:cg Tryz.prog 39 1=some 4:=by kernel_rfl
theorem bK:cg Tryz.prog 39 2=some 5:=by kernel_rfl
theorem kE:jx Tryz.prog 49=true:=by kernel_rfl
theorem ui:ou Tryz.prog 49=some (3,1,8,(.int .i64 0)):=by kernel_rfl
theorem eU:cG Tryz.prog 49=some (3,1):=by kernel_rfl
abbrev cN:Nat:=56
theorem dd:lo Tryz.prog 56=some 5:=by kernel_rfl
theorem kr:gm Tryz.prog 56=some (.agg #[(.int .i64 0),(.int .i64 0),(.string ⟨#[]⟩),(.slice none 0 0),(.slice none 0 0)]):=by kernel_rfl
theorem dr:cg Tryz.prog 56 0=some 0:=by kernel_rfl
theorem cn:cg Tryz.prog 56 1=some 4:=by kernel_rfl
abbrev CU:Nat:=60
theorem BE:Tryz.prog.cellsOf 60=5:=by kernel_rfl
theorem BU:DN Tryz.prog 60=some [(0,25),(4,23)]:=by kernel_rfl
theorem wj:lo Tryz.prog 60=some 5:=by kernel_rfl
theorem qG:cg Tryz.prog 60 0=some 0:=by kernel_rfl
theorem oV:cg Tryz.prog 60 1=some 4:=by kernel_rfl
abbrev fh:Nat:=70
theorem mE:jx Tryz.prog 70=true:=by kernel_rfl
theorem mF:ou Tryz.prog 88=some (162,5,64,(.agg #[(.int .i64 0),(.int .i64 0),(.int .i64 0),(.string ⟨#[]⟩),(.slice none 0 0)])):=by kernel_rfl
theorem x0:cG Tryz.prog 88=some (162,5):=by kernel_rfl
theorem nG:jx Tryz.prog 92=true:=by kernel_rfl
theorem dg:Tryz.prog.underlying 92=some (.map 3 36):=by kernel_rfl
abbrev ik:Nat:=113
theorem oq:jx Tryz.prog 113=true:=by kernel_rfl
abbrev xY:Nat:=120
theorem kD:cG Tryz.prog 120=some (9,1):=by kernel_rfl
abbrev cI:Nat:=155
theorem iP:cg Tryz.prog 155 0=some 0:=by kernel_rfl
theorem eA:cg Tryz.prog 155 1=some 1:=by kernel_rfl
abbrev cE:Nat:=162
abbrev fK:Nat:=207
abbrev bH:Nat:=3
abbrev wE:Nat:=9
theorem vB:Tryz.prog.funcs[9]?=some Tryz.f9:=Tryz.func9
theorem uw:(Tryz.f9.name == "runtime.NumGoroutine" || Tryz.f9.body.isNone)=false:=by kernel_rfl
abbrev su:Nat:=10
theorem pU:Tryz.prog.funcs[10]?=some Tryz.f10:=Tryz.func10
theorem p4:(Tryz.f10.name == "runtime.NumGoroutine" || Tryz.f10.body.isNone)=false:=by kernel_rfl
abbrev uC:Nat:=11
theorem tE:Tryz.prog.funcs[11]?=some Tryz.f11:=Tryz.func11
theorem s7:(Tryz.f11.name == "runtime.NumGoroutine" || Tryz.f11.body.isNone)=false:=by kernel_rfl
abbrev nS:Nat:=12
theorem um:Tryz.prog.funcs[12]?=some Tryz.f12:=Tryz.func12
theorem vA:(Tryz.f12.name == "runtime.NumGoroutine" || Tryz.f12.body.isNone)=false:=by kernel_rfl
abbrev l0:Nat:=13
theorem o3:Tryz.prog.funcs[13]?=some Tryz.f13:=Tryz.func13
theorem pg:(Tryz.f13.name == "runtime.NumGoroutine" || Tryz.f13.body.isNone)=false:=by kernel_rfl
abbrev vp:Nat:=14
theorem tt:Tryz.prog.funcs[14]?=some Tryz.f14:=Tryz.func14
theorem tD:(Tryz.f14.name == "runtime.NumGoroutine" || Tryz.f14.body.isNone)=false:=by kernel_rfl
abbrev wu:Nat:=15
theorem ut:Tryz.prog.funcs[15]?=some Tryz.f15:=Tryz.func15
theorem vL:(Tryz.f15.name == "runtime.NumGoroutine" || Tryz.f15.body.isNone)=false:=by kernel_rfl
abbrev rZ:Nat:=16
theorem pq:Tryz.prog.funcs[16]?=some Tryz.f16:=Tryz.func16
theorem qp:(Tryz.f16.name == "runtime.NumGoroutine" || Tryz.f16.body.isNone)=false:=by kernel_rfl
abbrev vQ:Nat:=20
theorem s4:Tryz.prog.funcs[20]?=some Tryz.f20:=Tryz.func20
theorem s6:(Tryz.f20.name == "runtime.NumGoroutine" || Tryz.f20.body.isNone)=false:=by kernel_rfl
abbrev q8:Nat:=26
theorem pi:Tryz.prog.funcs[26]?=some Tryz.f26:=Tryz.func26
theorem o0:(Tryz.f26.name == "runtime.NumGoroutine" || Tryz.f26.body.isNone)=false:=by kernel_rfl
abbrev zi:Nat:=27
theorem xx:Tryz.prog.funcs[27]?=some Tryz.f27:=Tryz.func27
theorem xe:(Tryz.f27.name == "runtime.NumGoroutine" || Tryz.f27.body.isNone)=false:=by kernel_rfl
abbrev vG:Nat:=28
theorem mn:Tryz.prog.funcs[28]?=some Tryz.f28:=Tryz.func28
theorem mw:(Tryz.f28.name == "runtime.NumGoroutine" || Tryz.f28.body.isNone)=false:=by kernel_rfl
abbrev zf:Nat:=29
theorem wo:Tryz.prog.funcs[29]?=some Tryz.f29:=Tryz.func29
theorem wv:(Tryz.f29.name == "runtime.NumGoroutine" || Tryz.f29.body.isNone)=false:=by kernel_rfl
abbrev rn:Nat:=30
theorem qa:Tryz.prog.funcs[30]?=some Tryz.f30:=Tryz.func30
theorem o9:(Tryz.f30.name == "runtime.NumGoroutine" || Tryz.f30.body.isNone)=false:=by kernel_rfl
abbrev vD:Nat:=31
theorem tY:Tryz.prog.funcs[31]?=some Tryz.f31:=Tryz.func31
theorem s5:(Tryz.f31.name == "runtime.NumGoroutine" || Tryz.f31.body.isNone)=false:=by kernel_rfl
abbrev zH:Nat:=32
theorem nH:Tryz.prog.funcs[32]?=some Tryz.f32:=Tryz.func32
theorem nC:(Tryz.f32.name == "runtime.NumGoroutine" || Tryz.f32.body.isNone)=false:=by kernel_rfl
abbrev pX:Nat:=33
theorem nj:Tryz.prog.funcs[33]?=some Tryz.f33:=Tryz.func33
theorem nR:(Tryz.f33.name == "runtime.NumGoroutine" || Tryz.f33.body.isNone)=false:=by kernel_rfl
abbrev ol:Nat:=34
theorem iZ:Tryz.prog.funcs[34]?=some Tryz.f34:=Tryz.func34
theorem i4:(Tryz.f34.name == "runtime.NumGoroutine" || Tryz.f34.body.isNone)=false:=by kernel_rfl
abbrev yV:Nat:=35
theorem xb:Tryz.prog.funcs[35]?=some Tryz.f35:=Tryz.func35
theorem xF:(Tryz.f35.name == "runtime.NumGoroutine" || Tryz.f35.body.isNone)=false:=by kernel_rfl
abbrev B9:Nat:=36
theorem sM:Tryz.prog.funcs[36]?=some Tryz.f36:=Tryz.func36
theorem sz:(Tryz.f36.name == "runtime.NumGoroutine" || Tryz.f36.body.isNone)=false:=by kernel_rfl
abbrev yS:Nat:=37
theorem wG:Tryz.prog.funcs[37]?=some Tryz.f37:=Tryz.func37
theorem xC:(Tryz.f37.name == "runtime.NumGoroutine" || Tryz.f37.body.isNone)=false:=by kernel_rfl
abbrev ur:Nat:=38
theorem mp:Tryz.prog.funcs[38]?=some Tryz.f38:=Tryz.func38
theorem lY:(Tryz.f38.name == "runtime.NumGoroutine" || Tryz.f38.body.isNone)=false:=by kernel_rfl
abbrev yQ:Nat:=39
theorem wJ:Tryz.prog.funcs[39]?=some Tryz.f39:=Tryz.func39
theorem wZ:(Tryz.f39.name == "runtime.NumGoroutine" || Tryz.f39.body.isNone)=false:=by kernel_rfl
abbrev wA:Nat:=41
theorem lK:Tryz.prog.funcs[41]?=some Tryz.f41:=Tryz.func41
theorem lZ:(Tryz.f41.name == "runtime.NumGoroutine" || Tryz.f41.body.isNone)=false:=by kernel_rfl
abbrev zL:Nat:=42
theorem qz:Tryz.prog.funcs[42]?=some Tryz.f42:=Tryz.func42
theorem qI:(Tryz.f42.name == "runtime.NumGoroutine" || Tryz.f42.body.isNone)=false:=by kernel_rfl
abbrev j2:Nat:=50
theorem i9:Tryz.prog.funcs[50]?=some Tryz.f50:=Tryz.func50
theorem jh:(Tryz.f50.name == "runtime.NumGoroutine" || Tryz.f50.body.isNone)=false:=by kernel_rfl
abbrev iA:Nat:=51
theorem mK:Tryz.prog.funcs[51]?=some Tryz.f51:=Tryz.func51
theorem mN:(Tryz.f51.name == "runtime.NumGoroutine" || Tryz.f51.body.isNone)=false:=by kernel_rfl
abbrev sZ:Nat:=52
theorem rC:Tryz.prog.funcs[52]?=some Tryz.f52:=Tryz.func52
theorem qN:(Tryz.f52.name == "runtime.NumGoroutine" || Tryz.f52.body.isNone)=false:=by kernel_rfl
abbrev sj:Nat:=53
theorem pI:Tryz.prog.funcs[53]?=some Tryz.f53:=Tryz.func53
theorem oM:(Tryz.f53.name == "runtime.NumGoroutine" || Tryz.f53.body.isNone)=false:=by kernel_rfl
abbrev tV:Nat:=54
theorem rc:Tryz.prog.funcs[54]?=some Tryz.f54:=Tryz.func54
theorem qT:(Tryz.f54.name == "runtime.NumGoroutine" || Tryz.f54.body.isNone)=false:=by kernel_rfl
abbrev yW:Nat:=55
theorem nL:Tryz.prog.funcs[55]?=some Tryz.f55:=Tryz.func55
theorem nN:(Tryz.f55.name == "runtime.NumGoroutine" || Tryz.f55.body.isNone)=false:=by kernel_rfl
abbrev Ao:Nat:=56
theorem yL:Tryz.prog.funcs[56]?=some Tryz.f56:=Tryz.func56
theorem yU:(Tryz.f56.name == "runtime.NumGoroutine" || Tryz.f56.body.isNone)=false:=by kernel_rfl
abbrev l1:Nat:=57
theorem kX:Tryz.prog.funcs[57]?=some Tryz.f57:=Tryz.func57
theorem kN:(Tryz.f57.name == "runtime.NumGoroutine" || Tryz.f57.body.isNone)=false:=by kernel_rfl
abbrev tu:Nat:=58
theorem rT:Tryz.prog.funcs[58]?=some Tryz.f58:=Tryz.func58
theorem rJ:(Tryz.f58.name == "runtime.NumGoroutine" || Tryz.f58.body.isNone)=false:=by kernel_rfl
abbrev Aa:Nat:=59
theorem ib:Tryz.prog.funcs[59]?=some Tryz.f59:=Tryz.func59
theorem ic:(Tryz.f59.name == "runtime.NumGoroutine" || Tryz.f59.body.isNone)=false:=by kernel_rfl
abbrev zG:Nat:=60
theorem gL:Tryz.prog.funcs[60]?=some Tryz.f60:=Tryz.func60
theorem gJ:(Tryz.f60.name == "runtime.NumGoroutine" || Tryz.f60.body.isNone)=false:=by kernel_rfl
abbrev C9:Nat:=61
theorem kA:Tryz.prog.funcs[61]?=some Tryz.f61:=Tryz.func61
theorem kM:(Tryz.f61.name == "runtime.NumGoroutine" || Tryz.f61.body.isNone)=false:=by kernel_rfl
abbrev sr:Nat:=62
theorem qh:Tryz.prog.funcs[62]?=some Tryz.f62:=Tryz.func62
theorem pQ:(Tryz.f62.name == "runtime.NumGoroutine" || Tryz.f62.body.isNone)=false:=by kernel_rfl
abbrev xB:Nat:=63
theorem md:Tryz.prog.funcs[63]?=some Tryz.f63:=Tryz.func63
theorem lB:(Tryz.f63.name == "runtime.NumGoroutine" || Tryz.f63.body.isNone)=false:=by kernel_rfl
abbrev B5:Nat:=64
theorem fH:Tryz.prog.funcs[64]?=some Tryz.f64:=Tryz.func64
theorem fL:(Tryz.f64.name == "runtime.NumGoroutine" || Tryz.f64.body.isNone)=false:=by kernel_rfl
abbrev kB:Nat:=65
theorem jt:Tryz.prog.funcs[65]?=some Tryz.f65:=Tryz.func65
theorem jR:(Tryz.f65.name == "runtime.NumGoroutine" || Tryz.f65.body.isNone)=false:=by kernel_rfl
abbrev tH:Nat:=66
theorem qP:Tryz.prog.funcs[66]?=some Tryz.f66:=Tryz.func66
theorem qZ:(Tryz.f66.name == "runtime.NumGoroutine" || Tryz.f66.body.isNone)=false:=by kernel_rfl
abbrev mB:Nat:=75
theorem ln:Tryz.prog.funcs[75]?=some Tryz.f75:=Tryz.func75
theorem lm:(Tryz.f75.name == "runtime.NumGoroutine" || Tryz.f75.body.isNone)=false:=by kernel_rfl
abbrev wI:Nat:=76
theorem iE:Tryz.prog.funcs[76]?=some Tryz.f76:=Tryz.func76
theorem iv:(Tryz.f76.name == "runtime.NumGoroutine" || Tryz.f76.body.isNone)=false:=by kernel_rfl
abbrev A8:Nat:=77
theorem pM:Tryz.prog.funcs[77]?=some Tryz.f77:=Tryz.func77
theorem p8:(Tryz.f77.name == "runtime.NumGoroutine" || Tryz.f77.body.isNone)=false:=by kernel_rfl
abbrev uY:Nat:=78
theorem uc:Tryz.prog.funcs[78]?=some Tryz.f78:=Tryz.func78
theorem tK:(Tryz.f78.name == "runtime.NumGoroutine" || Tryz.f78.body.isNone)=false:=by kernel_rfl
abbrev xr:Nat:=79
theorem lN:Tryz.prog.funcs[79]?=some Tryz.f79:=Tryz.func79
theorem lC:(Tryz.f79.name == "runtime.NumGoroutine" || Tryz.f79.body.isNone)=false:=by kernel_rfl
abbrev xl:Nat:=80
theorem fT:Tryz.prog.funcs[80]?=some Tryz.f80:=Tryz.func80
theorem f8:(Tryz.f80.name == "runtime.NumGoroutine" || Tryz.f80.body.isNone)=false:=by kernel_rfl
abbrev AX:Nat:=81
theorem pF:Tryz.prog.funcs[81]?=some Tryz.f81:=Tryz.func81
theorem o8:(Tryz.f81.name == "runtime.NumGoroutine" || Tryz.f81.body.isNone)=false:=by kernel_rfl
abbrev wK:Nat:=82
theorem fW:Tryz.prog.funcs[82]?=some Tryz.f82:=Tryz.func82
theorem fQ:(Tryz.f82.name == "runtime.NumGoroutine" || Tryz.f82.body.isNone)=false:=by kernel_rfl
abbrev zE:Nat:=83
theorem wD:Tryz.prog.funcs[83]?=some Tryz.f83:=Tryz.func83
theorem wY:(Tryz.f83.name == "runtime.NumGoroutine" || Tryz.f83.body.isNone)=false:=by kernel_rfl
abbrev z2:Nat:=84
theorem ko:Tryz.prog.funcs[84]?=some Tryz.f84:=Tryz.func84
theorem kF:(Tryz.f84.name == "runtime.NumGoroutine" || Tryz.f84.body.isNone)=false:=by kernel_rfl
abbrev C5:Nat:=85
theorem oc:Tryz.prog.funcs[85]?=some Tryz.f85:=Tryz.func85
theorem oi:(Tryz.f85.name == "runtime.NumGoroutine" || Tryz.f85.body.isNone)=false:=by kernel_rfl
abbrev zm:Nat:=86
theorem wy:Tryz.prog.funcs[86]?=some Tryz.f86:=Tryz.func86
theorem wN:(Tryz.f86.name == "runtime.NumGoroutine" || Tryz.f86.body.isNone)=false:=by kernel_rfl
abbrev vC:Nat:=87
theorem tG:Tryz.prog.funcs[87]?=some Tryz.f87:=Tryz.func87
theorem ti:(Tryz.f87.name == "runtime.NumGoroutine" || Tryz.f87.body.isNone)=false:=by kernel_rfl
abbrev wV:Nat:=88
theorem wc:Tryz.prog.funcs[88]?=some Tryz.f88:=Tryz.func88
theorem vm:(Tryz.f88.name == "runtime.NumGoroutine" || Tryz.f88.body.isNone)=false:=by kernel_rfl
abbrev xy:Nat:=89
theorem uv:Tryz.prog.funcs[89]?=some Tryz.f89:=Tryz.func89
theorem uZ:(Tryz.f89.name == "runtime.NumGoroutine" || Tryz.f89.body.isNone)=false:=by kernel_rfl
abbrev kP:Nat:=90
theorem jc:Tryz.prog.funcs[90]?=some Tryz.f90:=Tryz.func90
theorem i6:(Tryz.f90.name == "runtime.NumGoroutine" || Tryz.f90.body.isNone)=false:=by kernel_rfl
abbrev Bq:Nat:=91
theorem sJ:Tryz.prog.funcs[91]?=some Tryz.f91:=Tryz.func91
theorem r5:(Tryz.f91.name == "runtime.NumGoroutine" || Tryz.f91.body.isNone)=false:=by kernel_rfl
abbrev mV:Nat:=92
theorem l2:Tryz.prog.funcs[92]?=some Tryz.f92:=Tryz.func92
theorem lX:(Tryz.f92.name == "runtime.NumGoroutine" || Tryz.f92.body.isNone)=false:=by kernel_rfl
abbrev CQ:Nat:=106
theorem Ce:Tryz.prog.funcs[106]?=some Tryz.f106:=Tryz.func106
theorem BG:(Tryz.f106.name == "runtime.NumGoroutine" || Tryz.f106.body.isNone)=false:=by kernel_rfl
abbrev DU:Nat:=108
theorem x3:Tryz.prog.funcs[108]?=some Tryz.f108:=Tryz.func108
theorem x1:(Tryz.f108.name == "runtime.NumGoroutine" || Tryz.f108.body.isNone)=false:=by kernel_rfl
abbrev xK:Nat:=109
theorem mz:Tryz.prog.funcs[109]?=some Tryz.f109:=Tryz.func109
theorem ml:(Tryz.f109.name == "runtime.NumGoroutine" || Tryz.f109.body.isNone)=false:=by kernel_rfl
abbrev Ed:Nat:=110
theorem CO:Tryz.prog.funcs[110]?=some Tryz.f110:=Tryz.func110
theorem Da:(Tryz.f110.name == "runtime.NumGoroutine" || Tryz.f110.body.isNone)=false:=by kernel_rfl
abbrev gf:Nat:=111
theorem ei:Tryz.prog.funcs[111]?=some Tryz.f111:=Tryz.func111
theorem ek:(Tryz.f111.name == "runtime.NumGoroutine" || Tryz.f111.body.isNone)=false:=by kernel_rfl
abbrev j9:Nat:=112
theorem oE:Tryz.prog.funcs[112]?=some Tryz.f112:=Tryz.func112
theorem oN:(Tryz.f112.name == "runtime.NumGoroutine" || Tryz.f112.body.isNone)=false:=by kernel_rfl
abbrev B1:Nat:=113
theorem zP:Tryz.prog.funcs[113]?=some Tryz.f113:=Tryz.func113
theorem As:(Tryz.f113.name == "runtime.NumGoroutine" || Tryz.f113.body.isNone)=false:=by kernel_rfl
abbrev zZ:Nat:=114
theorem pu:Tryz.prog.funcs[114]?=some Tryz.f114:=Tryz.func114
theorem qk:(Tryz.f114.name == "runtime.NumGoroutine" || Tryz.f114.body.isNone)=false:=by kernel_rfl
abbrev Ap:Nat:=115
theorem pZ:Tryz.prog.funcs[115]?=some Tryz.f115:=Tryz.func115
theorem qs:(Tryz.f115.name == "runtime.NumGoroutine" || Tryz.f115.body.isNone)=false:=by kernel_rfl
abbrev B3:Nat:=116
theorem sx:Tryz.prog.funcs[116]?=some Tryz.f116:=Tryz.func116
theorem sk:(Tryz.f116.name == "runtime.NumGoroutine" || Tryz.f116.body.isNone)=false:=by kernel_rfl
abbrev z9:Nat:=117
theorem pj:Tryz.prog.funcs[117]?=some Tryz.f117:=Tryz.func117
theorem qq:(Tryz.f117.name == "runtime.NumGoroutine" || Tryz.f117.body.isNone)=false:=by kernel_rfl
abbrev tM:Nat:=118
theorem rm:Tryz.prog.funcs[118]?=some Tryz.f118:=Tryz.func118
theorem rV:(Tryz.f118.name == "runtime.NumGoroutine" || Tryz.f118.body.isNone)=false:=by kernel_rfl
abbrev yT:Nat:=119
theorem jb:Tryz.prog.funcs[119]?=some Tryz.f119:=Tryz.func119
theorem i8:(Tryz.f119.name == "runtime.NumGoroutine" || Tryz.f119.body.isNone)=false:=by kernel_rfl
abbrev zq:Nat:=120
theorem wO:Tryz.prog.funcs[120]?=some Tryz.f120:=Tryz.func120
theorem wt:(Tryz.f120.name == "runtime.NumGoroutine" || Tryz.f120.body.isNone)=false:=by kernel_rfl
abbrev yC:Nat:=121
theorem xz:Tryz.prog.funcs[121]?=some Tryz.f121:=Tryz.func121
theorem wx:(Tryz.f121.name == "runtime.NumGoroutine" || Tryz.f121.body.isNone)=false:=by kernel_rfl
abbrev n_i_holds:Nat:=122
theorem fn_i_holds:Tryz.prog.funcs[122]?=some Tryz.f122:=Tryz.func122
theorem nm_i_holds:(Tryz.f122.name == "runtime.NumGoroutine" || Tryz.f122.body.isNone)=false:=by kernel_rfl
abbrev sX:Nat:=123
theorem dU:Tryz.prog.funcs[123]?=some Tryz.f123:=Tryz.func123
theorem dZ:(Tryz.f123.name == "runtime.NumGoroutine" || Tryz.f123.body.isNone)=false:=by kernel_rfl
abbrev u6:Nat:=124
theorem s9:Tryz.prog.funcs[124]?=some Tryz.f124:=Tryz.func124
theorem tw:(Tryz.f124.name == "runtime.NumGoroutine" || Tryz.f124.body.isNone)=false:=by kernel_rfl
abbrev CE:Nat:=125
theorem iG:Tryz.prog.funcs[125]?=some Tryz.f125:=Tryz.func125
theorem iz:(Tryz.f125.name == "runtime.NumGoroutine" || Tryz.f125.body.isNone)=false:=by kernel_rfl
abbrev BN:Nat:=126
theorem r7:Tryz.prog.funcs[126]?=some Tryz.f126:=Tryz.func126
theorem sg:(Tryz.f126.name == "runtime.NumGoroutine" || Tryz.f126.body.isNone)=false:=by kernel_rfl
abbrev pw:Nat:=127
theorem n3:Tryz.prog.funcs[127]?=some Tryz.f127:=Tryz.func127
theorem ob:(Tryz.f127.name == "runtime.NumGoroutine" || Tryz.f127.body.isNone)=false:=by kernel_rfl
abbrev nT:Nat:=128
theorem mW:Tryz.prog.funcs[128]?=some Tryz.f128:=Tryz.func128
theorem mY:(Tryz.f128.name == "runtime.NumGoroutine" || Tryz.f128.body.isNone)=false:=by kernel_rfl
abbrev zX:Nat:=138
theorem zp:Tryz.prog.funcs[138]?=some Tryz.f138:=Tryz.func138
theorem zv:(Tryz.f138.name == "runtime.NumGoroutine" || Tryz.f138.body.isNone)=false:=by kernel_rfl
abbrev Bk:Nat:=140
theorem mv:Tryz.prog.funcs[140]?=some Tryz.f140:=Tryz.func140
theorem lT:(Tryz.f140.name == "runtime.NumGoroutine" || Tryz.f140.body.isNone)=false:=by kernel_rfl
abbrev xm:Nat:=141
theorem vY:Tryz.prog.funcs[141]?=some Tryz.f141:=Tryz.func141
theorem u9:(Tryz.f141.name == "runtime.NumGoroutine" || Tryz.f141.body.isNone)=false:=by kernel_rfl
abbrev Bo:Nat:=142
theorem Ab:Tryz.prog.funcs[142]?=some Tryz.f142:=Tryz.func142
theorem z0:(Tryz.f142.name == "runtime.NumGoroutine" || Tryz.f142.body.isNone)=false:=by kernel_rfl
abbrev Ay:Nat:=143
theorem y9:Tryz.prog.funcs[143]?=some Tryz.f143:=Tryz.func143
theorem zF:(Tryz.f143.name == "runtime.NumGoroutine" || Tryz.f143.body.isNone)=false:=by kernel_rfl
abbrev iF:Nat:=144
theorem g6:Tryz.prog.funcs[144]?=some Tryz.f144:=Tryz.func144
theorem hH:(Tryz.f144.name == "runtime.NumGoroutine" || Tryz.f144.body.isNone)=false:=by kernel_rfl
abbrev CR:Nat:=145
theorem BV:Tryz.prog.funcs[145]?=some Tryz.f145:=Tryz.func145
theorem Bb:(Tryz.f145.name == "runtime.NumGoroutine" || Tryz.f145.body.isNone)=false:=by kernel_rfl
abbrev BK:Nat:=146
theorem sa:Tryz.prog.funcs[146]?=some Tryz.f146:=Tryz.func146
theorem sR:(Tryz.f146.name == "runtime.NumGoroutine" || Tryz.f146.body.isNone)=false:=by kernel_rfl
abbrev na:Nat:=147
theorem eD:Tryz.prog.funcs[147]?=some Tryz.f147:=Tryz.func147
theorem eE:(Tryz.f147.name == "runtime.NumGoroutine" || Tryz.f147.body.isNone)=false:=by kernel_rfl
abbrev vr:Nat:=148
theorem fy:Tryz.prog.funcs[148]?=some Tryz.f148:=Tryz.func148
theorem fA:(Tryz.f148.name == "runtime.NumGoroutine" || Tryz.f148.body.isNone)=false:=by kernel_rfl
abbrev uE:Nat:=149
theorem k5:Tryz.prog.funcs[149]?=some Tryz.f149:=Tryz.func149
theorem kY:(Tryz.f149.name == "runtime.NumGoroutine" || Tryz.f149.body.isNone)=false:=by kernel_rfl
abbrev mS:Nat:=150
theorem gS:Tryz.prog.funcs[150]?=some Tryz.f150:=Tryz.func150
theorem gP:(Tryz.f150.name == "runtime.NumGoroutine" || Tryz.f150.body.isNone)=false:=by kernel_rfl
abbrev BM:Nat:=161
theorem dj:Tryz.prog.funcs[161]?=some Tryz.f161:=Tryz.func161
theorem di:(Tryz.f161.name == "runtime.NumGoroutine" || Tryz.f161.body.isNone)=false:=by kernel_rfl
abbrev z6:Nat:=162
theorem eX:Tryz.prog.funcs[162]?=some Tryz.f162:=Tryz.func162
theorem eP:(Tryz.f162.name == "runtime.NumGoroutine" || Tryz.f162.body.isNone)=false:=by kernel_rfl
abbrev zM:Nat:=163
theorem fR:Tryz.prog.funcs[163]?=some Tryz.f163:=Tryz.func163
theorem f1:(Tryz.f163.name == "runtime.NumGoroutine" || Tryz.f163.body.isNone)=false:=by kernel_rfl
abbrev CG:Nat:=164
theorem Cc:Tryz.prog.funcs[164]?=some Tryz.f164:=Tryz.func164
theorem Br:(Tryz.f164.name == "runtime.NumGoroutine" || Tryz.f164.body.isNone)=false:=by kernel_rfl
abbrev vh:Nat:=165
theorem s3:Tryz.prog.funcs[165]?=some Tryz.f165:=Tryz.func165
theorem td:(Tryz.f165.name == "runtime.NumGoroutine" || Tryz.f165.body.isNone)=false:=by kernel_rfl
abbrev xG:Nat:=166
theorem uN:Tryz.prog.funcs[166]?=some Tryz.f166:=Tryz.func166
theorem uU:(Tryz.f166.name == "runtime.NumGoroutine" || Tryz.f166.body.isNone)=false:=by kernel_rfl
abbrev Cg:Nat:=167
theorem Ac:Tryz.prog.funcs[167]?=some Tryz.f167:=Tryz.func167
theorem z8:(Tryz.f167.name == "runtime.NumGoroutine" || Tryz.f167.body.isNone)=false:=by kernel_rfl
abbrev A1:Nat:=168
theorem y8:Tryz.prog.funcs[168]?=some Tryz.f168:=Tryz.func168
theorem y7:(Tryz.f168.name == "runtime.NumGoroutine" || Tryz.f168.body.isNone)=false:=by kernel_rfl
abbrev xq:Nat:=169
theorem we:Tryz.prog.funcs[169]?=some Tryz.f169:=Tryz.func169
theorem uF:(Tryz.f169.name == "runtime.NumGoroutine" || Tryz.f169.body.isNone)=false:=by kernel_rfl
abbrev Cd:Nat:=170
theorem lP:Tryz.prog.funcs[170]?=some Tryz.f170:=Tryz.func170
theorem mx:(Tryz.f170.name == "runtime.NumGoroutine" || Tryz.f170.body.isNone)=false:=by kernel_rfl
abbrev rp:Nat:=171
theorem pS:Tryz.prog.funcs[171]?=some Tryz.f171:=Tryz.func171
theorem qv:(Tryz.f171.name == "runtime.NumGoroutine" || Tryz.f171.body.isNone)=false:=by kernel_rfl
abbrev rt:Nat:=172
theorem fS:Tryz.prog.funcs[172]?=some Tryz.f172:=Tryz.func172
theorem fP:(Tryz.f172.name == "runtime.NumGoroutine" || Tryz.f172.body.isNone)=false:=by kernel_rfl
abbrev yJ:Nat:=181
theorem wQ:Tryz.prog.funcs[181]?=some Tryz.f181:=Tryz.func181
theorem wW:(Tryz.f181.name == "runtime.NumGoroutine" || Tryz.f181.body.isNone)=false:=by kernel_rfl
abbrev Er:Nat:=182
theorem C4:Tryz.prog.funcs[182]?=some Tryz.f182:=Tryz.func182
theorem C2:(Tryz.f182.name == "runtime.NumGoroutine" || Tryz.f182.body.isNone)=false:=by kernel_rfl
abbrev AR:Nat:=183
theorem yP:Tryz.prog.funcs[183]?=some Tryz.f183:=Tryz.func183
theorem zw:(Tryz.f183.name == "runtime.NumGoroutine" || Tryz.f183.body.isNone)=false:=by kernel_rfl
abbrev CT:Nat:=184
theorem Cf:Tryz.prog.funcs[184]?=some Tryz.f184:=Tryz.func184
theorem Bh:(Tryz.f184.name == "runtime.NumGoroutine" || Tryz.f184.body.isNone)=false:=by kernel_rfl
abbrev AF:Nat:=185
theorem yI:Tryz.prog.funcs[185]?=some Tryz.f185:=Tryz.func185
theorem yD:(Tryz.f185.name == "runtime.NumGoroutine" || Tryz.f185.body.isNone)=false:=by kernel_rfl
abbrev n9:Nat:=186
theorem mX:Tryz.prog.funcs[186]?=some Tryz.f186:=Tryz.func186
theorem mZ:(Tryz.f186.name == "runtime.NumGoroutine" || Tryz.f186.body.isNone)=false:=by kernel_rfl
abbrev za:Nat:=192
theorem jd:Tryz.prog.funcs[192]?=some Tryz.f192:=Tryz.func192
theorem ji:(Tryz.f192.name == "runtime.NumGoroutine" || Tryz.f192.body.isNone)=false:=by kernel_rfl
abbrev Db:Nat:=193
theorem BO:Tryz.prog.funcs[193]?=some Tryz.f193:=Tryz.func193
theorem Be:(Tryz.f193.name == "runtime.NumGoroutine" || Tryz.f193.body.isNone)=false:=by kernel_rfl
abbrev CV:Nat:=194
theorem Bt:Tryz.prog.funcs[194]?=some Tryz.f194:=Tryz.func194
theorem BL:(Tryz.f194.name == "runtime.NumGoroutine" || Tryz.f194.body.isNone)=false:=by kernel_rfl

end Go.Proofs.YtfcbhfjomgopbaaGreat
