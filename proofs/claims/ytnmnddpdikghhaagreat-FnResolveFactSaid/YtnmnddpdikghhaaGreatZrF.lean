/- Made by program: names for the numbers of functions and types, and closed facts on them. -/
import Derived.Test.YtnmnddpdikghhaaGreatZrS
import Derived.Test.YtnmnddpdikghhaaGreatProg
import Derived.KernelRfl
namespace Go.Proofs.YtnmnddpdikghhaaGreat
open Go
abbrev dw:Nat:=3
theorem bg:n8 Tryz.prog 3=true:=by kernel_rfl
theorem Lh:iJ Tryz.prog 3=some (.int .i64 0):=by kernel_rfl
theorem gJ:Tryz.prog.underlying 3=some (.int .i64):=by kernel_rfl
abbrev Ga:Nat:=4
theorem oN:Tryz.prog.underlying 4=some .bool:=by kernel_rfl
abbrev Cy:Nat:=5
theorem xB:n8 Tryz.prog 5=true:=by kernel_rfl
theorem gh:Tryz.prog.underlying 5=some (.int .u8):=by kernel_rfl
abbrev i6:Nat:=9
theorem bz:n8 Tryz.prog 9=true:=by kernel_rfl
theorem bk:Tryz.prog.underlying 9=some .string:=by kernel_rfl
abbrev Dw:Nat:=22
theorem gZ:n8 Tryz.prog 22=true:=by kernel_rfl
theorem tT:oQ Tryz.prog 22=some (5,1,1,(.int .u8 0)):=by kernel_rfl
theorem dX:dY Tryz.prog 22=some (5,1):=by kernel_rfl
abbrev rF:Nat:=23
theorem aL:n8 Tryz.prog 23=true:=by kernel_rfl
theorem bC:oQ Tryz.prog 23=some (25,4,56,(.agg #[(.int .i64 0),(.int .i64 0),(.string ⟨#[]⟩),(.slice none 0 0)])):=by kernel_rfl
theorem aG:dY Tryz.prog 23=some (25,4):=by kernel_rfl
abbrev ab:Nat:=25
theorem ag:uf Tryz.prog 25=some 4:=by kernel_rfl
theorem bt:iJ Tryz.prog 25=some (.agg #[(.int .i64 0),(.int .i64 0),(.string ⟨#[]⟩),(.slice none 0 0)]):=by kernel_rfl
theorem bv:eP Tryz.prog 25 0=some 0:=by kernel_rfl
theorem bn:eP Tryz.prog 25 1=some 1:=by kernel_rfl
theorem bH:eP Tryz.prog 25 2=some 2:=by kernel_rfl
theorem aP:eP Tryz.prog 25 3=some 3:=by kernel_rfl
abbrev ac:Nat:=27
theorem aI:uf Tryz.prog 27=some 5:=by kernel_rfl
theorem bM:iJ Tryz.prog 27=some (.agg #[(.int .i64 0),(.int .i64 0),(.string ⟨#[]⟩),(.slice none 0 0),(.slice none 0 0)]):=by kernel_rfl
theorem bQ:eP Tryz.prog 27 0=some 0:=by kernel_rfl
theorem bl:eP Tryz.prog 27 1=some 4:=by kernel_rfl
theorem uW:oQ Tryz.prog 39=some (27,5,80,(.agg #[(.int .i64 0),(.int .i64 0),(.string ⟨#[]⟩),(.slice none 0 0),(.slice none 0 0)])):=by kernel_rfl
theorem km:dY Tryz.prog 39=some (27,5):=by kernel_rfl
theorem gK:Tryz.prog.underlying 51=some (.map 3 25):=by kernel_rfl
abbrev DF:Nat:=54
theorem fk:eP Tryz.prog 54 0=some 0:=by kernel_rfl
theorem n6:eP Tryz.prog 54 1=some 1:=by kernel_rfl
abbrev Bd:Nat:=55
theorem xI:oQ Tryz.prog 55=some (9,1,16,(.string ⟨#[]⟩)):=by kernel_rfl
theorem cH:dY Tryz.prog 55=some (9,1):=by kernel_rfl
abbrev jC:Nat:=65
theorem qq:n8 Tryz.prog 65=true:=by kernel_rfl
abbrev lN:Nat:=77
theorem Cn:n8 Tryz.prog 77=true:=by kernel_rfl
abbrev nK:Nat:=85
theorem xu:n8 Tryz.prog 85=true:=by kernel_rfl
theorem KM:iJ Tryz.prog 85=some (.slice none 0 0):=by kernel_rfl
theorem lM:oQ Tryz.prog 85=some (3,1,8,(.int .i64 0)):=by kernel_rfl
theorem gB:dY Tryz.prog 85=some (3,1):=by kernel_rfl
abbrev dU:Nat:=88
theorem vC:eP Tryz.prog 88 0=some 0:=by kernel_rfl
theorem vK:eP Tryz.prog 88 1=some 1:=by kernel_rfl
abbrev gX:Nat:=112
abbrev dc:Nat:=3
abbrev dG:Nat:=4
abbrev sk:Nat:=5
theorem jT:Tryz.prog.funcs[5]?=some Tryz.f5:=Tryz.func5
theorem jK:(Tryz.f5.name == "runtime.NumGoroutine" || Tryz.f5.body.isNone)=false:=by kernel_rfl
abbrev AR:Nat:=6
theorem nH:Tryz.prog.funcs[6]?=some Tryz.f6:=Tryz.func6
theorem m9:(Tryz.f6.name == "runtime.NumGoroutine" || Tryz.f6.body.isNone)=false:=by kernel_rfl
abbrev Af:Nat:=7
theorem nW:Tryz.prog.funcs[7]?=some Tryz.f7:=Tryz.func7
theorem nF:(Tryz.f7.name == "runtime.NumGoroutine" || Tryz.f7.body.isNone)=false:=by kernel_rfl
abbrev oC:Nat:=8
theorem fQ:Tryz.prog.funcs[8]?=some Tryz.f8:=Tryz.func8
theorem fR:(Tryz.f8.name == "runtime.NumGoroutine" || Tryz.f8.body.isNone)=false:=by kernel_rfl
abbrev yb:Nat:=9
theorem mG:Tryz.prog.funcs[9]?=some Tryz.f9:=Tryz.func9
theorem mE:(Tryz.f9.name == "runtime.NumGoroutine" || Tryz.f9.body.isNone)=false:=by kernel_rfl
abbrev qn:Nat:=10
theorem oW:Tryz.prog.funcs[10]?=some Tryz.f10:=Tryz.func10
theorem o8:(Tryz.f10.name == "runtime.NumGoroutine" || Tryz.f10.body.isNone)=false:=by kernel_rfl
abbrev wV:Nat:=11
theorem fe:Tryz.prog.funcs[11]?=some Tryz.f11:=Tryz.func11
theorem fb:(Tryz.f11.name == "runtime.NumGoroutine" || Tryz.f11.body.isNone)=false:=by kernel_rfl
abbrev DH:Nat:=12
theorem Ct:Tryz.prog.funcs[12]?=some Tryz.f12:=Tryz.func12
theorem B8:(Tryz.f12.name == "runtime.NumGoroutine" || Tryz.f12.body.isNone)=false:=by kernel_rfl
abbrev Ep:Nat:=13
theorem CO:Tryz.prog.funcs[13]?=some Tryz.f13:=Tryz.func13
theorem CJ:(Tryz.f13.name == "runtime.NumGoroutine" || Tryz.f13.body.isNone)=false:=by kernel_rfl
abbrev xV:Nat:=14
theorem bU:Tryz.prog.funcs[14]?=some Tryz.f14:=Tryz.func14
theorem bT:(Tryz.f14.name == "runtime.NumGoroutine" || Tryz.f14.body.isNone)=false:=by kernel_rfl
abbrev Ax:Nat:=15
theorem yj:Tryz.prog.funcs[15]?=some Tryz.f15:=Tryz.func15
theorem yN:(Tryz.f15.name == "runtime.NumGoroutine" || Tryz.f15.body.isNone)=false:=by kernel_rfl
abbrev BZ:Nat:=16
theorem pl:Tryz.prog.funcs[16]?=some Tryz.f16:=Tryz.func16
theorem pd:(Tryz.f16.name == "runtime.NumGoroutine" || Tryz.f16.body.isNone)=false:=by kernel_rfl
abbrev yh:Nat:=17
theorem wR:Tryz.prog.funcs[17]?=some Tryz.f17:=Tryz.func17
theorem wu:(Tryz.f17.name == "runtime.NumGoroutine" || Tryz.f17.body.isNone)=false:=by kernel_rfl
abbrev Aa:Nat:=18
theorem zg:Tryz.prog.funcs[18]?=some Tryz.f18:=Tryz.func18
theorem yo:(Tryz.f18.name == "runtime.NumGoroutine" || Tryz.f18.body.isNone)=false:=by kernel_rfl
abbrev wa:Nat:=19
theorem gz:Tryz.prog.funcs[19]?=some Tryz.f19:=Tryz.func19
theorem gx:(Tryz.f19.name == "runtime.NumGoroutine" || Tryz.f19.body.isNone)=false:=by kernel_rfl
abbrev B7:Nat:=20
theorem Ay:Tryz.prog.funcs[20]?=some Tryz.f20:=Tryz.func20
theorem AO:(Tryz.f20.name == "runtime.NumGoroutine" || Tryz.f20.body.isNone)=false:=by kernel_rfl
abbrev tQ:Nat:=21
theorem rK:Tryz.prog.funcs[21]?=some Tryz.f21:=Tryz.func21
theorem rr:(Tryz.f21.name == "runtime.NumGoroutine" || Tryz.f21.body.isNone)=false:=by kernel_rfl
abbrev yY:Nat:=22
theorem oA:Tryz.prog.funcs[22]?=some Tryz.f22:=Tryz.func22
theorem n9:(Tryz.f22.name == "runtime.NumGoroutine" || Tryz.f22.body.isNone)=false:=by kernel_rfl
abbrev me:Nat:=23
theorem kQ:Tryz.prog.funcs[23]?=some Tryz.f23:=Tryz.func23
theorem kP:(Tryz.f23.name == "runtime.NumGoroutine" || Tryz.f23.body.isNone)=false:=by kernel_rfl
abbrev qM:Nat:=24
theorem jp:Tryz.prog.funcs[24]?=some Tryz.f24:=Tryz.func24
theorem jl:(Tryz.f24.name == "runtime.NumGoroutine" || Tryz.f24.body.isNone)=false:=by kernel_rfl
abbrev AC:Nat:=25
theorem hZ:Tryz.prog.funcs[25]?=some Tryz.f25:=Tryz.func25
theorem ik:(Tryz.f25.name == "runtime.NumGoroutine" || Tryz.f25.body.isNone)=false:=by kernel_rfl
abbrev Dj:Nat:=26
theorem pR:Tryz.prog.funcs[26]?=some Tryz.f26:=Tryz.func26
theorem pv:(Tryz.f26.name == "runtime.NumGoroutine" || Tryz.f26.body.isNone)=false:=by kernel_rfl
abbrev AQ:Nat:=27
theorem nJ:Tryz.prog.funcs[27]?=some Tryz.f27:=Tryz.func27
theorem na:(Tryz.f27.name == "runtime.NumGoroutine" || Tryz.f27.body.isNone)=false:=by kernel_rfl
abbrev rn:Nat:=28
theorem pf:Tryz.prog.funcs[28]?=some Tryz.f28:=Tryz.func28
theorem pj:(Tryz.f28.name == "runtime.NumGoroutine" || Tryz.f28.body.isNone)=false:=by kernel_rfl
abbrev Ff:Nat:=29
theorem lV:Tryz.prog.funcs[29]?=some Tryz.f29:=Tryz.func29
theorem mc:(Tryz.f29.name == "runtime.NumGoroutine" || Tryz.f29.body.isNone)=false:=by kernel_rfl
abbrev zv:Nat:=30
theorem xi:Tryz.prog.funcs[30]?=some Tryz.f30:=Tryz.func30
theorem we:(Tryz.f30.name == "runtime.NumGoroutine" || Tryz.f30.body.isNone)=false:=by kernel_rfl
abbrev Cu:Nat:=31
theorem pL:Tryz.prog.funcs[31]?=some Tryz.f31:=Tryz.func31
theorem pg:(Tryz.f31.name == "runtime.NumGoroutine" || Tryz.f31.body.isNone)=false:=by kernel_rfl
abbrev lp:Nat:=32
theorem j7:Tryz.prog.funcs[32]?=some Tryz.f32:=Tryz.func32
theorem ku:(Tryz.f32.name == "runtime.NumGoroutine" || Tryz.f32.body.isNone)=false:=by kernel_rfl
abbrev y4:Nat:=33
theorem xg:Tryz.prog.funcs[33]?=some Tryz.f33:=Tryz.func33
theorem wM:(Tryz.f33.name == "runtime.NumGoroutine" || Tryz.f33.body.isNone)=false:=by kernel_rfl
abbrev yf:Nat:=34
theorem wF:Tryz.prog.funcs[34]?=some Tryz.f34:=Tryz.func34
theorem wJ:(Tryz.f34.name == "runtime.NumGoroutine" || Tryz.f34.body.isNone)=false:=by kernel_rfl
abbrev Fi:Nat:=35
theorem CL:Tryz.prog.funcs[35]?=some Tryz.f35:=Tryz.func35
theorem B5:(Tryz.f35.name == "runtime.NumGoroutine" || Tryz.f35.body.isNone)=false:=by kernel_rfl
abbrev C2:Nat:=36
theorem po:Tryz.prog.funcs[36]?=some Tryz.f36:=Tryz.func36
theorem pO:(Tryz.f36.name == "runtime.NumGoroutine" || Tryz.f36.body.isNone)=false:=by kernel_rfl
abbrev GG:Nat:=37
theorem vf:Tryz.prog.funcs[37]?=some Tryz.f37:=Tryz.func37
theorem vD:(Tryz.f37.name == "runtime.NumGoroutine" || Tryz.f37.body.isNone)=false:=by kernel_rfl
abbrev ru:Nat:=38
theorem dZ:Tryz.prog.funcs[38]?=some Tryz.f38:=Tryz.func38
theorem d4:(Tryz.f38.name == "runtime.NumGoroutine" || Tryz.f38.body.isNone)=false:=by kernel_rfl
abbrev Cj:Nat:=39
theorem iS:Tryz.prog.funcs[39]?=some Tryz.f39:=Tryz.func39
theorem iW:(Tryz.f39.name == "runtime.NumGoroutine" || Tryz.f39.body.isNone)=false:=by kernel_rfl
abbrev C5:Nat:=40
theorem AB:Tryz.prog.funcs[40]?=some Tryz.f40:=Tryz.func40
theorem At:(Tryz.f40.name == "runtime.NumGoroutine" || Tryz.f40.body.isNone)=false:=by kernel_rfl
abbrev mK:Nat:=41
theorem lj:Tryz.prog.funcs[41]?=some Tryz.f41:=Tryz.func41
theorem kY:(Tryz.f41.name == "runtime.NumGoroutine" || Tryz.f41.body.isNone)=false:=by kernel_rfl
abbrev CT:Nat:=42
theorem px:Tryz.prog.funcs[42]?=some Tryz.f42:=Tryz.func42
theorem pG:(Tryz.f42.name == "runtime.NumGoroutine" || Tryz.f42.body.isNone)=false:=by kernel_rfl
abbrev wO:Nat:=43
theorem lk:Tryz.prog.funcs[43]?=some Tryz.f43:=Tryz.func43
theorem kV:(Tryz.f43.name == "runtime.NumGoroutine" || Tryz.f43.body.isNone)=false:=by kernel_rfl
abbrev nZ:Nat:=44
theorem il:Tryz.prog.funcs[44]?=some Tryz.f44:=Tryz.func44
theorem h8:(Tryz.f44.name == "runtime.NumGoroutine" || Tryz.f44.body.isNone)=false:=by kernel_rfl
abbrev sn:Nat:=45
theorem p6:Tryz.prog.funcs[45]?=some Tryz.f45:=Tryz.func45
theorem pV:(Tryz.f45.name == "runtime.NumGoroutine" || Tryz.f45.body.isNone)=false:=by kernel_rfl
abbrev AK:Nat:=46
theorem mT:Tryz.prog.funcs[46]?=some Tryz.f46:=Tryz.func46
theorem mU:(Tryz.f46.name == "runtime.NumGoroutine" || Tryz.f46.body.isNone)=false:=by kernel_rfl
abbrev Ar:Nat:=47
theorem ob:Tryz.prog.funcs[47]?=some Tryz.f47:=Tryz.func47
theorem nC:(Tryz.f47.name == "runtime.NumGoroutine" || Tryz.f47.body.isNone)=false:=by kernel_rfl
abbrev Es:Nat:=48
theorem lS:Tryz.prog.funcs[48]?=some Tryz.f48:=Tryz.func48
theorem l3:(Tryz.f48.name == "runtime.NumGoroutine" || Tryz.f48.body.isNone)=false:=by kernel_rfl
abbrev Cw:Nat:=49
theorem zR:Tryz.prog.funcs[49]?=some Tryz.f49:=Tryz.func49
theorem zQ:(Tryz.f49.name == "runtime.NumGoroutine" || Tryz.f49.body.isNone)=false:=by kernel_rfl
abbrev DC:Nat:=50
theorem lR:Tryz.prog.funcs[50]?=some Tryz.f50:=Tryz.func50
theorem l8:(Tryz.f50.name == "runtime.NumGoroutine" || Tryz.f50.body.isNone)=false:=by kernel_rfl
abbrev EB:Nat:=51
theorem CY:Tryz.prog.funcs[51]?=some Tryz.f51:=Tryz.func51
theorem BX:(Tryz.f51.name == "runtime.NumGoroutine" || Tryz.f51.body.isNone)=false:=by kernel_rfl
abbrev zw:Nat:=52
theorem wQ:Tryz.prog.funcs[52]?=some Tryz.f52:=Tryz.func52
theorem wZ:(Tryz.f52.name == "runtime.NumGoroutine" || Tryz.f52.body.isNone)=false:=by kernel_rfl
abbrev qC:Nat:=53
theorem fp:Tryz.prog.funcs[53]?=some Tryz.f53:=Tryz.func53
theorem fu:(Tryz.f53.name == "runtime.NumGoroutine" || Tryz.f53.body.isNone)=false:=by kernel_rfl
abbrev KB:Nat:=54
theorem Bp:Tryz.prog.funcs[54]?=some Tryz.f54:=Tryz.func54
theorem A2:(Tryz.f54.name == "runtime.NumGoroutine" || Tryz.f54.body.isNone)=false:=by kernel_rfl
abbrev HU:Nat:=55
theorem EN:Tryz.prog.funcs[55]?=some Tryz.f55:=Tryz.func55
theorem DW:(Tryz.f55.name == "runtime.NumGoroutine" || Tryz.f55.body.isNone)=false:=by kernel_rfl
abbrev vy:Nat:=56
theorem sv:Tryz.prog.funcs[56]?=some Tryz.f56:=Tryz.func56
theorem qZ:(Tryz.f56.name == "runtime.NumGoroutine" || Tryz.f56.body.isNone)=false:=by kernel_rfl
abbrev yl:Nat:=57
theorem wx:Tryz.prog.funcs[57]?=some Tryz.f57:=Tryz.func57
theorem wX:(Tryz.f57.name == "runtime.NumGoroutine" || Tryz.f57.body.isNone)=false:=by kernel_rfl
abbrev Ai:Nat:=58
theorem yt:Tryz.prog.funcs[58]?=some Tryz.f58:=Tryz.func58
theorem ym:(Tryz.f58.name == "runtime.NumGoroutine" || Tryz.f58.body.isNone)=false:=by kernel_rfl
abbrev Ao:Nat:=59
theorem od:Tryz.prog.funcs[59]?=some Tryz.f59:=Tryz.func59
theorem nr:(Tryz.f59.name == "runtime.NumGoroutine" || Tryz.f59.body.isNone)=false:=by kernel_rfl
abbrev Km:Nat:=60
theorem IH:Tryz.prog.funcs[60]?=some Tryz.f60:=Tryz.func60
theorem Jk:(Tryz.f60.name == "runtime.NumGoroutine" || Tryz.f60.body.isNone)=false:=by kernel_rfl
abbrev EU:Nat:=61
theorem sq:Tryz.prog.funcs[61]?=some Tryz.f61:=Tryz.func61
theorem sc:(Tryz.f61.name == "runtime.NumGoroutine" || Tryz.f61.body.isNone)=false:=by kernel_rfl
abbrev iG:Nat:=62
theorem fI:Tryz.prog.funcs[62]?=some Tryz.f62:=Tryz.func62
theorem fJ:(Tryz.f62.name == "runtime.NumGoroutine" || Tryz.f62.body.isNone)=false:=by kernel_rfl
abbrev lm:Nat:=63
theorem r7:Tryz.prog.funcs[63]?=some Tryz.f63:=Tryz.func63
theorem rh:(Tryz.f63.name == "runtime.NumGoroutine" || Tryz.f63.body.isNone)=false:=by kernel_rfl
abbrev z7:Nat:=64
theorem yW:Tryz.prog.funcs[64]?=some Tryz.f64:=Tryz.func64
theorem xX:(Tryz.f64.name == "runtime.NumGoroutine" || Tryz.f64.body.isNone)=false:=by kernel_rfl
abbrev Gb:Nat:=65
theorem Fr:Tryz.prog.funcs[65]?=some Tryz.f65:=Tryz.func65
theorem E6:(Tryz.f65.name == "runtime.NumGoroutine" || Tryz.f65.body.isNone)=false:=by kernel_rfl
abbrev v6:Nat:=66
theorem ud:Tryz.prog.funcs[66]?=some Tryz.f66:=Tryz.func66
theorem tA:(Tryz.f66.name == "runtime.NumGoroutine" || Tryz.f66.body.isNone)=false:=by kernel_rfl
abbrev DB:Nat:=67
theorem r6:Tryz.prog.funcs[67]?=some Tryz.f67:=Tryz.func67
theorem tq:(Tryz.f67.name == "runtime.NumGoroutine" || Tryz.f67.body.isNone)=false:=by kernel_rfl
abbrev yp:Nat:=68
theorem xj:Tryz.prog.funcs[68]?=some Tryz.f68:=Tryz.func68
theorem wt:(Tryz.f68.name == "runtime.NumGoroutine" || Tryz.f68.body.isNone)=false:=by kernel_rfl
abbrev zV:Nat:=69
theorem gd:Tryz.prog.funcs[69]?=some Tryz.f69:=Tryz.func69
theorem gk:(Tryz.f69.name == "runtime.NumGoroutine" || Tryz.f69.body.isNone)=false:=by kernel_rfl
abbrev Iv:Nat:=70
theorem p5:Tryz.prog.funcs[70]?=some Tryz.f70:=Tryz.func70
theorem qf:(Tryz.f70.name == "runtime.NumGoroutine" || Tryz.f70.body.isNone)=false:=by kernel_rfl
abbrev Gl:Nat:=71
theorem j6:Tryz.prog.funcs[71]?=some Tryz.f71:=Tryz.func71
theorem kD:(Tryz.f71.name == "runtime.NumGoroutine" || Tryz.f71.body.isNone)=false:=by kernel_rfl
abbrev yZ:Nat:=72
theorem gT:Tryz.prog.funcs[72]?=some Tryz.f72:=Tryz.func72
theorem gQ:(Tryz.f72.name == "runtime.NumGoroutine" || Tryz.f72.body.isNone)=false:=by kernel_rfl
abbrev yU:Nat:=73
theorem mp:Tryz.prog.funcs[73]?=some Tryz.f73:=Tryz.func73
theorem mr:(Tryz.f73.name == "runtime.NumGoroutine" || Tryz.f73.body.isNone)=false:=by kernel_rfl
abbrev oT:Nat:=74
theorem i4:Tryz.prog.funcs[74]?=some Tryz.f74:=Tryz.func74
theorem i7:(Tryz.f74.name == "runtime.NumGoroutine" || Tryz.f74.body.isNone)=false:=by kernel_rfl
abbrev FT:Nat:=75
theorem DD:Tryz.prog.funcs[75]?=some Tryz.f75:=Tryz.func75
theorem Fd:(Tryz.f75.name == "runtime.NumGoroutine" || Tryz.f75.body.isNone)=false:=by kernel_rfl
abbrev DR:Nat:=76
theorem r9:Tryz.prog.funcs[76]?=some Tryz.f76:=Tryz.func76
theorem s7:(Tryz.f76.name == "runtime.NumGoroutine" || Tryz.f76.body.isNone)=false:=by kernel_rfl
abbrev EY:Nat:=77
theorem ri:Tryz.prog.funcs[77]?=some Tryz.f77:=Tryz.func77
theorem s6:(Tryz.f77.name == "runtime.NumGoroutine" || Tryz.f77.body.isNone)=false:=by kernel_rfl
abbrev GR:Nat:=78
theorem vr:Tryz.prog.funcs[78]?=some Tryz.f78:=Tryz.func78
theorem vP:(Tryz.f78.name == "runtime.NumGoroutine" || Tryz.f78.body.isNone)=false:=by kernel_rfl
abbrev zO:Nat:=79
theorem nY:Tryz.prog.funcs[79]?=some Tryz.f79:=Tryz.func79
theorem nn:(Tryz.f79.name == "runtime.NumGoroutine" || Tryz.f79.body.isNone)=false:=by kernel_rfl
abbrev Dz:Nat:=80
theorem fG:Tryz.prog.funcs[80]?=some Tryz.f80:=Tryz.func80
theorem fK:(Tryz.f80.name == "runtime.NumGoroutine" || Tryz.f80.body.isNone)=false:=by kernel_rfl
abbrev Dm:Nat:=81
theorem lW:Tryz.prog.funcs[81]?=some Tryz.f81:=Tryz.func81
theorem lO:(Tryz.f81.name == "runtime.NumGoroutine" || Tryz.f81.body.isNone)=false:=by kernel_rfl
abbrev FN:Nat:=82
theorem nv:Tryz.prog.funcs[82]?=some Tryz.f82:=Tryz.func82
theorem nI:(Tryz.f82.name == "runtime.NumGoroutine" || Tryz.f82.body.isNone)=false:=by kernel_rfl
abbrev CG:Nat:=83
theorem z9:Tryz.prog.funcs[83]?=some Tryz.f83:=Tryz.func83
theorem Ap:(Tryz.f83.name == "runtime.NumGoroutine" || Tryz.f83.body.isNone)=false:=by kernel_rfl
abbrev Gy:Nat:=84
theorem vO:Tryz.prog.funcs[84]?=some Tryz.f84:=Tryz.func84
theorem vj:(Tryz.f84.name == "runtime.NumGoroutine" || Tryz.f84.body.isNone)=false:=by kernel_rfl
abbrev Hu:Nat:=85
theorem vM:Tryz.prog.funcs[85]?=some Tryz.f85:=Tryz.func85
theorem vQ:(Tryz.f85.name == "runtime.NumGoroutine" || Tryz.f85.body.isNone)=false:=by kernel_rfl
abbrev G9:Nat:=86
theorem j9:Tryz.prog.funcs[86]?=some Tryz.f86:=Tryz.func86
theorem kE:(Tryz.f86.name == "runtime.NumGoroutine" || Tryz.f86.body.isNone)=false:=by kernel_rfl
abbrev Dg:Nat:=87
theorem pQ:Tryz.prog.funcs[87]?=some Tryz.f87:=Tryz.func87
theorem pF:(Tryz.f87.name == "runtime.NumGoroutine" || Tryz.f87.body.isNone)=false:=by kernel_rfl
abbrev F0:Nat:=88
theorem oj:Tryz.prog.funcs[88]?=some Tryz.f88:=Tryz.func88
theorem ov:(Tryz.f88.name == "runtime.NumGoroutine" || Tryz.f88.body.isNone)=false:=by kernel_rfl
abbrev AA:Nat:=89
theorem yq:Tryz.prog.funcs[89]?=some Tryz.f89:=Tryz.func89
theorem zt:(Tryz.f89.name == "runtime.NumGoroutine" || Tryz.f89.body.isNone)=false:=by kernel_rfl
abbrev Gi:Nat:=90
theorem EG:Tryz.prog.funcs[90]?=some Tryz.f90:=Tryz.func90
theorem ED:(Tryz.f90.name == "runtime.NumGoroutine" || Tryz.f90.body.isNone)=false:=by kernel_rfl
abbrev HF:Nat:=91
theorem Eb:Tryz.prog.funcs[91]?=some Tryz.f91:=Tryz.func91
theorem Et:(Tryz.f91.name == "runtime.NumGoroutine" || Tryz.f91.body.isNone)=false:=by kernel_rfl
abbrev gA:Nat:=92
theorem rj:Tryz.prog.funcs[92]?=some Tryz.f92:=Tryz.func92
theorem qY:(Tryz.f92.name == "runtime.NumGoroutine" || Tryz.f92.body.isNone)=false:=by kernel_rfl
abbrev z0:Nat:=93
theorem ni:Tryz.prog.funcs[93]?=some Tryz.f93:=Tryz.func93
theorem nP:(Tryz.f93.name == "runtime.NumGoroutine" || Tryz.f93.body.isNone)=false:=by kernel_rfl
abbrev EF:Nat:=94
theorem C1:Tryz.prog.funcs[94]?=some Tryz.f94:=Tryz.func94
theorem CP:(Tryz.f94.name == "runtime.NumGoroutine" || Tryz.f94.body.isNone)=false:=by kernel_rfl
abbrev z3:Nat:=95
theorem yS:Tryz.prog.funcs[95]?=some Tryz.f95:=Tryz.func95
theorem ye:(Tryz.f95.name == "runtime.NumGoroutine" || Tryz.f95.body.isNone)=false:=by kernel_rfl
abbrev jU:Nat:=96
theorem jm:Tryz.prog.funcs[96]?=some Tryz.f96:=Tryz.func96
theorem js:(Tryz.f96.name == "runtime.NumGoroutine" || Tryz.f96.body.isNone)=false:=by kernel_rfl
abbrev IA:Nat:=97
theorem GE:Tryz.prog.funcs[97]?=some Tryz.f97:=Tryz.func97
theorem Hr:(Tryz.f97.name == "runtime.NumGoroutine" || Tryz.f97.body.isNone)=false:=by kernel_rfl
abbrev GZ:Nat:=98
theorem gn:Tryz.prog.funcs[98]?=some Tryz.f98:=Tryz.func98
theorem gq:(Tryz.f98.name == "runtime.NumGoroutine" || Tryz.f98.body.isNone)=false:=by kernel_rfl
abbrev F7:Nat:=99
theorem dv:Tryz.prog.funcs[99]?=some Tryz.f99:=Tryz.func99
theorem du:(Tryz.f99.name == "runtime.NumGoroutine" || Tryz.f99.body.isNone)=false:=by kernel_rfl
abbrev tR:Nat:=100
theorem rt:Tryz.prog.funcs[100]?=some Tryz.f100:=Tryz.func100
theorem sX:(Tryz.f100.name == "runtime.NumGoroutine" || Tryz.f100.body.isNone)=false:=by kernel_rfl
abbrev Jh:Nat:=101
theorem yu:Tryz.prog.funcs[101]?=some Tryz.f101:=Tryz.func101
theorem yD:(Tryz.f101.name == "runtime.NumGoroutine" || Tryz.f101.body.isNone)=false:=by kernel_rfl
abbrev tD:Nat:=102
theorem hY:Tryz.prog.funcs[102]?=some Tryz.f102:=Tryz.func102
theorem ig:(Tryz.f102.name == "runtime.NumGoroutine" || Tryz.f102.body.isNone)=false:=by kernel_rfl
abbrev Ir:Nat:=103
theorem Hf:Tryz.prog.funcs[103]?=some Tryz.f103:=Tryz.func103
theorem Hk:(Tryz.f103.name == "runtime.NumGoroutine" || Tryz.f103.body.isNone)=false:=by kernel_rfl
abbrev IV:Nat:=104
theorem GH:Tryz.prog.funcs[104]?=some Tryz.f104:=Tryz.func104
theorem Gk:(Tryz.f104.name == "runtime.NumGoroutine" || Tryz.f104.body.isNone)=false:=by kernel_rfl
abbrev oZ:Nat:=105
theorem oF:Tryz.prog.funcs[105]?=some Tryz.f105:=Tryz.func105
theorem nG:(Tryz.f105.name == "runtime.NumGoroutine" || Tryz.f105.body.isNone)=false:=by kernel_rfl
abbrev Fp:Nat:=106
theorem CF:Tryz.prog.funcs[106]?=some Tryz.f106:=Tryz.func106
theorem C8:(Tryz.f106.name == "runtime.NumGoroutine" || Tryz.f106.body.isNone)=false:=by kernel_rfl
abbrev Ft:Nat:=107
theorem tl:Tryz.prog.funcs[107]?=some Tryz.f107:=Tryz.func107
theorem rl:(Tryz.f107.name == "runtime.NumGoroutine" || Tryz.f107.body.isNone)=false:=by kernel_rfl
abbrev F8:Nat:=108
theorem EK:Tryz.prog.funcs[108]?=some Tryz.f108:=Tryz.func108
theorem DS:(Tryz.f108.name == "runtime.NumGoroutine" || Tryz.f108.body.isNone)=false:=by kernel_rfl
abbrev DK:Nat:=109
theorem Df:Tryz.prog.funcs[109]?=some Tryz.f109:=Tryz.func109
theorem BR:(Tryz.f109.name == "runtime.NumGoroutine" || Tryz.f109.body.isNone)=false:=by kernel_rfl
abbrev KA:Nat:=110
theorem Il:Tryz.prog.funcs[110]?=some Tryz.f110:=Tryz.func110
theorem IW:(Tryz.f110.name == "runtime.NumGoroutine" || Tryz.f110.body.isNone)=false:=by kernel_rfl
abbrev FW:Nat:=111
theorem Eo:Tryz.prog.funcs[111]?=some Tryz.f111:=Tryz.func111
theorem Ey:(Tryz.f111.name == "runtime.NumGoroutine" || Tryz.f111.body.isNone)=false:=by kernel_rfl
abbrev pX:Nat:=112
theorem oR:Tryz.prog.funcs[112]?=some Tryz.f112:=Tryz.func112
theorem oU:(Tryz.f112.name == "runtime.NumGoroutine" || Tryz.f112.body.isNone)=false:=by kernel_rfl
abbrev Am:Nat:=113
theorem x0:Tryz.prog.funcs[113]?=some Tryz.f113:=Tryz.func113
theorem yz:(Tryz.f113.name == "runtime.NumGoroutine" || Tryz.f113.body.isNone)=false:=by kernel_rfl
abbrev tX:Nat:=114
theorem rf:Tryz.prog.funcs[114]?=some Tryz.f114:=Tryz.func114
theorem s3:(Tryz.f114.name == "runtime.NumGoroutine" || Tryz.f114.body.isNone)=false:=by kernel_rfl
abbrev tF:Nat:=115
theorem rg:Tryz.prog.funcs[115]?=some Tryz.f115:=Tryz.func115
theorem sa:(Tryz.f115.name == "runtime.NumGoroutine" || Tryz.f115.body.isNone)=false:=by kernel_rfl
abbrev EW:Nat:=117
theorem CH:Tryz.prog.funcs[117]?=some Tryz.f117:=Tryz.func117
theorem C6:(Tryz.f117.name == "runtime.NumGoroutine" || Tryz.f117.body.isNone)=false:=by kernel_rfl
abbrev D7:Nat:=118
theorem jx:Tryz.prog.funcs[118]?=some Tryz.f118:=Tryz.func118
theorem jy:(Tryz.f118.name == "runtime.NumGoroutine" || Tryz.f118.body.isNone)=false:=by kernel_rfl
abbrev Cg:Nat:=119
theorem AG:Tryz.prog.funcs[119]?=some Tryz.f119:=Tryz.func119
theorem AL:(Tryz.f119.name == "runtime.NumGoroutine" || Tryz.f119.body.isNone)=false:=by kernel_rfl
abbrev Hs:Nat:=120
theorem vE:Tryz.prog.funcs[120]?=some Tryz.f120:=Tryz.func120
theorem vz:(Tryz.f120.name == "runtime.NumGoroutine" || Tryz.f120.body.isNone)=false:=by kernel_rfl
abbrev ET:Nat:=121
theorem re:Tryz.prog.funcs[121]?=some Tryz.f121:=Tryz.func121
theorem sG:(Tryz.f121.name == "runtime.NumGoroutine" || Tryz.f121.body.isNone)=false:=by kernel_rfl
abbrev F5:Nat:=122
theorem gl:Tryz.prog.funcs[122]?=some Tryz.f122:=Tryz.func122
theorem gf:(Tryz.f122.name == "runtime.NumGoroutine" || Tryz.f122.body.isNone)=false:=by kernel_rfl
abbrev IM:Nat:=123
theorem FF:Tryz.prog.funcs[123]?=some Tryz.f123:=Tryz.func123
theorem Hv:(Tryz.f123.name == "runtime.NumGoroutine" || Tryz.f123.body.isNone)=false:=by kernel_rfl
abbrev EQ:Nat:=124
theorem rb:Tryz.prog.funcs[124]?=some Tryz.f124:=Tryz.func124
theorem sY:(Tryz.f124.name == "runtime.NumGoroutine" || Tryz.f124.body.isNone)=false:=by kernel_rfl
abbrev DQ:Nat:=125
theorem sF:Tryz.prog.funcs[125]?=some Tryz.f125:=Tryz.func125
theorem su:(Tryz.f125.name == "runtime.NumGoroutine" || Tryz.f125.body.isNone)=false:=by kernel_rfl
abbrev Hc:Nat:=126
theorem Eg:Tryz.prog.funcs[126]?=some Tryz.f126:=Tryz.func126
theorem ES:(Tryz.f126.name == "runtime.NumGoroutine" || Tryz.f126.body.isNone)=false:=by kernel_rfl
abbrev Dv:Nat:=127
theorem sS:Tryz.prog.funcs[127]?=some Tryz.f127:=Tryz.func127
theorem sw:(Tryz.f127.name == "runtime.NumGoroutine" || Tryz.f127.body.isNone)=false:=by kernel_rfl
abbrev Gq:Nat:=128
theorem np:Tryz.prog.funcs[128]?=some Tryz.f128:=Tryz.func128
theorem nL:(Tryz.f128.name == "runtime.NumGoroutine" || Tryz.f128.body.isNone)=false:=by kernel_rfl
abbrev Gg:Nat:=129
theorem EM:Tryz.prog.funcs[129]?=some Tryz.f129:=Tryz.func129
theorem Fm:(Tryz.f129.name == "runtime.NumGoroutine" || Tryz.f129.body.isNone)=false:=by kernel_rfl
abbrev Ed:Nat:=130
theorem sU:Tryz.prog.funcs[130]?=some Tryz.f130:=Tryz.func130
theorem sT:(Tryz.f130.name == "runtime.NumGoroutine" || Tryz.f130.body.isNone)=false:=by kernel_rfl
abbrev FM:Nat:=131
theorem D5:Tryz.prog.funcs[131]?=some Tryz.f131:=Tryz.func131
theorem E8:(Tryz.f131.name == "runtime.NumGoroutine" || Tryz.f131.body.isNone)=false:=by kernel_rfl
abbrev Ca:Nat:=132
theorem Aj:Tryz.prog.funcs[132]?=some Tryz.f132:=Tryz.func132
theorem Aw:(Tryz.f132.name == "runtime.NumGoroutine" || Tryz.f132.body.isNone)=false:=by kernel_rfl
abbrev EL:Nat:=133
theorem CN:Tryz.prog.funcs[133]?=some Tryz.f133:=Tryz.func133
theorem Da:(Tryz.f133.name == "runtime.NumGoroutine" || Tryz.f133.body.isNone)=false:=by kernel_rfl
abbrev FJ:Nat:=134
theorem oz:Tryz.prog.funcs[134]?=some Tryz.f134:=Tryz.func134
theorem oa:(Tryz.f134.name == "runtime.NumGoroutine" || Tryz.f134.body.isNone)=false:=by kernel_rfl
abbrev GK:Nat:=135
theorem DM:Tryz.prog.funcs[135]?=some Tryz.f135:=Tryz.func135
theorem EJ:(Tryz.f135.name == "runtime.NumGoroutine" || Tryz.f135.body.isNone)=false:=by kernel_rfl
abbrev IU:Nat:=136
theorem Gm:Tryz.prog.funcs[136]?=some Tryz.f136:=Tryz.func136
theorem HI:(Tryz.f136.name == "runtime.NumGoroutine" || Tryz.f136.body.isNone)=false:=by kernel_rfl
abbrev Gj:Nat:=137
theorem vi:Tryz.prog.funcs[137]?=some Tryz.f137:=Tryz.func137
theorem vk:(Tryz.f137.name == "runtime.NumGoroutine" || Tryz.f137.body.isNone)=false:=by kernel_rfl
abbrev Av:Nat:=138
theorem nD:Tryz.prog.funcs[138]?=some Tryz.f138:=Tryz.func138
theorem ny:(Tryz.f138.name == "runtime.NumGoroutine" || Tryz.f138.body.isNone)=false:=by kernel_rfl
abbrev Ei:Nat:=139
theorem BM:Tryz.prog.funcs[139]?=some Tryz.f139:=Tryz.func139
theorem Cv:(Tryz.f139.name == "runtime.NumGoroutine" || Tryz.f139.body.isNone)=false:=by kernel_rfl
abbrev Co:Nat:=140
theorem Al:Tryz.prog.funcs[140]?=some Tryz.f140:=Tryz.func140
theorem zN:(Tryz.f140.name == "runtime.NumGoroutine" || Tryz.f140.body.isNone)=false:=by kernel_rfl
abbrev ID:Nat:=141
theorem Hy:Tryz.prog.funcs[141]?=some Tryz.f141:=Tryz.func141
theorem Fx:(Tryz.f141.name == "runtime.NumGoroutine" || Tryz.f141.body.isNone)=false:=by kernel_rfl
abbrev G2:Nat:=143
theorem uU:Tryz.prog.funcs[143]?=some Tryz.f143:=Tryz.func143
theorem vR:(Tryz.f143.name == "runtime.NumGoroutine" || Tryz.f143.body.isNone)=false:=by kernel_rfl

end Go.Proofs.YtnmnddpdikghhaaGreat
