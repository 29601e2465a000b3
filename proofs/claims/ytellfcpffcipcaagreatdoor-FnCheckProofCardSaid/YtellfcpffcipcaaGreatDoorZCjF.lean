/- Made by program: names for the numbers of functions and types, and closed facts on them. -/
import Derived.Test.YtellfcpffcipcaaGreatDoorZCjS
import Derived.Test.YtellfcpffcipcaaGreatDoorProg
import Derived.KernelRfl
namespace Go.Proofs.YtellfcpffcipcaaGreatDoor
open Go
abbrev bo (f:Func):Bool:=f.name == "runtime.NumGoroutine" || f.body.isNone
abbrev cR:Nat:=3
theorem aw:jK Tryz.prog 3=true:=by kernel_rfl
theorem UP:fY Tryz.prog 3=some (.int .i64 0):=by kernel_rfl
theorem gO:Tryz.prog.underlying 3=some (.int .i64):=by kernel_rfl
abbrev UN:Nat:=4
theorem WY:jK Tryz.prog 4=true:=by kernel_rfl
theorem B0:Tryz.prog.underlying 4=some .bool:=by kernel_rfl
abbrev Pj:Nat:=5
theorem HZ:jK Tryz.prog 5=true:=by kernel_rfl
theorem jd:Tryz.prog.underlying 5=some (.int .u8):=by kernel_rfl
abbrev jf:Nat:=9
theorem aP:jK Tryz.prog 9=true:=by kernel_rfl
theorem bg:Tryz.prog.underlying 9=some .string:=by kernel_rfl
abbrev RW:Nat:=22
theorem kT:jK Tryz.prog 22=true:=by kernel_rfl
theorem D0:iP Tryz.prog 22=some (5,1,1,(.int .u8 0)):=by kernel_rfl
theorem fW:dt Tryz.prog 22=some (5,1):=by kernel_rfl
abbrev VM:Nat:=23
theorem vE:jK Tryz.prog 23=true:=by kernel_rfl
theorem ni:iP Tryz.prog 23=some (50,5,80,(.agg #[(.int .i64 0),(.int .i64 0),(.string ⟨#[]⟩),(.slice none 0 0),(.slice none 0 0)])):=by kernel_rfl
theorem cr:dt Tryz.prog 23=some (50,5):=by kernel_rfl
abbrev vB:Nat:=24
theorem aj:jK Tryz.prog 24=true:=by kernel_rfl
theorem bx:iP Tryz.prog 24=some (26,4,56,(.agg #[(.int .i64 0),(.int .i64 0),(.string ⟨#[]⟩),(.slice none 0 0)])):=by kernel_rfl
theorem ag:dt Tryz.prog 24=some (26,4):=by kernel_rfl
abbrev ab:Nat:=26
theorem ac:oE Tryz.prog 26=some 4:=by kernel_rfl
theorem aV:fY Tryz.prog 26=some (.agg #[(.int .i64 0),(.int .i64 0),(.string ⟨#[]⟩),(.slice none 0 0)]):=by kernel_rfl
theorem aM:bC Tryz.prog 26 0=some 0:=by kernel_rfl
theorem aQ:bC Tryz.prog 26 1=some 1:=by kernel_rfl
theorem aW:bC Tryz.prog 26 2=some 2:=by kernel_rfl
theorem ao:bC Tryz.prog 26 3=some 3:=by kernel_rfl
abbrev MH:Nat:=27
theorem bT:jK Tryz.prog 27=true:=by kernel_rfl
theorem kC:iP Tryz.prog 27=some (29,6,88,(.agg #[(.int .i64 0),(.int .i64 0),(.string ⟨#[]⟩),(.slice none 0 0),(.int .i64 0),(.slice none 0 0)])):=by kernel_rfl
theorem cK:dt Tryz.prog 27=some (29,6):=by kernel_rfl
abbrev ar:Nat:=29
theorem bp:oE Tryz.prog 29=some 6:=by kernel_rfl
theorem fG:fY Tryz.prog 29=some (.agg #[(.int .i64 0),(.int .i64 0),(.string ⟨#[]⟩),(.slice none 0 0),(.int .i64 0),(.slice none 0 0)]):=by kernel_rfl
theorem dE:bC Tryz.prog 29 0=some 0:=by kernel_rfl
theorem dF:bC Tryz.prog 29 1=some 4:=by kernel_rfl
theorem bH:bC Tryz.prog 29 2=some 5:=by kernel_rfl
theorem Rk:iP Tryz.prog 34=some (85,1,24,(.agg #[(.slice none 0 0)])):=by kernel_rfl
theorem nl:dt Tryz.prog 34=some (85,1):=by kernel_rfl
abbrev z6:Nat:=45
abbrev Dv:Nat:=47
theorem TX:jK Tryz.prog 47=true:=by kernel_rfl
theorem Iu:iP Tryz.prog 47=some (9,1,16,(.string ⟨#[]⟩)):=by kernel_rfl
theorem cZ:dt Tryz.prog 47=some (9,1):=by kernel_rfl
abbrev aB:Nat:=50
theorem bR:oE Tryz.prog 50=some 5:=by kernel_rfl
theorem fj:fY Tryz.prog 50=some (.agg #[(.int .i64 0),(.int .i64 0),(.string ⟨#[]⟩),(.slice none 0 0),(.slice none 0 0)]):=by kernel_rfl
theorem dl:bC Tryz.prog 50 0=some 0:=by kernel_rfl
theorem bF:bC Tryz.prog 50 1=some 4:=by kernel_rfl
abbrev Qa:Nat:=55
theorem ir:bC Tryz.prog 55 0=some 0:=by kernel_rfl
theorem wN:bC Tryz.prog 55 1=some 1:=by kernel_rfl
abbrev tg:Nat:=64
theorem ft:jK Tryz.prog 64=true:=by kernel_rfl
theorem aaO:fY Tryz.prog 64=some (.slice none 0 0):=by kernel_rfl
theorem kr:iP Tryz.prog 64=some (3,1,8,(.int .i64 0)):=by kernel_rfl
theorem cU:dt Tryz.prog 64=some (3,1):=by kernel_rfl
abbrev jN:Nat:=68
theorem wS:jK Tryz.prog 68=true:=by kernel_rfl
theorem xu:iP Tryz.prog 69=some (169,5,64,(.agg #[(.int .i64 0),(.int .i64 0),(.int .i64 0),(.string ⟨#[]⟩),(.slice none 0 0)])):=by kernel_rfl
theorem Nd:dt Tryz.prog 69=some (169,5):=by kernel_rfl
theorem yy:jK Tryz.prog 72=true:=by kernel_rfl
theorem fu:Tryz.prog.underlying 72=some (.map 3 26):=by kernel_rfl
abbrev gy:Nat:=85
theorem Im:oE Tryz.prog 85=some 1:=by kernel_rfl
theorem TU:fY Tryz.prog 85=some (.agg #[(.slice none 0 0)]):=by kernel_rfl
theorem CN:bC Tryz.prog 85 0=some 0:=by kernel_rfl
theorem iu:jK Tryz.prog 94=true:=by kernel_rfl
theorem wQ:iP Tryz.prog 94=some (148,5,64,(.agg #[(.int .i64 0),(.int .i64 0),(.string ⟨#[]⟩),(.slice none 0 0),(.int .i64 0)])):=by kernel_rfl
theorem mO:dt Tryz.prog 94=some (148,5):=by kernel_rfl
theorem er:jK Tryz.prog 95=true:=by kernel_rfl
theorem fP:iP Tryz.prog 95=some (153,7,128,(.agg #[(.int .i64 0),(.int .i64 0),(.string ⟨#[]⟩),(.slice none 0 0),(.slice none 0 0),(.slice none 0 0),(.slice none 0 0)])):=by kernel_rfl
theorem jV:dt Tryz.prog 95=some (153,7):=by kernel_rfl
abbrev cF:Nat:=97
theorem cO:oE Tryz.prog 97=some 3:=by kernel_rfl
theorem jm:fY Tryz.prog 97=some (.agg #[(.slice none 0 0),(.slice none 0 0),(.slice none 0 0)]):=by kernel_rfl
theorem iW:bC Tryz.prog 97 0=some 0:=by kernel_rfl
theorem mz:bC Tryz.prog 97 1=some 1:=by kernel_rfl
theorem eD:bC Tryz.prog 97 2=some 2:=by kernel_rfl
abbrev ve:Nat:=99
theorem jG:jK Tryz.prog 99=true:=by kernel_rfl
theorem gH:iP Tryz.prog 99=some (156,6,72,(.agg #[(.int .i64 0),(.int .i64 0),(.string ⟨#[]⟩),(.slice none 0 0),(.int .i64 0),(.int .i64 0)])):=by kernel_rfl
theorem N0:dt Tryz.prog 99=some (156,6):=by kernel_rfl
abbrev Ng:Nat:=100
theorem jX:jK Tryz.prog 100=true:=by kernel_rfl
theorem mA:iP Tryz.prog 100=some (99,1,24,(.slice none 0 0)):=by kernel_rfl
theorem yo:dt Tryz.prog 100=some (99,1):=by kernel_rfl
abbrev aX:Nat:=102
theorem bh:oE Tryz.prog 102=some 5:=by kernel_rfl
theorem eP:fY Tryz.prog 102=some (.agg #[(.slice none 0 0),(.slice none 0 0),(.slice none 0 0),(.slice none 0 0),(.slice none 0 0)]):=by kernel_rfl
theorem cD:bC Tryz.prog 102 0=some 0:=by kernel_rfl
theorem iQ:bC Tryz.prog 102 1=some 3:=by kernel_rfl
theorem iT:bC Tryz.prog 102 2=some 4:=by kernel_rfl
abbrev ox:Nat:=118
theorem gP:jK Tryz.prog 118=true:=by kernel_rfl
theorem eO:jK Tryz.prog 128=true:=by kernel_rfl
theorem fB:jK Tryz.prog 129=true:=by kernel_rfl
theorem FP:iP Tryz.prog 129=some (186,9,112,(.agg #[(.int .i64 0),(.int .i64 0),(.string ⟨#[]⟩),(.slice none 0 0),(.int .i64 0),(.pointer none),(.slice none 0 0),(.int .i64 0),(.int .i64 0)])):=by kernel_rfl
theorem jo:dt Tryz.prog 129=some (186,9):=by kernel_rfl
theorem mr:jK Tryz.prog 130=true:=by kernel_rfl
theorem Mb:iP Tryz.prog 130=some (178,6,72,(.agg #[(.int .i64 0),(.int .i64 0),(.string ⟨#[]⟩),(.slice none 0 0),(.int .i64 0),(.int .i64 0)])):=by kernel_rfl
theorem xt:dt Tryz.prog 130=some (178,6):=by kernel_rfl
abbrev sx:Nat:=132
theorem iH:bC Tryz.prog 132 0=some 0:=by kernel_rfl
theorem sW:bC Tryz.prog 132 1=some 1:=by kernel_rfl
theorem Nq:bC Tryz.prog 132 2=some 2:=by kernel_rfl
theorem NE:bC Tryz.prog 132 3=some 3:=by kernel_rfl
theorem N6:bC Tryz.prog 132 4=some 4:=by kernel_rfl
theorem Pq:bC Tryz.prog 132 5=some 5:=by kernel_rfl
theorem sB:bC Tryz.prog 132 6=some 6:=by kernel_rfl
theorem sM:bC Tryz.prog 132 7=some 7:=by kernel_rfl
theorem jD:bC Tryz.prog 132 8=some 8:=by kernel_rfl
theorem eU:bC Tryz.prog 132 9=some 9:=by kernel_rfl
theorem gS:bC Tryz.prog 132 10=some 10:=by kernel_rfl
theorem yG:bC Tryz.prog 132 11=some 11:=by kernel_rfl
theorem Qw:dt Tryz.prog 143=some (47,1):=by kernel_rfl
abbrev lZ:Nat:=148
theorem HV:oE Tryz.prog 148=some 5:=by kernel_rfl
theorem Ua:fY Tryz.prog 148=some (.agg #[(.int .i64 0),(.int .i64 0),(.string ⟨#[]⟩),(.slice none 0 0),(.int .i64 0)]):=by kernel_rfl
theorem NS:bC Tryz.prog 148 0=some 0:=by kernel_rfl
abbrev dp:Nat:=153
theorem eE:oE Tryz.prog 153=some 7:=by kernel_rfl
theorem om:fY Tryz.prog 153=some (.agg #[(.int .i64 0),(.int .i64 0),(.string ⟨#[]⟩),(.slice none 0 0),(.slice none 0 0),(.slice none 0 0),(.slice none 0 0)]):=by kernel_rfl
theorem oI:bC Tryz.prog 153 0=some 0:=by kernel_rfl
theorem wA:bC Tryz.prog 153 1=some 4:=by kernel_rfl
theorem eB:bC Tryz.prog 153 2=some 5:=by kernel_rfl
theorem oL:bC Tryz.prog 153 3=some 6:=by kernel_rfl
abbrev kI:Nat:=156
theorem KB:bC Tryz.prog 156 0=some 0:=by kernel_rfl
theorem K6:bC Tryz.prog 156 1=some 4:=by kernel_rfl
theorem KQ:bC Tryz.prog 156 2=some 5:=by kernel_rfl
abbrev dA:Nat:=162
theorem qq:bC Tryz.prog 162 0=some 0:=by kernel_rfl
theorem iB:bC Tryz.prog 162 1=some 1:=by kernel_rfl
abbrev eo:Nat:=169
abbrev pQ:Nat:=175
theorem J0:bC Tryz.prog 175 0=some 0:=by kernel_rfl
theorem Jq:bC Tryz.prog 175 1=some 4:=by kernel_rfl
theorem IV:bC Tryz.prog 175 2=some 5:=by kernel_rfl
theorem oQ:bC Tryz.prog 175 3=some 6:=by kernel_rfl
abbrev nV:Nat:=178
theorem UE:bC Tryz.prog 178 2=some 5:=by kernel_rfl
abbrev ed:Nat:=181
theorem Iz:oE Tryz.prog 181=some 2:=by kernel_rfl
theorem Y6:fY Tryz.prog 181=some (.agg #[(.string ⟨#[]⟩),(.int .i64 0)]):=by kernel_rfl
abbrev fk:Nat:=186
theorem Kk:oE Tryz.prog 186=some 9:=by kernel_rfl
theorem TI:fY Tryz.prog 186=some (.agg #[(.int .i64 0),(.int .i64 0),(.string ⟨#[]⟩),(.slice none 0 0),(.int .i64 0),(.pointer none),(.slice none 0 0),(.int .i64 0),(.int .i64 0)]):=by kernel_rfl
theorem Oz:bC Tryz.prog 186 0=some 0:=by kernel_rfl
theorem NY:bC Tryz.prog 186 1=some 4:=by kernel_rfl
theorem NM:bC Tryz.prog 186 2=some 5:=by kernel_rfl
theorem Ne:bC Tryz.prog 186 3=some 6:=by kernel_rfl
theorem N1:bC Tryz.prog 186 4=some 7:=by kernel_rfl
theorem OU:bC Tryz.prog 186 5=some 8:=by kernel_rfl
abbrev kO:Nat:=219
abbrev dM:Nat:=3
abbrev zR:Nat:=4
theorem xO:Tryz.prog.funcs[4]?=some Tryz.f4:=Tryz.func4
theorem xR:bo Tryz.f4=false:=by kernel_rfl
abbrev Iy:Nat:=5
theorem Hc:Tryz.prog.funcs[5]?=some Tryz.f5:=Tryz.func5
theorem Gz:bo Tryz.f5=false:=by kernel_rfl
abbrev Ih:Nat:=6
theorem uf:Tryz.prog.funcs[6]?=some Tryz.f6:=Tryz.func6
theorem tB:bo Tryz.f6=false:=by kernel_rfl
abbrev Hg:Nat:=7
theorem El:Tryz.prog.funcs[7]?=some Tryz.f7:=Tryz.func7
theorem D2:bo Tryz.f7=false:=by kernel_rfl
abbrev Xm:Nat:=8
theorem Uf:Tryz.prog.funcs[8]?=some Tryz.f8:=Tryz.func8
theorem TQ:bo Tryz.f8=false:=by kernel_rfl
abbrev SG:Nat:=9
theorem NP:Tryz.prog.funcs[9]?=some Tryz.f9:=Tryz.func9
theorem OY:bo Tryz.f9=false:=by kernel_rfl
abbrev Qq:Nat:=10
theorem NU:Tryz.prog.funcs[10]?=some Tryz.f10:=Tryz.func10
theorem N3:bo Tryz.f10=false:=by kernel_rfl
abbrev Jw:Nat:=11
theorem cG:Tryz.prog.funcs[11]?=some Tryz.f11:=Tryz.func11
theorem cH:bo Tryz.f11=false:=by kernel_rfl
abbrev Gr:Nat:=12
theorem DP:Tryz.prog.funcs[12]?=some Tryz.f12:=Tryz.func12
theorem Ex:bo Tryz.f12=false:=by kernel_rfl
abbrev yg:Nat:=13
theorem vx:Tryz.prog.funcs[13]?=some Tryz.f13:=Tryz.func13
theorem wy:bo Tryz.f13=false:=by kernel_rfl
abbrev DR:Nat:=14
theorem lH:Tryz.prog.funcs[14]?=some Tryz.f14:=Tryz.func14
theorem ly:bo Tryz.f14=false:=by kernel_rfl
abbrev HC:Nat:=15
theorem GG:Tryz.prog.funcs[15]?=some Tryz.f15:=Tryz.func15
theorem GW:bo Tryz.f15=false:=by kernel_rfl
abbrev UB:Nat:=16
theorem E8:Tryz.prog.funcs[16]?=some Tryz.f16:=Tryz.func16
theorem FX:bo Tryz.f16=false:=by kernel_rfl
abbrev DA:Nat:=17
theorem Ag:Tryz.prog.funcs[17]?=some Tryz.f17:=Tryz.func17
theorem AH:bo Tryz.f17=false:=by kernel_rfl
abbrev HB:Nat:=18
theorem uj:Tryz.prog.funcs[18]?=some Tryz.f18:=Tryz.func18
theorem tA:bo Tryz.f18=false:=by kernel_rfl
abbrev Nu:Nat:=19
theorem yO:Tryz.prog.funcs[19]?=some Tryz.f19:=Tryz.func19
theorem yu:bo Tryz.f19=false:=by kernel_rfl
abbrev i5:Nat:=20
theorem zA:Tryz.prog.funcs[20]?=some Tryz.f20:=Tryz.func20
theorem zJ:bo Tryz.f20=false:=by kernel_rfl
abbrev QR:Nat:=21
theorem sQ:Tryz.prog.funcs[21]?=some Tryz.f21:=Tryz.func21
theorem s8:bo Tryz.f21=false:=by kernel_rfl
abbrev xy:Nat:=22
theorem gC:Tryz.prog.funcs[22]?=some Tryz.f22:=Tryz.func22
theorem gA:bo Tryz.f22=false:=by kernel_rfl
abbrev rn:Nat:=23
theorem jO:Tryz.prog.funcs[23]?=some Tryz.f23:=Tryz.func23
theorem j8:bo Tryz.f23=false:=by kernel_rfl
abbrev pS:Nat:=24
theorem zU:Tryz.prog.funcs[24]?=some Tryz.f24:=Tryz.func24
theorem zI:bo Tryz.f24=false:=by kernel_rfl
abbrev lU:Nat:=25
theorem fO:Tryz.prog.funcs[25]?=some Tryz.f25:=Tryz.func25
theorem fL:bo Tryz.f25=false:=by kernel_rfl
abbrev XI:Nat:=26
theorem Ub:Tryz.prog.funcs[26]?=some Tryz.f26:=Tryz.func26
theorem Tk:bo Tryz.f26=false:=by kernel_rfl
abbrev Rj:Nat:=27
theorem OM:Tryz.prog.funcs[27]?=some Tryz.f27:=Tryz.func27
theorem OL:bo Tryz.f27=false:=by kernel_rfl
abbrev Qu:Nat:=28
theorem O2:Tryz.prog.funcs[28]?=some Tryz.f28:=Tryz.func28
theorem OA:bo Tryz.f28=false:=by kernel_rfl
abbrev NW:Nat:=29
theorem LE:Tryz.prog.funcs[29]?=some Tryz.f29:=Tryz.func29
theorem Kz:bo Tryz.f29=false:=by kernel_rfl
abbrev C6:Nat:=30
theorem eA:Tryz.prog.funcs[30]?=some Tryz.f30:=Tryz.func30
theorem eC:bo Tryz.f30=false:=by kernel_rfl
abbrev zl:Nat:=31
theorem fR:Tryz.prog.funcs[31]?=some Tryz.f31:=Tryz.func31
theorem fQ:bo Tryz.f31=false:=by kernel_rfl
abbrev KV:Nat:=32
theorem gf:Tryz.prog.funcs[32]?=some Tryz.f32:=Tryz.func32
theorem gg:bo Tryz.f32=false:=by kernel_rfl
abbrev ON:Nat:=33
theorem qV:Tryz.prog.funcs[33]?=some Tryz.f33:=Tryz.func33
theorem qQ:bo Tryz.f33=false:=by kernel_rfl
abbrev Vm:Nat:=34
theorem mL:Tryz.prog.funcs[34]?=some Tryz.f34:=Tryz.func34
theorem mU:bo Tryz.f34=false:=by kernel_rfl
abbrev oD:Nat:=35
theorem xG:Tryz.prog.funcs[35]?=some Tryz.f35:=Tryz.func35
theorem xK:bo Tryz.f35=false:=by kernel_rfl
abbrev GJ:Nat:=36
theorem Dp:Tryz.prog.funcs[36]?=some Tryz.f36:=Tryz.func36
theorem Ev:bo Tryz.f36=false:=by kernel_rfl
abbrev KO:Nat:=37
theorem uH:Tryz.prog.funcs[37]?=some Tryz.f37:=Tryz.func37
theorem vN:bo Tryz.f37=false:=by kernel_rfl
abbrev G0:Nat:=38
theorem DW:Tryz.prog.funcs[38]?=some Tryz.f38:=Tryz.func38
theorem Dd:bo Tryz.f38=false:=by kernel_rfl
abbrev QO:Nat:=39
theorem lG:Tryz.prog.funcs[39]?=some Tryz.f39:=Tryz.func39
theorem lq:bo Tryz.f39=false:=by kernel_rfl
abbrev OS:Nat:=40
theorem mH:Tryz.prog.funcs[40]?=some Tryz.f40:=Tryz.func40
theorem mB:bo Tryz.f40=false:=by kernel_rfl
abbrev XK:Nat:=41
theorem o6:Tryz.prog.funcs[41]?=some Tryz.f41:=Tryz.func41
theorem oG:bo Tryz.f41=false:=by kernel_rfl
abbrev GN:Nat:=42
theorem rG:Tryz.prog.funcs[42]?=some Tryz.f42:=Tryz.func42
theorem rj:bo Tryz.f42=false:=by kernel_rfl
abbrev NL:Nat:=43
theorem zg:Tryz.prog.funcs[43]?=some Tryz.f43:=Tryz.func43
theorem yY:bo Tryz.f43=false:=by kernel_rfl
abbrev Rc:Nat:=44
theorem Bp:Tryz.prog.funcs[44]?=some Tryz.f44:=Tryz.func44
theorem BH:bo Tryz.f44=false:=by kernel_rfl
abbrev Ry:Nat:=45
theorem Ps:Tryz.prog.funcs[45]?=some Tryz.f45:=Tryz.func45
theorem Pz:bo Tryz.f45=false:=by kernel_rfl
abbrev Lw:Nat:=46
theorem vj:Tryz.prog.funcs[46]?=some Tryz.f46:=Tryz.func46
theorem wB:bo Tryz.f46=false:=by kernel_rfl
abbrev ZI:Nat:=47
theorem X6:Tryz.prog.funcs[47]?=some Tryz.f47:=Tryz.func47
theorem XT:bo Tryz.f47=false:=by kernel_rfl
abbrev Et:Nat:=48
theorem Al:Tryz.prog.funcs[48]?=some Tryz.f48:=Tryz.func48
theorem Co:bo Tryz.f48=false:=by kernel_rfl
abbrev wb:Nat:=49
theorem uE:Tryz.prog.funcs[49]?=some Tryz.f49:=Tryz.func49
theorem uD:bo Tryz.f49=false:=by kernel_rfl
abbrev oZ:Nat:=50
theorem nS:Tryz.prog.funcs[50]?=some Tryz.f50:=Tryz.func50
theorem nP:bo Tryz.f50=false:=by kernel_rfl
abbrev NF:Nat:=51
theorem Lf:Tryz.prog.funcs[51]?=some Tryz.f51:=Tryz.func51
theorem KS:bo Tryz.f51=false:=by kernel_rfl
abbrev LI:Nat:=52
theorem Jc:Tryz.prog.funcs[52]?=some Tryz.f52:=Tryz.func52
theorem Ig:bo Tryz.f52=false:=by kernel_rfl
abbrev Ic:Nat:=53
theorem GB:Tryz.prog.funcs[53]?=some Tryz.f53:=Tryz.func53
theorem Hb:bo Tryz.f53=false:=by kernel_rfl
abbrev FY:Nat:=54
theorem NO:Tryz.prog.funcs[54]?=some Tryz.f54:=Tryz.func54
theorem Pr:bo Tryz.f54=false:=by kernel_rfl
abbrev Gk:Nat:=55
theorem Da:Tryz.prog.funcs[55]?=some Tryz.f55:=Tryz.func55
theorem CP:bo Tryz.f55=false:=by kernel_rfl
abbrev rz:Nat:=56
theorem qu:Tryz.prog.funcs[56]?=some Tryz.f56:=Tryz.func56
theorem pZ:bo Tryz.f56=false:=by kernel_rfl
abbrev Sa:Nat:=57
theorem BL:Tryz.prog.funcs[57]?=some Tryz.f57:=Tryz.func57
theorem Bz:bo Tryz.f57=false:=by kernel_rfl
abbrev PB:Nat:=58
theorem Lo:Tryz.prog.funcs[58]?=some Tryz.f58:=Tryz.func58
theorem KG:bo Tryz.f58=false:=by kernel_rfl
abbrev UK:Nat:=59
theorem Qf:Tryz.prog.funcs[59]?=some Tryz.f59:=Tryz.func59
theorem RU:bo Tryz.f59=false:=by kernel_rfl
abbrev SD:Nat:=60
theorem Nm:Tryz.prog.funcs[60]?=some Tryz.f60:=Tryz.func60
theorem Oq:bo Tryz.f60=false:=by kernel_rfl
abbrev US:Nat:=61
theorem Rr:Tryz.prog.funcs[61]?=some Tryz.f61:=Tryz.func61
theorem QU:bo Tryz.f61=false:=by kernel_rfl
abbrev Sq:Nat:=62
theorem Od:Tryz.prog.funcs[62]?=some Tryz.f62:=Tryz.func62
theorem OI:bo Tryz.f62=false:=by kernel_rfl
abbrev OB:Nat:=63
theorem yR:Tryz.prog.funcs[63]?=some Tryz.f63:=Tryz.func63
theorem xW:bo Tryz.f63=false:=by kernel_rfl
abbrev zb:Nat:=64
theorem wh:Tryz.prog.funcs[64]?=some Tryz.f64:=Tryz.func64
theorem vW:bo Tryz.f64=false:=by kernel_rfl
abbrev Ss:Nat:=65
theorem Bx:Tryz.prog.funcs[65]?=some Tryz.f65:=Tryz.func65
theorem BT:bo Tryz.f65=false:=by kernel_rfl
abbrev Ix:Nat:=66
theorem E9:Tryz.prog.funcs[66]?=some Tryz.f66:=Tryz.func66
theorem EN:bo Tryz.f66=false:=by kernel_rfl
abbrev UQ:Nat:=67
theorem FV:Tryz.prog.funcs[67]?=some Tryz.f67:=Tryz.func67
theorem EQ:bo Tryz.f67=false:=by kernel_rfl
abbrev Pe:Nat:=68
theorem mF:Tryz.prog.funcs[68]?=some Tryz.f68:=Tryz.func68
theorem mE:bo Tryz.f68=false:=by kernel_rfl
abbrev Xj:Nat:=69
theorem sN:Tryz.prog.funcs[69]?=some Tryz.f69:=Tryz.func69
theorem sK:bo Tryz.f69=false:=by kernel_rfl
abbrev Xg:Nat:=70
theorem HD:Tryz.prog.funcs[70]?=some Tryz.f70:=Tryz.func70
theorem JR:bo Tryz.f70=false:=by kernel_rfl
abbrev KD:Nat:=71
theorem oJ:Tryz.prog.funcs[71]?=some Tryz.f71:=Tryz.func71
theorem pf:bo Tryz.f71=false:=by kernel_rfl
abbrev JJ:Nat:=72
theorem tK:Tryz.prog.funcs[72]?=some Tryz.f72:=Tryz.func72
theorem tQ:bo Tryz.f72=false:=by kernel_rfl
abbrev LD:Nat:=73
theorem wM:Tryz.prog.funcs[73]?=some Tryz.f73:=Tryz.func73
theorem vt:bo Tryz.f73=false:=by kernel_rfl
abbrev U0:Nat:=74
theorem iA:Tryz.prog.funcs[74]?=some Tryz.f74:=Tryz.func74
theorem iv:bo Tryz.f74=false:=by kernel_rfl
abbrev sS:Nat:=75
theorem rg:Tryz.prog.funcs[75]?=some Tryz.f75:=Tryz.func75
theorem rZ:bo Tryz.f75=false:=by kernel_rfl
abbrev Gy:Nat:=76
theorem Eu:Tryz.prog.funcs[76]?=some Tryz.f76:=Tryz.func76
theorem Em:bo Tryz.f76=false:=by kernel_rfl
abbrev N2:Nat:=77
theorem yl:Tryz.prog.funcs[77]?=some Tryz.f77:=Tryz.func77
theorem yA:bo Tryz.f77=false:=by kernel_rfl
abbrev Hw:Nat:=78
theorem tI:Tryz.prog.funcs[78]?=some Tryz.f78:=Tryz.func78
theorem ui:bo Tryz.f78=false:=by kernel_rfl
abbrev LK:Nat:=79
theorem JP:Tryz.prog.funcs[79]?=some Tryz.f79:=Tryz.func79
theorem Je:bo Tryz.f79=false:=by kernel_rfl
abbrev Lg:Nat:=80
theorem Jp:Tryz.prog.funcs[80]?=some Tryz.f80:=Tryz.func80
theorem IC:bo Tryz.f80=false:=by kernel_rfl
abbrev s7:Nat:=81
theorem qK:Tryz.prog.funcs[81]?=some Tryz.f81:=Tryz.func81
theorem qP:bo Tryz.f81=false:=by kernel_rfl
abbrev VH:Nat:=82
theorem FB:Tryz.prog.funcs[82]?=some Tryz.f82:=Tryz.func82
theorem EK:bo Tryz.f82=false:=by kernel_rfl
abbrev KN:Nat:=83
theorem oX:Tryz.prog.funcs[83]?=some Tryz.f83:=Tryz.func83
theorem pz:bo Tryz.f83=false:=by kernel_rfl
abbrev Ll:Nat:=84
theorem i9:Tryz.prog.funcs[84]?=some Tryz.f84:=Tryz.func84
theorem ja:bo Tryz.f84=false:=by kernel_rfl
abbrev R4:Nat:=85
theorem CM:Tryz.prog.funcs[85]?=some Tryz.f85:=Tryz.func85
theorem AA:bo Tryz.f85=false:=by kernel_rfl
abbrev Lt:Nat:=86
theorem jq:Tryz.prog.funcs[86]?=some Tryz.f86:=Tryz.func86
theorem jn:bo Tryz.f86=false:=by kernel_rfl
abbrev Nj:Nat:=87
theorem Kv:Tryz.prog.funcs[87]?=some Tryz.f87:=Tryz.func87
theorem Lj:bo Tryz.f87=false:=by kernel_rfl
abbrev Rz:Nat:=88
theorem sF:Tryz.prog.funcs[88]?=some Tryz.f88:=Tryz.func88
theorem sL:bo Tryz.f88=false:=by kernel_rfl
abbrev Xr:Nat:=89
theorem s0:Tryz.prog.funcs[89]?=some Tryz.f89:=Tryz.func89
theorem sX:bo Tryz.f89=false:=by kernel_rfl
abbrev Rg:Nat:=90
theorem Of:Tryz.prog.funcs[90]?=some Tryz.f90:=Tryz.func90
theorem N7:bo Tryz.f90=false:=by kernel_rfl
abbrev Ka:Nat:=91
theorem Ha:Tryz.prog.funcs[91]?=some Tryz.f91:=Tryz.func91
theorem GZ:bo Tryz.f91=false:=by kernel_rfl
abbrev aa4:Nat:=92
theorem QE:Tryz.prog.funcs[92]?=some Tryz.f92:=Tryz.func92
theorem RP:bo Tryz.f92=false:=by kernel_rfl
abbrev Ui:Nat:=93
theorem uL:Tryz.prog.funcs[93]?=some Tryz.f93:=Tryz.func93
theorem wz:bo Tryz.f93=false:=by kernel_rfl
abbrev GT:Nat:=94
theorem DK:Tryz.prog.funcs[94]?=some Tryz.f94:=Tryz.func94
theorem DI:bo Tryz.f94=false:=by kernel_rfl
abbrev Ei:Nat:=95
theorem C5:Tryz.prog.funcs[95]?=some Tryz.f95:=Tryz.func95
theorem BK:bo Tryz.f95=false:=by kernel_rfl
abbrev He:Nat:=96
theorem mh:Tryz.prog.funcs[96]?=some Tryz.f96:=Tryz.func96
theorem l8:bo Tryz.f96=false:=by kernel_rfl
abbrev WC:Nat:=97
theorem Ym:Tryz.prog.funcs[97]?=some Tryz.f97:=Tryz.func97
theorem Zu:bo Tryz.f97=false:=by kernel_rfl
abbrev UZ:Nat:=98
theorem QV:Tryz.prog.funcs[98]?=some Tryz.f98:=Tryz.func98
theorem Q5:bo Tryz.f98=false:=by kernel_rfl
abbrev GV:Nat:=99
theorem Ed:Tryz.prog.funcs[99]?=some Tryz.f99:=Tryz.func99
theorem DL:bo Tryz.f99=false:=by kernel_rfl
abbrev TK:Nat:=100
theorem iC:Tryz.prog.funcs[100]?=some Tryz.f100:=Tryz.func100
theorem iz:bo Tryz.f100=false:=by kernel_rfl
abbrev R0:Nat:=101
theorem NJ:Tryz.prog.funcs[101]?=some Tryz.f101:=Tryz.func101
theorem O1:bo Tryz.f101=false:=by kernel_rfl
abbrev Jj:Nat:=102
theorem tF:Tryz.prog.funcs[102]?=some Tryz.f102:=Tryz.func102
theorem tD:bo Tryz.f102=false:=by kernel_rfl
abbrev EG:Nat:=103
theorem CO:Tryz.prog.funcs[103]?=some Tryz.f103:=Tryz.func103
theorem CE:bo Tryz.f103=false:=by kernel_rfl
abbrev R3:Nat:=104
theorem BB:Tryz.prog.funcs[104]?=some Tryz.f104:=Tryz.func104
theorem AK:bo Tryz.f104=false:=by kernel_rfl
abbrev P0:Nat:=105
theorem C4:Tryz.prog.funcs[105]?=some Tryz.f105:=Tryz.func105
theorem AQ:bo Tryz.f105=false:=by kernel_rfl
abbrev XV:Nat:=106
theorem Tq:Tryz.prog.funcs[106]?=some Tryz.f106:=Tryz.func106
theorem Tm:bo Tryz.f106=false:=by kernel_rfl
abbrev QX:Nat:=107
theorem BA:Tryz.prog.funcs[107]?=some Tryz.f107:=Tryz.func107
theorem Bq:bo Tryz.f107=false:=by kernel_rfl
abbrev Ob:Nat:=108
theorem yh:Tryz.prog.funcs[108]?=some Tryz.f108:=Tryz.func108
theorem yZ:bo Tryz.f108=false:=by kernel_rfl
abbrev Uy:Nat:=109
theorem mT:Tryz.prog.funcs[109]?=some Tryz.f109:=Tryz.func109
theorem mW:bo Tryz.f109=false:=by kernel_rfl
abbrev Z7:Nat:=110
theorem M6:Tryz.prog.funcs[110]?=some Tryz.f110:=Tryz.func110
theorem LS:bo Tryz.f110=false:=by kernel_rfl
abbrev rS:Nat:=111
theorem CG:Tryz.prog.funcs[111]?=some Tryz.f111:=Tryz.func111
theorem C0:bo Tryz.f111=false:=by kernel_rfl
abbrev xU:Nat:=112
theorem u3:Tryz.prog.funcs[112]?=some Tryz.f112:=Tryz.func112
theorem wO:bo Tryz.f112=false:=by kernel_rfl
abbrev OW:Nat:=113
theorem KT:Tryz.prog.funcs[113]?=some Tryz.f113:=Tryz.func113
theorem KA:bo Tryz.f113=false:=by kernel_rfl
abbrev PE:Nat:=114
theorem Kt:Tryz.prog.funcs[114]?=some Tryz.f114:=Tryz.func114
theorem LB:bo Tryz.f114=false:=by kernel_rfl
abbrev n_i_holds:Nat:=115
theorem fn_i_holds:Tryz.prog.funcs[115]?=some Tryz.f115:=Tryz.func115
theorem nm_i_holds:bo Tryz.f115=false:=by kernel_rfl
abbrev GQ:Nat:=116
theorem fV:Tryz.prog.funcs[116]?=some Tryz.f116:=Tryz.func116
theorem fX:bo Tryz.f116=false:=by kernel_rfl
abbrev HA:Nat:=117
theorem nC:Tryz.prog.funcs[117]?=some Tryz.f117:=Tryz.func117
theorem nq:bo Tryz.f117=false:=by kernel_rfl
abbrev Xq:Nat:=118
theorem ph:Tryz.prog.funcs[118]?=some Tryz.f118:=Tryz.func118
theorem o7:bo Tryz.f118=false:=by kernel_rfl
abbrev Uh:Nat:=119
theorem EM:Tryz.prog.funcs[119]?=some Tryz.f119:=Tryz.func119
theorem Gd:bo Tryz.f119=false:=by kernel_rfl
abbrev pM:Nat:=120
theorem kF:Tryz.prog.funcs[120]?=some Tryz.f120:=Tryz.func120
theorem kD:bo Tryz.f120=false:=by kernel_rfl
abbrev zw:Nat:=121
theorem xF:Tryz.prog.funcs[121]?=some Tryz.f121:=Tryz.func121
theorem xI:bo Tryz.f121=false:=by kernel_rfl
abbrev SY:Nat:=122
theorem SA:Tryz.prog.funcs[122]?=some Tryz.f122:=Tryz.func122
theorem Ru:bo Tryz.f122=false:=by kernel_rfl
abbrev Rm:Nat:=123
theorem Bd:Tryz.prog.funcs[123]?=some Tryz.f123:=Tryz.func123
theorem Ae:bo Tryz.f123=false:=by kernel_rfl
abbrev PX:Nat:=124
theorem A7:Tryz.prog.funcs[124]?=some Tryz.f124:=Tryz.func124
theorem Av:bo Tryz.f124=false:=by kernel_rfl
abbrev U5:Nat:=125
theorem Fy:Tryz.prog.funcs[125]?=some Tryz.f125:=Tryz.func125
theorem Fo:bo Tryz.f125=false:=by kernel_rfl
abbrev Ra:Nat:=126
theorem gD:Tryz.prog.funcs[126]?=some Tryz.f126:=Tryz.func126
theorem gI:bo Tryz.f126=false:=by kernel_rfl
abbrev Gp:Nat:=127
theorem DF:Tryz.prog.funcs[127]?=some Tryz.f127:=Tryz.func127
theorem D7:bo Tryz.f127=false:=by kernel_rfl
abbrev NH:Nat:=128
theorem qU:Tryz.prog.funcs[128]?=some Tryz.f128:=Tryz.func128
theorem qJ:bo Tryz.f128=false:=by kernel_rfl
abbrev Sy:Nat:=129
theorem BO:Tryz.prog.funcs[129]?=some Tryz.f129:=Tryz.func129
theorem BR:bo Tryz.f129=false:=by kernel_rfl
abbrev XL:Nat:=130
theorem Um:Tryz.prog.funcs[130]?=some Tryz.f130:=Tryz.func130
theorem TS:bo Tryz.f130=false:=by kernel_rfl
abbrev Id:Nat:=131
theorem Gv:Tryz.prog.funcs[131]?=some Tryz.f131:=Tryz.func131
theorem GK:bo Tryz.f131=false:=by kernel_rfl
abbrev YY:Nat:=132
theorem LM:Tryz.prog.funcs[132]?=some Tryz.f132:=Tryz.func132
theorem Mw:bo Tryz.f132=false:=by kernel_rfl
abbrev I4:Nat:=134
theorem ut:Tryz.prog.funcs[134]?=some Tryz.f134:=Tryz.func134
theorem tJ:bo Tryz.f134=false:=by kernel_rfl
abbrev PA:Nat:=135
theorem qH:Tryz.prog.funcs[135]?=some Tryz.f135:=Tryz.func135
theorem qO:bo Tryz.f135=false:=by kernel_rfl
abbrev Jf:Nat:=136
theorem GX:Tryz.prog.funcs[136]?=some Tryz.f136:=Tryz.func136
theorem GS:bo Tryz.f136=false:=by kernel_rfl
abbrev UL:Nat:=137
theorem dT:Tryz.prog.funcs[137]?=some Tryz.f137:=Tryz.func137
theorem dV:bo Tryz.f137=false:=by kernel_rfl
abbrev Qm:Nat:=138
theorem AN:Tryz.prog.funcs[138]?=some Tryz.f138:=Tryz.func138
theorem Bt:bo Tryz.f138=false:=by kernel_rfl
abbrev Ey:Nat:=139
theorem AL:Tryz.prog.funcs[139]?=some Tryz.f139:=Tryz.func139
theorem Ce:bo Tryz.f139=false:=by kernel_rfl
abbrev RG:Nat:=140
theorem PH:Tryz.prog.funcs[140]?=some Tryz.f140:=Tryz.func140
theorem PK:bo Tryz.f140=false:=by kernel_rfl
abbrev ZN:Nat:=141
theorem Xf:Tryz.prog.funcs[141]?=some Tryz.f141:=Tryz.func141
theorem X3:bo Tryz.f141=false:=by kernel_rfl
abbrev Ly:Nat:=142
theorem Jm:Tryz.prog.funcs[142]?=some Tryz.f142:=Tryz.func142
theorem IL:bo Tryz.f142=false:=by kernel_rfl
abbrev Jh:Nat:=143
theorem GO:Tryz.prog.funcs[143]?=some Tryz.f143:=Tryz.func143
theorem GP:bo Tryz.f143=false:=by kernel_rfl
abbrev Re:Nat:=144
theorem tm:Tryz.prog.funcs[144]?=some Tryz.f144:=Tryz.func144
theorem sV:bo Tryz.f144=false:=by kernel_rfl
abbrev JA:Nat:=145
theorem qz:Tryz.prog.funcs[145]?=some Tryz.f145:=Tryz.func145
theorem qg:bo Tryz.f145=false:=by kernel_rfl
abbrev Uw:Nat:=146
theorem Fh:Tryz.prog.funcs[146]?=some Tryz.f146:=Tryz.func146
theorem Ez:bo Tryz.f146=false:=by kernel_rfl
abbrev PQ:Nat:=147
theorem KK:Tryz.prog.funcs[147]?=some Tryz.f147:=Tryz.func147
theorem KI:bo Tryz.f147=false:=by kernel_rfl
abbrev TR:Nat:=148
theorem fA:Tryz.prog.funcs[148]?=some Tryz.f148:=Tryz.func148
theorem fw:bo Tryz.f148=false:=by kernel_rfl
abbrev RJ:Nat:=149
theorem iE:Tryz.prog.funcs[149]?=some Tryz.f149:=Tryz.func149
theorem iM:bo Tryz.f149=false:=by kernel_rfl
abbrev R7:Nat:=150
theorem lj:Tryz.prog.funcs[150]?=some Tryz.f150:=Tryz.func150
theorem lp:bo Tryz.f150=false:=by kernel_rfl
abbrev W8:Nat:=151
theorem VE:Tryz.prog.funcs[151]?=some Tryz.f151:=Tryz.func151
theorem UV:bo Tryz.f151=false:=by kernel_rfl
abbrev Jy:Nat:=152
theorem Gt:Tryz.prog.funcs[152]?=some Tryz.f152:=Tryz.func152
theorem Hf:bo Tryz.f152=false:=by kernel_rfl
abbrev K8:Nat:=153
theorem IM:Tryz.prog.funcs[153]?=some Tryz.f153:=Tryz.func153
theorem H5:bo Tryz.f153=false:=by kernel_rfl
abbrev Th:Nat:=154
theorem Rn:Tryz.prog.funcs[154]?=some Tryz.f154:=Tryz.func154
theorem Qd:bo Tryz.f154=false:=by kernel_rfl
abbrev K0:Nat:=155
theorem H3:Tryz.prog.funcs[155]?=some Tryz.f155:=Tryz.func155
theorem Js:bo Tryz.f155=false:=by kernel_rfl
abbrev Uk:Nat:=156
theorem Sr:Tryz.prog.funcs[156]?=some Tryz.f156:=Tryz.func156
theorem RV:bo Tryz.f156=false:=by kernel_rfl
abbrev HW:Nat:=157
theorem ku:Tryz.prog.funcs[157]?=some Tryz.f157:=Tryz.func157
theorem kl:bo Tryz.f157=false:=by kernel_rfl
abbrev Kd:Nat:=158
theorem uq:Tryz.prog.funcs[158]?=some Tryz.f158:=Tryz.func158
theorem ue:bo Tryz.f158=false:=by kernel_rfl
abbrev xV:Nat:=159
theorem m8:Tryz.prog.funcs[159]?=some Tryz.f159:=Tryz.func159
theorem mR:bo Tryz.f159=false:=by kernel_rfl
abbrev Xe:Nat:=160
theorem TJ:Tryz.prog.funcs[160]?=some Tryz.f160:=Tryz.func160
theorem Up:bo Tryz.f160=false:=by kernel_rfl
abbrev DJ:Nat:=161
theorem Ax:Tryz.prog.funcs[161]?=some Tryz.f161:=Tryz.func161
theorem BV:bo Tryz.f161=false:=by kernel_rfl
abbrev sk:Nat:=167
theorem qw:Tryz.prog.funcs[167]?=some Tryz.f167:=Tryz.func167
theorem p6:bo Tryz.f167=false:=by kernel_rfl
abbrev vU:Nat:=168
theorem lu:Tryz.prog.funcs[168]?=some Tryz.f168:=Tryz.func168
theorem lJ:bo Tryz.f168=false:=by kernel_rfl
abbrev jB:Nat:=169
theorem C7:Tryz.prog.funcs[169]?=some Tryz.f169:=Tryz.func169
theorem CY:bo Tryz.f169=false:=by kernel_rfl
abbrev KM:Nat:=170
theorem vI:Tryz.prog.funcs[170]?=some Tryz.f170:=Tryz.func170
theorem vQ:bo Tryz.f170=false:=by kernel_rfl
abbrev Us:Nat:=171
theorem SL:Tryz.prog.funcs[171]?=some Tryz.f171:=Tryz.func171
theorem PT:bo Tryz.f171=false:=by kernel_rfl
abbrev RH:Nat:=173
theorem Nt:Tryz.prog.funcs[173]?=some Tryz.f173:=Tryz.func173
theorem PL:bo Tryz.f173=false:=by kernel_rfl
abbrev Rd:Nat:=174
theorem nW:Tryz.prog.funcs[174]?=some Tryz.f174:=Tryz.func174
theorem nY:bo Tryz.f174=false:=by kernel_rfl
abbrev Pg:Nat:=175
theorem Lb:Tryz.prog.funcs[175]?=some Tryz.f175:=Tryz.func175
theorem Lu:bo Tryz.f175=false:=by kernel_rfl
abbrev VG:Nat:=176
theorem EC:Tryz.prog.funcs[176]?=some Tryz.f176:=Tryz.func176
theorem Fq:bo Tryz.f176=false:=by kernel_rfl
abbrev RL:Nat:=177
theorem Ad:Tryz.prog.funcs[177]?=some Tryz.f177:=Tryz.func177
theorem CS:bo Tryz.f177=false:=by kernel_rfl
abbrev JG:Nat:=178
theorem pR:Tryz.prog.funcs[178]?=some Tryz.f178:=Tryz.func178
theorem qf:bo Tryz.f178=false:=by kernel_rfl
abbrev XE:Nat:=179
theorem UU:Tryz.prog.funcs[179]?=some Tryz.f179:=Tryz.func179
theorem Vv:bo Tryz.f179=false:=by kernel_rfl
abbrev NN:Nat:=180
theorem KL:Tryz.prog.funcs[180]?=some Tryz.f180:=Tryz.func180
theorem Lp:bo Tryz.f180=false:=by kernel_rfl
abbrev Yd:Nat:=181
theorem W1:Tryz.prog.funcs[181]?=some Tryz.f181:=Tryz.func181
theorem XQ:bo Tryz.f181=false:=by kernel_rfl
abbrev Sk:Nat:=182
theorem PG:Tryz.prog.funcs[182]?=some Tryz.f182:=Tryz.func182
theorem PJ:bo Tryz.f182=false:=by kernel_rfl
abbrev Ri:Nat:=183
theorem PC:Tryz.prog.funcs[183]?=some Tryz.f183:=Tryz.func183
theorem Nx:bo Tryz.f183=false:=by kernel_rfl
abbrev Du:Nat:=184
theorem lA:Tryz.prog.funcs[184]?=some Tryz.f184:=Tryz.func184
theorem lh:bo Tryz.f184=false:=by kernel_rfl
abbrev Ln:Nat:=185
theorem HP:Tryz.prog.funcs[185]?=some Tryz.f185:=Tryz.func185
theorem Kf:bo Tryz.f185=false:=by kernel_rfl
abbrev UO:Nat:=188
theorem jg:Tryz.prog.funcs[188]?=some Tryz.f188:=Tryz.func188
theorem js:bo Tryz.f188=false:=by kernel_rfl
abbrev Rv:Nat:=189
theorem Cf:Tryz.prog.funcs[189]?=some Tryz.f189:=Tryz.func189
theorem Cw:bo Tryz.f189=false:=by kernel_rfl
abbrev Vc:Nat:=190
theorem Sx:Tryz.prog.funcs[190]?=some Tryz.f190:=Tryz.func190
theorem RQ:bo Tryz.f190=false:=by kernel_rfl
abbrev QZ:Nat:=191
theorem Ah:Tryz.prog.funcs[191]?=some Tryz.f191:=Tryz.func191
theorem BE:bo Tryz.f191=false:=by kernel_rfl
abbrev Rp:Nat:=192
theorem Cc:Tryz.prog.funcs[192]?=some Tryz.f192:=Tryz.func192
theorem A2:bo Tryz.f192=false:=by kernel_rfl
abbrev Sw:Nat:=193
theorem Nf:Tryz.prog.funcs[193]?=some Tryz.f193:=Tryz.func193
theorem O4:bo Tryz.f193=false:=by kernel_rfl
abbrev NR:Nat:=194
theorem qN:Tryz.prog.funcs[194]?=some Tryz.f194:=Tryz.func194
theorem qI:bo Tryz.f194=false:=by kernel_rfl
abbrev X0:Nat:=195
theorem Vh:Tryz.prog.funcs[195]?=some Tryz.f195:=Tryz.func195
theorem UA:bo Tryz.f195=false:=by kernel_rfl
abbrev Xz:Nat:=196
theorem Vk:Tryz.prog.funcs[196]?=some Tryz.f196:=Tryz.func196
theorem VO:bo Tryz.f196=false:=by kernel_rfl
abbrev zD:Nat:=197
theorem xP:Tryz.prog.funcs[197]?=some Tryz.f197:=Tryz.func197
theorem xT:bo Tryz.f197=false:=by kernel_rfl
abbrev XF:Nat:=198
theorem Un:Tryz.prog.funcs[198]?=some Tryz.f198:=Tryz.func198
theorem Tb:bo Tryz.f198=false:=by kernel_rfl
abbrev U3:Nat:=200
theorem vP:Tryz.prog.funcs[200]?=some Tryz.f200:=Tryz.func200
theorem wE:bo Tryz.f200=false:=by kernel_rfl
abbrev Ts:Nat:=201
theorem Qs:Tryz.prog.funcs[201]?=some Tryz.f201:=Tryz.func201
theorem QG:bo Tryz.f201=false:=by kernel_rfl
abbrev SO:Nat:=202
theorem CA:Tryz.prog.funcs[202]?=some Tryz.f202:=Tryz.func202
theorem AC:bo Tryz.f202=false:=by kernel_rfl
abbrev UW:Nat:=203
theorem Rs:Tryz.prog.funcs[203]?=some Tryz.f203:=Tryz.func203
theorem RS:bo Tryz.f203=false:=by kernel_rfl
abbrev N9:Nat:=204
theorem Ku:Tryz.prog.funcs[204]?=some Tryz.f204:=Tryz.func204
theorem Lq:bo Tryz.f204=false:=by kernel_rfl
abbrev Su:Nat:=205
theorem NV:Tryz.prog.funcs[205]?=some Tryz.f205:=Tryz.func205
theorem Py:bo Tryz.f205=false:=by kernel_rfl
abbrev TH:Nat:=206
theorem wJ:Tryz.prog.funcs[206]?=some Tryz.f206:=Tryz.func206
theorem wj:bo Tryz.f206=false:=by kernel_rfl
abbrev U6:Nat:=207
theorem PV:Tryz.prog.funcs[207]?=some Tryz.f207:=Tryz.func207
theorem SU:bo Tryz.f207=false:=by kernel_rfl
abbrev TA:Nat:=208
theorem Qy:Tryz.prog.funcs[208]?=some Tryz.f208:=Tryz.func208
theorem SQ:bo Tryz.f208=false:=by kernel_rfl
abbrev W2:Nat:=210
theorem TW:Tryz.prog.funcs[210]?=some Tryz.f210:=Tryz.func210
theorem TE:bo Tryz.f210=false:=by kernel_rfl
abbrev Vz:Nat:=211
theorem E6:Tryz.prog.funcs[211]?=some Tryz.f211:=Tryz.func211
theorem EW:bo Tryz.f211=false:=by kernel_rfl
abbrev Lr:Nat:=212
theorem vZ:Tryz.prog.funcs[212]?=some Tryz.f212:=Tryz.func212
theorem vS:bo Tryz.f212=false:=by kernel_rfl
abbrev QI:Nat:=213
theorem O8:Tryz.prog.funcs[213]?=some Tryz.f213:=Tryz.func213
theorem O7:bo Tryz.f213=false:=by kernel_rfl
abbrev Pm:Nat:=214
theorem Kw:Tryz.prog.funcs[214]?=some Tryz.f214:=Tryz.func214
theorem Lm:bo Tryz.f214=false:=by kernel_rfl
abbrev Xn:Nat:=215
theorem Tx:Tryz.prog.funcs[215]?=some Tryz.f215:=Tryz.func215
theorem Vo:bo Tryz.f215=false:=by kernel_rfl
abbrev Uo:Nat:=221
theorem FE:Tryz.prog.funcs[221]?=some Tryz.f221:=Tryz.func221
theorem EU:bo Tryz.f221=false:=by kernel_rfl

end Go.Proofs.YtellfcpffcipcaaGreatDoor
