/- Made by program: names for the numbers of functions and types, and closed facts on them. -/
import Derived.Test.YtjbcdmheajljpaaGreatZLpS
import Derived.Test.YtjbcdmheajljpaaGreatProg
import Derived.KernelRfl
namespace Go.Proofs.YtjbcdmheajljpaaGreat
open Go
abbrev bt (f:Func):Bool:=f.name == "runtime.NumGoroutine" || f.body.isNone
abbrev bD:Nat:=3
theorem aw:jO Tryz.prog 3=true:=by kernel_rfl
theorem wS:fW Tryz.prog 3=some (.int .i64 0):=by kernel_rfl
theorem c7:Tryz.prog.underlying 3=some (.int .i64):=by kernel_rfl
abbrev JC:Nat:=4
theorem qE:Tryz.prog.underlying 4=some .bool:=by kernel_rfl
abbrev EI:Nat:=5
theorem Ax:jO Tryz.prog 5=true:=by kernel_rfl
theorem ge:Tryz.prog.underlying 5=some (.int .u8):=by kernel_rfl
abbrev fb:Nat:=9
theorem aZ:jO Tryz.prog 9=true:=by kernel_rfl
theorem aR:Tryz.prog.underlying 9=some .string:=by kernel_rfl
abbrev H6:Nat:=22
theorem ik:jO Tryz.prog 22=true:=by kernel_rfl
theorem vY:iB Tryz.prog 22=some (5,1,1,(.int .u8 0)):=by kernel_rfl
theorem eM:cY Tryz.prog 22=some (5,1):=by kernel_rfl
abbrev s7:Nat:=23
theorem ax:jO Tryz.prog 23=true:=by kernel_rfl
theorem bA:iB Tryz.prog 23=some (25,4,56,(.agg #[(.int .i64 0),(.int .i64 0),(.string ⟨#[]⟩),(.slice none 0 0)])):=by kernel_rfl
theorem ao:cY Tryz.prog 23=some (25,4):=by kernel_rfl
abbrev ac:Nat:=25
theorem ad:nD Tryz.prog 25=some 4:=by kernel_rfl
theorem aM:fW Tryz.prog 25=some (.agg #[(.int .i64 0),(.int .i64 0),(.string ⟨#[]⟩),(.slice none 0 0)]):=by kernel_rfl
theorem bb:cd Tryz.prog 25 0=some 0:=by kernel_rfl
theorem aV:cd Tryz.prog 25 1=some 1:=by kernel_rfl
theorem bk:cd Tryz.prog 25 2=some 2:=by kernel_rfl
theorem ay:cd Tryz.prog 25 3=some 3:=by kernel_rfl
abbrev ai:Nat:=27
theorem aN:nD Tryz.prog 27=some 5:=by kernel_rfl
theorem dn:fW Tryz.prog 27=some (.agg #[(.int .i64 0),(.int .i64 0),(.string ⟨#[]⟩),(.slice none 0 0),(.slice none 0 0)]):=by kernel_rfl
theorem cC:cd Tryz.prog 27 0=some 0:=by kernel_rfl
theorem bC:cd Tryz.prog 27 1=some 4:=by kernel_rfl
abbrev ib:Nat:=31
theorem g8:jO Tryz.prog 31=true:=by kernel_rfl
theorem i5:iB Tryz.prog 31=some (57,4,40,(.agg #[(.int .i64 0),(.int .i64 0),(.int .i64 0),(.string ⟨#[]⟩)])):=by kernel_rfl
theorem cX:cY Tryz.prog 31=some (57,4):=by kernel_rfl
theorem jw:iB Tryz.prog 36=some (27,5,80,(.agg #[(.int .i64 0),(.int .i64 0),(.string ⟨#[]⟩),(.slice none 0 0),(.slice none 0 0)])):=by kernel_rfl
theorem ct:cY Tryz.prog 36=some (27,5):=by kernel_rfl
theorem lH:iB Tryz.prog 38=some (31,1,24,(.slice none 0 0)):=by kernel_rfl
theorem fD:cY Tryz.prog 38=some (31,1):=by kernel_rfl
abbrev aF:Nat:=57
theorem fw:nD Tryz.prog 57=some 4:=by kernel_rfl
theorem Dz:fW Tryz.prog 57=some (.agg #[(.int .i64 0),(.int .i64 0),(.int .i64 0),(.string ⟨#[]⟩)]):=by kernel_rfl
theorem jA:cd Tryz.prog 57 0=some 0:=by kernel_rfl
theorem dJ:cd Tryz.prog 57 1=some 1:=by kernel_rfl
theorem jz:cd Tryz.prog 57 2=some 2:=by kernel_rfl
theorem pH:cd Tryz.prog 57 3=some 3:=by kernel_rfl
abbrev kA:Nat:=62
theorem hZ:jO Tryz.prog 62=true:=by kernel_rfl
theorem cK:jO Tryz.prog 64=true:=by kernel_rfl
theorem cj:Tryz.prog.underlying 64=some (.map 3 25):=by kernel_rfl
abbrev aj:Nat:=66
theorem jk:cd Tryz.prog 66 0=some 0:=by kernel_rfl
theorem dD:cd Tryz.prog 66 1=some 1:=by kernel_rfl
theorem jn:cd Tryz.prog 66 2=some 2:=by kernel_rfl
theorem mh:cd Tryz.prog 66 3=some 3:=by kernel_rfl
abbrev pC:Nat:=76
theorem fG:jO Tryz.prog 76=true:=by kernel_rfl
theorem P0:fW Tryz.prog 76=some (.slice none 0 0):=by kernel_rfl
theorem jl:iB Tryz.prog 76=some (3,1,8,(.int .i64 0)):=by kernel_rfl
theorem fI:cY Tryz.prog 76=some (3,1):=by kernel_rfl
abbrev IV:Nat:=88
theorem fF:cd Tryz.prog 88 0=some 0:=by kernel_rfl
theorem pY:cd Tryz.prog 88 1=some 1:=by kernel_rfl
abbrev DW:Nat:=91
theorem As:iB Tryz.prog 91=some (9,1,16,(.string ⟨#[]⟩)):=by kernel_rfl
theorem de:cY Tryz.prog 91=some (9,1):=by kernel_rfl
abbrev av:Nat:=103
theorem az:nD Tryz.prog 103=some 3:=by kernel_rfl
theorem eo:fW Tryz.prog 103=some (.agg #[(.slice none 0 0),(.int .i64 0),(.slice none 0 0)]):=by kernel_rfl
theorem dF:cd Tryz.prog 103 0=some 0:=by kernel_rfl
theorem cT:cd Tryz.prog 103 1=some 1:=by kernel_rfl
theorem rx:cd Tryz.prog 103 2=some 2:=by kernel_rfl
abbrev aJ:Nat:=109
theorem yQ:cd Tryz.prog 109 0=some 0:=by kernel_rfl
theorem xQ:cd Tryz.prog 109 1=some 1:=by kernel_rfl
abbrev nF:Nat:=114
theorem E8:jO Tryz.prog 114=true:=by kernel_rfl
theorem fy:jO Tryz.prog 132=true:=by kernel_rfl
theorem fx:Tryz.prog.underlying 132=some (.map 3 3):=by kernel_rfl
abbrev gz:Nat:=134
theorem eZ:cd Tryz.prog 134 0=some 0:=by kernel_rfl
theorem nY:cd Tryz.prog 134 1=some 1:=by kernel_rfl
theorem nN:cd Tryz.prog 134 2=some 2:=by kernel_rfl
theorem v7:iB Tryz.prog 135=some (139,5,64,(.agg #[(.int .i64 0),(.int .i64 0),(.string ⟨#[]⟩),(.slice none 0 0),(.int .i64 0)])):=by kernel_rfl
theorem wV:cY Tryz.prog 135=some (139,5):=by kernel_rfl
abbrev er:Nat:=139
theorem H4:nD Tryz.prog 139=some 5:=by kernel_rfl
theorem OV:fW Tryz.prog 139=some (.agg #[(.int .i64 0),(.int .i64 0),(.string ⟨#[]⟩),(.slice none 0 0),(.int .i64 0)]):=by kernel_rfl
theorem r5:cd Tryz.prog 139 0=some 0:=by kernel_rfl
theorem Jy:cd Tryz.prog 139 1=some 4:=by kernel_rfl
theorem jJ:iB Tryz.prog 148=some (151,5,64,(.agg #[(.int .i64 0),(.int .i64 0),(.string ⟨#[]⟩),(.slice none 0 0),(.int .i64 0)])):=by kernel_rfl
theorem xR:cY Tryz.prog 148=some (151,5):=by kernel_rfl
abbrev co:Nat:=151
theorem AK:nD Tryz.prog 151=some 5:=by kernel_rfl
theorem Kb:fW Tryz.prog 151=some (.agg #[(.int .i64 0),(.int .i64 0),(.string ⟨#[]⟩),(.slice none 0 0),(.int .i64 0)]):=by kernel_rfl
theorem nE:cd Tryz.prog 151 0=some 0:=by kernel_rfl
theorem Gs:cd Tryz.prog 151 1=some 4:=by kernel_rfl
abbrev ie:Nat:=179
abbrev dg:Nat:=4
abbrev sG:Nat:=7
theorem qX:Tryz.prog.funcs[7]?=some Tryz.f7:=Tryz.func7
theorem qY:bt Tryz.f7=false:=by kernel_rfl
abbrev vj:Nat:=8
theorem sK:Tryz.prog.funcs[8]?=some Tryz.f8:=Tryz.func8
theorem sT:bt Tryz.f8=false:=by kernel_rfl
abbrev Km:Nat:=10
theorem yT:Tryz.prog.funcs[10]?=some Tryz.f10:=Tryz.func10
theorem xz:bt Tryz.f10=false:=by kernel_rfl
abbrev qT:Nat:=11
theorem pN:Tryz.prog.funcs[11]?=some Tryz.f11:=Tryz.func11
theorem pl:bt Tryz.f11=false:=by kernel_rfl
abbrev zk:Nat:=12
theorem wa:Tryz.prog.funcs[12]?=some Tryz.f12:=Tryz.func12
theorem xe:bt Tryz.f12=false:=by kernel_rfl
abbrev zq:Nat:=13
theorem xl:Tryz.prog.funcs[13]?=some Tryz.f13:=Tryz.func13
theorem xo:bt Tryz.f13=false:=by kernel_rfl
abbrev wy:Nat:=14
theorem iw:Tryz.prog.funcs[14]?=some Tryz.f14:=Tryz.func14
theorem iG:bt Tryz.f14=false:=by kernel_rfl
abbrev Am:Nat:=15
theorem y9:Tryz.prog.funcs[15]?=some Tryz.f15:=Tryz.func15
theorem zg:bt Tryz.f15=false:=by kernel_rfl
abbrev pt:Nat:=16
theorem zb:Tryz.prog.funcs[16]?=some Tryz.f16:=Tryz.func16
theorem zn:bt Tryz.f16=false:=by kernel_rfl
abbrev I8:Nat:=20
theorem EU:Tryz.prog.funcs[20]?=some Tryz.f20:=Tryz.func20
theorem ET:bt Tryz.f20=false:=by kernel_rfl
abbrev AY:Nat:=22
theorem dt:Tryz.prog.funcs[22]?=some Tryz.f22:=Tryz.func22
theorem dv:bt Tryz.f22=false:=by kernel_rfl
abbrev FW:Nat:=24
theorem CF:Tryz.prog.funcs[24]?=some Tryz.f24:=Tryz.func24
theorem CG:bt Tryz.f24=false:=by kernel_rfl
abbrev zy:Nat:=25
theorem gE:Tryz.prog.funcs[25]?=some Tryz.f25:=Tryz.func25
theorem gx:bt Tryz.f25=false:=by kernel_rfl
abbrev Dn:Nat:=26
theorem pq:Tryz.prog.funcs[26]?=some Tryz.f26:=Tryz.func26
theorem oW:bt Tryz.f26=false:=by kernel_rfl
abbrev tK:Nat:=27
theorem C4:Tryz.prog.funcs[27]?=some Tryz.f27:=Tryz.func27
theorem C9:bt Tryz.f27=false:=by kernel_rfl
abbrev vI:Nat:=28
theorem hG:Tryz.prog.funcs[28]?=some Tryz.f28:=Tryz.func28
theorem hO:bt Tryz.f28=false:=by kernel_rfl
abbrev zl:Nat:=29
theorem mo:Tryz.prog.funcs[29]?=some Tryz.f29:=Tryz.func29
theorem mH:bt Tryz.f29=false:=by kernel_rfl
abbrev FI:Nat:=30
theorem Di:Tryz.prog.funcs[30]?=some Tryz.f30:=Tryz.func30
theorem CI:bt Tryz.f30=false:=by kernel_rfl
abbrev pW:Nat:=31
theorem oK:Tryz.prog.funcs[31]?=some Tryz.f31:=Tryz.func31
theorem oI:bt Tryz.f31=false:=by kernel_rfl
abbrev wz:Nat:=32
theorem tM:Tryz.prog.funcs[32]?=some Tryz.f32:=Tryz.func32
theorem tH:bt Tryz.f32=false:=by kernel_rfl
abbrev Kh:Nat:=33
theorem Jj:Tryz.prog.funcs[33]?=some Tryz.f33:=Tryz.func33
theorem Jg:bt Tryz.f33=false:=by kernel_rfl
abbrev m7:Nat:=34
theorem l9:Tryz.prog.funcs[34]?=some Tryz.f34:=Tryz.func34
theorem ma:bt Tryz.f34=false:=by kernel_rfl
abbrev kZ:Nat:=35
theorem ri:Tryz.prog.funcs[35]?=some Tryz.f35:=Tryz.func35
theorem rc:bt Tryz.f35=false:=by kernel_rfl
abbrev sU:Nat:=36
theorem gf:Tryz.prog.funcs[36]?=some Tryz.f36:=Tryz.func36
theorem gr:bt Tryz.f36=false:=by kernel_rfl
abbrev Fr:Nat:=37
theorem Do:Tryz.prog.funcs[37]?=some Tryz.f37:=Tryz.func37
theorem Cz:bt Tryz.f37=false:=by kernel_rfl
abbrev kI:Nat:=38
theorem rl:Tryz.prog.funcs[38]?=some Tryz.f38:=Tryz.func38
theorem rj:bt Tryz.f38=false:=by kernel_rfl
abbrev wi:Nat:=39
theorem tw:Tryz.prog.funcs[39]?=some Tryz.f39:=Tryz.func39
theorem tQ:bt Tryz.f39=false:=by kernel_rfl
abbrev tR:Nat:=40
theorem sw:Tryz.prog.funcs[40]?=some Tryz.f40:=Tryz.func40
theorem sQ:bt Tryz.f40=false:=by kernel_rfl
abbrev AS:Nat:=41
theorem om:Tryz.prog.funcs[41]?=some Tryz.f41:=Tryz.func41
theorem n8:bt Tryz.f41=false:=by kernel_rfl
abbrev zt:Nat:=42
theorem wQ:Tryz.prog.funcs[42]?=some Tryz.f42:=Tryz.func42
theorem wM:bt Tryz.f42=false:=by kernel_rfl
abbrev nM:Nat:=43
theorem rS:Tryz.prog.funcs[43]?=some Tryz.f43:=Tryz.func43
theorem rz:bt Tryz.f43=false:=by kernel_rfl
abbrev sC:Nat:=44
theorem jS:Tryz.prog.funcs[44]?=some Tryz.f44:=Tryz.func44
theorem jY:bt Tryz.f44=false:=by kernel_rfl
abbrev C5:Nat:=46
theorem gb:Tryz.prog.funcs[46]?=some Tryz.f46:=Tryz.func46
theorem gt:bt Tryz.f46=false:=by kernel_rfl
abbrev uQ:Nat:=51
theorem dP:Tryz.prog.funcs[51]?=some Tryz.f51:=Tryz.func51
theorem dO:bt Tryz.f51=false:=by kernel_rfl
abbrev At:Nat:=55
theorem xF:Tryz.prog.funcs[55]?=some Tryz.f55:=Tryz.func55
theorem yv:bt Tryz.f55=false:=by kernel_rfl
abbrev CH:Nat:=56
theorem Ar:Tryz.prog.funcs[56]?=some Tryz.f56:=Tryz.func56
theorem A4:bt Tryz.f56=false:=by kernel_rfl
abbrev EO:Nat:=57
theorem jj:Tryz.prog.funcs[57]?=some Tryz.f57:=Tryz.func57
theorem jf:bt Tryz.f57=false:=by kernel_rfl
abbrev Jz:Nat:=58
theorem lZ:Tryz.prog.funcs[58]?=some Tryz.f58:=Tryz.func58
theorem lz:bt Tryz.f58=false:=by kernel_rfl
abbrev EL:Nat:=59
theorem rM:Tryz.prog.funcs[59]?=some Tryz.f59:=Tryz.func59
theorem rL:bt Tryz.f59=false:=by kernel_rfl
abbrev Ky:Nat:=60
theorem xM:Tryz.prog.funcs[60]?=some Tryz.f60:=Tryz.func60
theorem yj:bt Tryz.f60=false:=by kernel_rfl
abbrev CO:Nat:=61
theorem pJ:Tryz.prog.funcs[61]?=some Tryz.f61:=Tryz.func61
theorem oS:bt Tryz.f61=false:=by kernel_rfl
abbrev HS:Nat:=62
theorem tY:Tryz.prog.funcs[62]?=some Tryz.f62:=Tryz.func62
theorem uW:bt Tryz.f62=false:=by kernel_rfl
abbrev Cn:Nat:=63
theorem zd:Tryz.prog.funcs[63]?=some Tryz.f63:=Tryz.func63
theorem zi:bt Tryz.f63=false:=by kernel_rfl
abbrev Lk:Nat:=64
theorem Ja:Tryz.prog.funcs[64]?=some Tryz.f64:=Tryz.func64
theorem GL:bt Tryz.f64=false:=by kernel_rfl
abbrev yn:Nat:=65
theorem tj:Tryz.prog.funcs[65]?=some Tryz.f65:=Tryz.func65
theorem ud:bt Tryz.f65=false:=by kernel_rfl
abbrev C8:Nat:=66
theorem AA:Tryz.prog.funcs[66]?=some Tryz.f66:=Tryz.func66
theorem Af:bt Tryz.f66=false:=by kernel_rfl
abbrev CY:Nat:=67
theorem BV:Tryz.prog.funcs[67]?=some Tryz.f67:=Tryz.func67
theorem Bn:bt Tryz.f67=false:=by kernel_rfl
abbrev zf:Nat:=68
theorem wI:Tryz.prog.funcs[68]?=some Tryz.f68:=Tryz.func68
theorem xq:bt Tryz.f68=false:=by kernel_rfl
abbrev zr:Nat:=69
theorem wW:Tryz.prog.funcs[69]?=some Tryz.f69:=Tryz.func69
theorem we:bt Tryz.f69=false:=by kernel_rfl
abbrev Dg:Nat:=70
theorem Ao:Tryz.prog.funcs[70]?=some Tryz.f70:=Tryz.func70
theorem zZ:bt Tryz.f70=false:=by kernel_rfl
abbrev C3:Nat:=71
theorem pk:Tryz.prog.funcs[71]?=some Tryz.f71:=Tryz.func71
theorem pZ:bt Tryz.f71=false:=by kernel_rfl
abbrev HA:Nat:=72
theorem tg:Tryz.prog.funcs[72]?=some Tryz.f72:=Tryz.func72
theorem uI:bt Tryz.f72=false:=by kernel_rfl
abbrev HD:Nat:=73
theorem EY:Tryz.prog.funcs[73]?=some Tryz.f73:=Tryz.func73
theorem Ff:bt Tryz.f73=false:=by kernel_rfl
abbrev Jp:Nat:=74
theorem HN:Tryz.prog.funcs[74]?=some Tryz.f74:=Tryz.func74
theorem Jb:bt Tryz.f74=false:=by kernel_rfl
abbrev Ik:Nat:=75
theorem Fe:Tryz.prog.funcs[75]?=some Tryz.f75:=Tryz.func75
theorem F1:bt Tryz.f75=false:=by kernel_rfl
abbrev zh:Nat:=76
theorem xd:Tryz.prog.funcs[76]?=some Tryz.f76:=Tryz.func76
theorem xh:bt Tryz.f76=false:=by kernel_rfl
abbrev po:Nat:=77
theorem oF:Tryz.prog.funcs[77]?=some Tryz.f77:=Tryz.func77
theorem oO:bt Tryz.f77=false:=by kernel_rfl
abbrev FS:Nat:=78
theorem rG:Tryz.prog.funcs[78]?=some Tryz.f78:=Tryz.func78
theorem rX:bt Tryz.f78=false:=by kernel_rfl
abbrev OQ:Nat:=79
theorem Nk:Tryz.prog.funcs[79]?=some Tryz.f79:=Tryz.func79
theorem MT:bt Tryz.f79=false:=by kernel_rfl
abbrev uG:Nat:=80
theorem sy:Tryz.prog.funcs[80]?=some Tryz.f80:=Tryz.func80
theorem si:bt Tryz.f80=false:=by kernel_rfl
abbrev rm:Nat:=81
theorem js:Tryz.prog.funcs[81]?=some Tryz.f81:=Tryz.func81
theorem jr:bt Tryz.f81=false:=by kernel_rfl
abbrev JN:Nat:=82
theorem Ir:Tryz.prog.funcs[82]?=some Tryz.f82:=Tryz.func82
theorem Hn:bt Tryz.f82=false:=by kernel_rfl
abbrev xP:Nat:=83
theorem u9:Tryz.prog.funcs[83]?=some Tryz.f83:=Tryz.func83
theorem uB:bt Tryz.f83=false:=by kernel_rfl
abbrev gD:Nat:=84
theorem tO:Tryz.prog.funcs[84]?=some Tryz.f84:=Tryz.func84
theorem uZ:bt Tryz.f84=false:=by kernel_rfl
abbrev De:Nat:=85
theorem qo:Tryz.prog.funcs[85]?=some Tryz.f85:=Tryz.func85
theorem pK:bt Tryz.f85=false:=by kernel_rfl
abbrev Nd:Nat:=89
theorem Ci:Tryz.prog.funcs[89]?=some Tryz.f89:=Tryz.func89
theorem Bt:bt Tryz.f89=false:=by kernel_rfl
abbrev MG:Nat:=90
theorem sH:Tryz.prog.funcs[90]?=some Tryz.f90:=Tryz.func90
theorem sD:bt Tryz.f90=false:=by kernel_rfl
abbrev sE:Nat:=97
theorem gv:Tryz.prog.funcs[97]?=some Tryz.f97:=Tryz.func97
theorem gd:bt Tryz.f97=false:=by kernel_rfl
abbrev IP:Nat:=98
theorem EW:Tryz.prog.funcs[98]?=some Tryz.f98:=Tryz.func98
theorem GA:bt Tryz.f98=false:=by kernel_rfl
abbrev mr:Nat:=99
theorem tk:Tryz.prog.funcs[99]?=some Tryz.f99:=Tryz.func99
theorem tW:bt Tryz.f99=false:=by kernel_rfl
abbrev Ow:Nat:=100
theorem DQ:Tryz.prog.funcs[100]?=some Tryz.f100:=Tryz.func100
theorem D7:bt Tryz.f100=false:=by kernel_rfl
abbrev C7:Nat:=101
theorem qn:Tryz.prog.funcs[101]?=some Tryz.f101:=Tryz.func101
theorem oX:bt Tryz.f101=false:=by kernel_rfl
abbrev NL:Nat:=102
theorem M6:Tryz.prog.funcs[102]?=some Tryz.f102:=Tryz.func102
theorem MV:bt Tryz.f102=false:=by kernel_rfl
abbrev H3:Nat:=103
theorem nO:Tryz.prog.funcs[103]?=some Tryz.f103:=Tryz.func103
theorem nK:bt Tryz.f103=false:=by kernel_rfl
abbrev iU:Nat:=104
theorem fN:Tryz.prog.funcs[104]?=some Tryz.f104:=Tryz.func104
theorem fM:bt Tryz.f104=false:=by kernel_rfl
abbrev mL:Nat:=105
theorem vq:Tryz.prog.funcs[105]?=some Tryz.f105:=Tryz.func105
theorem vm:bt Tryz.f105=false:=by kernel_rfl
abbrev C2:Nat:=106
theorem Cd:Tryz.prog.funcs[106]?=some Tryz.f106:=Tryz.func106
theorem Bc:bt Tryz.f106=false:=by kernel_rfl
abbrev A6:Nat:=107
theorem bX:Tryz.prog.funcs[107]?=some Tryz.f107:=Tryz.func107
theorem bW:bt Tryz.f107=false:=by kernel_rfl
abbrev qf:Nat:=108
theorem iT:Tryz.prog.funcs[108]?=some Tryz.f108:=Tryz.func108
theorem iV:bt Tryz.f108=false:=by kernel_rfl
abbrev za:Nat:=109
theorem gH:Tryz.prog.funcs[109]?=some Tryz.f109:=Tryz.func109
theorem gy:bt Tryz.f109=false:=by kernel_rfl
abbrev zs:Nat:=110
theorem xn:Tryz.prog.funcs[110]?=some Tryz.f110:=Tryz.func110
theorem wE:bt Tryz.f110=false:=by kernel_rfl
abbrev J0:Nat:=111
theorem IL:Tryz.prog.funcs[111]?=some Tryz.f111:=Tryz.func111
theorem HQ:bt Tryz.f111=false:=by kernel_rfl
abbrev Ho:Nat:=112
theorem vH:Tryz.prog.funcs[112]?=some Tryz.f112:=Tryz.func112
theorem uv:bt Tryz.f112=false:=by kernel_rfl
abbrev IJ:Nat:=113
theorem vg:Tryz.prog.funcs[113]?=some Tryz.f113:=Tryz.func113
theorem tN:bt Tryz.f113=false:=by kernel_rfl
abbrev K0:Nat:=114
theorem ya:Tryz.prog.funcs[114]?=some Tryz.f114:=Tryz.func114
theorem yw:bt Tryz.f114=false:=by kernel_rfl
abbrev CW:Nat:=115
theorem lg:Tryz.prog.funcs[115]?=some Tryz.f115:=Tryz.func115
theorem kG:bt Tryz.f115=false:=by kernel_rfl
abbrev HB:Nat:=116
theorem fQ:Tryz.prog.funcs[116]?=some Tryz.f116:=Tryz.func116
theorem fK:bt Tryz.f116=false:=by kernel_rfl
abbrev MZ:Nat:=117
theorem Bj:Tryz.prog.funcs[117]?=some Tryz.f117:=Tryz.func117
theorem AN:bt Tryz.f117=false:=by kernel_rfl
abbrev Kk:Nat:=118
theorem c9:Tryz.prog.funcs[118]?=some Tryz.f118:=Tryz.func118
theorem db:bt Tryz.f118=false:=by kernel_rfl
abbrev Nl:Nat:=119
theorem Ld:Tryz.prog.funcs[119]?=some Tryz.f119:=Tryz.func119
theorem Jw:bt Tryz.f119=false:=by kernel_rfl
abbrev Kp:Nat:=120
theorem pr:Tryz.prog.funcs[120]?=some Tryz.f120:=Tryz.func120
theorem o8:bt Tryz.f120=false:=by kernel_rfl
abbrev KT:Nat:=121
theorem xY:Tryz.prog.funcs[121]?=some Tryz.f121:=Tryz.func121
theorem xW:bt Tryz.f121=false:=by kernel_rfl
abbrev zw:Nat:=122
theorem gA:Tryz.prog.funcs[122]?=some Tryz.f122:=Tryz.func122
theorem gB:bt Tryz.f122=false:=by kernel_rfl
abbrev Kz:Nat:=123
theorem qg:Tryz.prog.funcs[123]?=some Tryz.f123:=Tryz.func123
theorem qi:bt Tryz.f123=false:=by kernel_rfl
abbrev oJ:Nat:=124
theorem ip:Tryz.prog.funcs[124]?=some Tryz.f124:=Tryz.func124
theorem ix:bt Tryz.f124=false:=by kernel_rfl
abbrev AP:Nat:=125
theorem gY:Tryz.prog.funcs[125]?=some Tryz.f125:=Tryz.func125
theorem gX:bt Tryz.f125=false:=by kernel_rfl
abbrev Ij:Nat:=126
theorem te:Tryz.prog.funcs[126]?=some Tryz.f126:=Tryz.func126
theorem uz:bt Tryz.f126=false:=by kernel_rfl
abbrev CU:Nat:=128
theorem Ag:Tryz.prog.funcs[128]?=some Tryz.f128:=Tryz.func128
theorem Cm:bt Tryz.f128=false:=by kernel_rfl
abbrev MJ:Nat:=130
theorem JB:Tryz.prog.funcs[130]?=some Tryz.f130:=Tryz.func130
theorem KK:bt Tryz.f130=false:=by kernel_rfl
abbrev JX:Nat:=136
theorem ID:Tryz.prog.funcs[136]?=some Tryz.f136:=Tryz.func136
theorem Hu:bt Tryz.f136=false:=by kernel_rfl
abbrev ze:Nat:=137
theorem wZ:Tryz.prog.funcs[137]?=some Tryz.f137:=Tryz.func137
theorem wq:bt Tryz.f137=false:=by kernel_rfl
abbrev Cx:Nat:=138
theorem Bk:Tryz.prog.funcs[138]?=some Tryz.f138:=Tryz.func138
theorem z8:bt Tryz.f138=false:=by kernel_rfl
abbrev KF:Nat:=139
theorem HZ:Tryz.prog.funcs[139]?=some Tryz.f139:=Tryz.func139
theorem HK:bt Tryz.f139=false:=by kernel_rfl
abbrev HF:Nat:=140
theorem EJ:Tryz.prog.funcs[140]?=some Tryz.f140:=Tryz.func140
theorem F4:bt Tryz.f140=false:=by kernel_rfl
abbrev CD:Nat:=141
theorem AW:Tryz.prog.funcs[141]?=some Tryz.f141:=Tryz.func141
theorem AR:bt Tryz.f141=false:=by kernel_rfl
abbrev ld:Nat:=142
theorem jT:Tryz.prog.funcs[142]?=some Tryz.f142:=Tryz.func142
theorem jQ:bt Tryz.f142=false:=by kernel_rfl
abbrev MW:Nat:=143
theorem Ab:Tryz.prog.funcs[143]?=some Tryz.f143:=Tryz.func143
theorem Ay:bt Tryz.f143=false:=by kernel_rfl
abbrev wg:Nat:=144
theorem lP:Tryz.prog.funcs[144]?=some Tryz.f144:=Tryz.func144
theorem lN:bt Tryz.f144=false:=by kernel_rfl
abbrev MO:Nat:=145
theorem Js:Tryz.prog.funcs[145]?=some Tryz.f145:=Tryz.func145
theorem Ku:bt Tryz.f145=false:=by kernel_rfl
abbrev HP:Nat:=146
theorem tb:Tryz.prog.funcs[146]?=some Tryz.f146:=Tryz.func146
theorem uP:bt Tryz.f146=false:=by kernel_rfl
abbrev BQ:Nat:=147
theorem oB:Tryz.prog.funcs[147]?=some Tryz.f147:=Tryz.func147
theorem ou:bt Tryz.f147=false:=by kernel_rfl
abbrev xi:Nat:=148
theorem uC:Tryz.prog.funcs[148]?=some Tryz.f148:=Tryz.func148
theorem s9:bt Tryz.f148=false:=by kernel_rfl
abbrev M7:Nat:=149
theorem JZ:Tryz.prog.funcs[149]?=some Tryz.f149:=Tryz.func149
theorem JP:bt Tryz.f149=false:=by kernel_rfl
abbrev In:Nat:=150
theorem uO:Tryz.prog.funcs[150]?=some Tryz.f150:=Tryz.func150
theorem tZ:bt Tryz.f150=false:=by kernel_rfl
abbrev JL:Nat:=151
theorem xB:Tryz.prog.funcs[151]?=some Tryz.f151:=Tryz.func151
theorem yo:bt Tryz.f151=false:=by kernel_rfl
abbrev KB:Nat:=154
theorem gh:Tryz.prog.funcs[154]?=some Tryz.f154:=Tryz.func154
theorem gk:bt Tryz.f154=false:=by kernel_rfl
abbrev K5:Nat:=155
theorem dq:Tryz.prog.funcs[155]?=some Tryz.f155:=Tryz.func155
theorem dp:bt Tryz.f155=false:=by kernel_rfl
abbrev GS:Nat:=156
theorem Fu:Tryz.prog.funcs[156]?=some Tryz.f156:=Tryz.func156
theorem Gw:bt Tryz.f156=false:=by kernel_rfl
abbrev xb:Nat:=157
theorem tC:Tryz.prog.funcs[157]?=some Tryz.f157:=Tryz.func157
theorem uo:bt Tryz.f157=false:=by kernel_rfl
abbrev re:Nat:=158
theorem oZ:Tryz.prog.funcs[158]?=some Tryz.f158:=Tryz.func158
theorem p9:bt Tryz.f158=false:=by kernel_rfl
abbrev Hz:Nat:=159
theorem EK:Tryz.prog.funcs[159]?=some Tryz.f159:=Tryz.func159
theorem Gc:bt Tryz.f159=false:=by kernel_rfl
abbrev KV:Nat:=160
theorem Hb:Tryz.prog.funcs[160]?=some Tryz.f160:=Tryz.func160
theorem IX:bt Tryz.f160=false:=by kernel_rfl
abbrev wA:Nat:=161
theorem ir:Tryz.prog.funcs[161]?=some Tryz.f161:=Tryz.func161
theorem iO:bt Tryz.f161=false:=by kernel_rfl
abbrev GM:Nat:=162
theorem Fs:Tryz.prog.funcs[162]?=some Tryz.f162:=Tryz.func162
theorem Gz:bt Tryz.f162=false:=by kernel_rfl
abbrev Pp:Nat:=163
theorem MB:Tryz.prog.funcs[163]?=some Tryz.f163:=Tryz.func163
theorem MX:bt Tryz.f163=false:=by kernel_rfl
abbrev KA:Nat:=164
theorem Iq:Tryz.prog.funcs[164]?=some Tryz.f164:=Tryz.func164
theorem H7:bt Tryz.f164=false:=by kernel_rfl
abbrev wk:Nat:=165
theorem tI:Tryz.prog.funcs[165]?=some Tryz.f165:=Tryz.func165
theorem ui:bt Tryz.f165=false:=by kernel_rfl
abbrev r7:Nat:=166
theorem qZ:Tryz.prog.funcs[166]?=some Tryz.f166:=Tryz.func166
theorem qV:bt Tryz.f166=false:=by kernel_rfl
abbrev GP:Nat:=168
theorem Fw:Tryz.prog.funcs[168]?=some Tryz.f168:=Tryz.func168
theorem Gf:bt Tryz.f168=false:=by kernel_rfl
abbrev IC:Nat:=169
theorem ko:Tryz.prog.funcs[169]?=some Tryz.f169:=Tryz.func169
theorem km:bt Tryz.f169=false:=by kernel_rfl
abbrev FX:Nat:=170
theorem C1:Tryz.prog.funcs[170]?=some Tryz.f170:=Tryz.func170
theorem CL:bt Tryz.f170=false:=by kernel_rfl
abbrev K8:Nat:=171
theorem yD:Tryz.prog.funcs[171]?=some Tryz.f171:=Tryz.func171
theorem xG:bt Tryz.f171=false:=by kernel_rfl
abbrev G0:Nat:=172
theorem vB:Tryz.prog.funcs[172]?=some Tryz.f172:=Tryz.func172
theorem s8:bt Tryz.f172=false:=by kernel_rfl
abbrev JJ:Nat:=173
theorem f0:Tryz.prog.funcs[173]?=some Tryz.f173:=Tryz.func173
theorem gu:bt Tryz.f173=false:=by kernel_rfl
abbrev Jd:Nat:=174
theorem vD:Tryz.prog.funcs[174]?=some Tryz.f174:=Tryz.func174
theorem vo:bt Tryz.f174=false:=by kernel_rfl
abbrev Kf:Nat:=175
theorem IZ:Tryz.prog.funcs[175]?=some Tryz.f175:=Tryz.func175
theorem Hx:bt Tryz.f175=false:=by kernel_rfl
abbrev GZ:Nat:=176
theorem uT:Tryz.prog.funcs[176]?=some Tryz.f176:=Tryz.func176
theorem tJ:bt Tryz.f176=false:=by kernel_rfl
abbrev KS:Nat:=177
theorem qq:Tryz.prog.funcs[177]?=some Tryz.f177:=Tryz.func177
theorem oV:bt Tryz.f177=false:=by kernel_rfl
abbrev JM:Nat:=178
theorem Hy:Tryz.prog.funcs[178]?=some Tryz.f178:=Tryz.func178
theorem G6:bt Tryz.f178=false:=by kernel_rfl
abbrev HW:Nat:=179
theorem u5:Tryz.prog.funcs[179]?=some Tryz.f179:=Tryz.func179
theorem uN:bt Tryz.f179=false:=by kernel_rfl
abbrev Kj:Nat:=180
theorem Id:Tryz.prog.funcs[180]?=some Tryz.f180:=Tryz.func180
theorem Hd:bt Tryz.f180=false:=by kernel_rfl
abbrev E6:Nat:=181
theorem Da:Tryz.prog.funcs[181]?=some Tryz.f181:=Tryz.func181
theorem Dd:bt Tryz.f181=false:=by kernel_rfl
abbrev G2:Nat:=182
theorem FO:Tryz.prog.funcs[182]?=some Tryz.f182:=Tryz.func182
theorem F6:bt Tryz.f182=false:=by kernel_rfl
abbrev JH:Nat:=183
theorem pL:Tryz.prog.funcs[183]?=some Tryz.f183:=Tryz.func183
theorem p6:bt Tryz.f183=false:=by kernel_rfl
abbrev Lf:Nat:=184
theorem Hf:Tryz.prog.funcs[184]?=some Tryz.f184:=Tryz.func184
theorem IE:bt Tryz.f184=false:=by kernel_rfl
abbrev Nt:Nat:=185
theorem JW:Tryz.prog.funcs[185]?=some Tryz.f185:=Tryz.func185
theorem JG:bt Tryz.f185=false:=by kernel_rfl
abbrev KC:Nat:=186
theorem x0:Tryz.prog.funcs[186]?=some Tryz.f186:=Tryz.func186
theorem yl:bt Tryz.f186=false:=by kernel_rfl
abbrev CJ:Nat:=187
theorem pU:Tryz.prog.funcs[187]?=some Tryz.f187:=Tryz.func187
theorem qs:bt Tryz.f187=false:=by kernel_rfl
abbrev Hm:Nat:=188
theorem Ft:Tryz.prog.funcs[188]?=some Tryz.f188:=Tryz.func188
theorem E3:bt Tryz.f188=false:=by kernel_rfl
abbrev FT:Nat:=189
theorem C0:Tryz.prog.funcs[189]?=some Tryz.f189:=Tryz.func189
theorem Dc:bt Tryz.f189=false:=by kernel_rfl

end Go.Proofs.YtjbcdmheajljpaaGreat
