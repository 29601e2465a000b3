/- Made by program: names for the numbers of functions and types, and closed facts on them. -/
import Derived.Test.YtbocelianhcfmaaGreatDoorZEfS
import Derived.Test.YtbocelianhcfmaaGreatDoorProg
import Derived.KernelRfl
namespace Go.Proofs.YtbocelianhcfmaaGreatDoor
open Go
abbrev aE (f:Func):Bool:=f.name == "runtime.NumGoroutine" || f.body.isNone
abbrev cu:Nat:=3
theorem s7:Tryz.prog.cellsOf 3=1:=by kernel_rfl
theorem ar:fD Tryz.prog 3=true:=by kernel_rfl
theorem sP:i6 Tryz.prog 3=some (.int .i64 0):=by kernel_rfl
theorem ga:Tryz.prog.underlying 3=some (.int .i64):=by kernel_rfl
abbrev ur:Nat:=4
theorem tm:Tryz.prog.underlying 4=some .bool:=by kernel_rfl
abbrev tU:Nat:=5
theorem cv:Tryz.prog.underlying 5=some (.int .u8):=by kernel_rfl
abbrev eH:Nat:=9
theorem rK:Tryz.prog.cellsOf 9=1:=by kernel_rfl
theorem al:fD Tryz.prog 9=true:=by kernel_rfl
theorem aw:Tryz.prog.underlying 9=some .string:=by kernel_rfl
theorem rE:Tryz.prog.cellsOf 22=1:=by kernel_rfl
theorem mV:fD Tryz.prog 22=true:=by kernel_rfl
theorem cb:bl Tryz.prog 22=some (24,4):=by kernel_rfl
abbrev tk:Nat:=24
theorem pn:Tryz.prog.cellsOf 24=4:=by kernel_rfl
theorem sj:tz Tryz.prog 24=some [(0,3),(1,3),(2,9),(3,22)]:=by kernel_rfl
theorem g9:fy Tryz.prog 24=some 4:=by kernel_rfl
theorem pH:aW Tryz.prog 24 0=some 0:=by kernel_rfl
theorem qt:aW Tryz.prog 24 1=some 1:=by kernel_rfl
theorem kO:aW Tryz.prog 24 2=some 2:=by kernel_rfl
theorem lH:aW Tryz.prog 24 3=some 3:=by kernel_rfl
theorem qM:Tryz.prog.cellsOf 25=1:=by kernel_rfl
theorem kX:fD Tryz.prog 25=true:=by kernel_rfl
theorem bK:bl Tryz.prog 25=some (27,6):=by kernel_rfl
abbrev dI:Nat:=27
theorem rI:Tryz.prog.cellsOf 27=6:=by kernel_rfl
theorem rD:tz Tryz.prog 27=some [(0,24),(4,3),(5,25)]:=by kernel_rfl
theorem cR:fy Tryz.prog 27=some 6:=by kernel_rfl
theorem jG:aW Tryz.prog 27 0=some 0:=by kernel_rfl
theorem o4:aW Tryz.prog 27 1=some 4:=by kernel_rfl
theorem jO:aW Tryz.prog 27 2=some 5:=by kernel_rfl
theorem aj:fD Tryz.prog 30=true:=by kernel_rfl
theorem jf:iW Tryz.prog 30=some (32,4,56,(.agg #[(.int .i64 0),(.int .i64 0),(.string ⟨#[]⟩),(.slice none 0 0)])):=by kernel_rfl
theorem ag:bl Tryz.prog 30=some (32,4):=by kernel_rfl
abbrev ay:Nat:=32
theorem ac:fy Tryz.prog 32=some 4:=by kernel_rfl
theorem gO:i6 Tryz.prog 32=some (.agg #[(.int .i64 0),(.int .i64 0),(.string ⟨#[]⟩),(.slice none 0 0)]):=by kernel_rfl
theorem aB:aW Tryz.prog 32 0=some 0:=by kernel_rfl
theorem aR:aW Tryz.prog 32 1=some 1:=by kernel_rfl
theorem ai:aW Tryz.prog 32 2=some 2:=by kernel_rfl
theorem af:aW Tryz.prog 32 3=some 3:=by kernel_rfl
theorem aY:fD Tryz.prog 33=true:=by kernel_rfl
theorem qR:iW Tryz.prog 33=some (35,6,88,(.agg #[(.int .i64 0),(.int .i64 0),(.string ⟨#[]⟩),(.slice none 0 0),(.int .i64 0),(.slice none 0 0)])):=by kernel_rfl
theorem aK:bl Tryz.prog 33=some (35,6):=by kernel_rfl
abbrev aN:Nat:=35
theorem aD:fy Tryz.prog 35=some 6:=by kernel_rfl
theorem fk:i6 Tryz.prog 35=some (.agg #[(.int .i64 0),(.int .i64 0),(.string ⟨#[]⟩),(.slice none 0 0),(.int .i64 0),(.slice none 0 0)]):=by kernel_rfl
theorem bF:aW Tryz.prog 35 0=some 0:=by kernel_rfl
theorem bf:aW Tryz.prog 35 1=some 4:=by kernel_rfl
theorem aS:aW Tryz.prog 35 2=some 5:=by kernel_rfl
abbrev rV:Nat:=39
theorem fr:iW Tryz.prog 39=some (5,1,1,(.int .u8 0)):=by kernel_rfl
abbrev bG:Nat:=54
theorem fm:fD Tryz.prog 54=true:=by kernel_rfl
theorem qm:iW Tryz.prog 96=some (9,1,16,(.string ⟨#[]⟩)):=by kernel_rfl
theorem d1:bl Tryz.prog 96=some (9,1):=by kernel_rfl
abbrev sI:Nat:=164
abbrev j4:Nat:=190
abbrev au:Nat:=3
abbrev jt:Nat:=6
theorem gG:Tryz.prog.funcs[6]?=some Tryz.f6:=Tryz.func6
theorem gi:aE Tryz.f6=false:=by kernel_rfl
abbrev kp:Nat:=7
theorem i8:Tryz.prog.funcs[7]?=some Tryz.f7:=Tryz.func7
theorem iS:aE Tryz.f7=false:=by kernel_rfl
abbrev ey:Nat:=8
theorem hY:Tryz.prog.funcs[8]?=some Tryz.f8:=Tryz.func8
theorem hH:aE Tryz.f8=false:=by kernel_rfl
abbrev j9:Nat:=9
theorem jk:Tryz.prog.funcs[9]?=some Tryz.f9:=Tryz.func9
theorem jg:aE Tryz.f9=false:=by kernel_rfl
abbrev jU:Nat:=10
theorem gQ:Tryz.prog.funcs[10]?=some Tryz.f10:=Tryz.func10
theorem ix:aE Tryz.f10=false:=by kernel_rfl
abbrev lJ:Nat:=12
theorem kn:Tryz.prog.funcs[12]?=some Tryz.f12:=Tryz.func12
theorem kj:aE Tryz.f12=false:=by kernel_rfl
abbrev kW:Nat:=15
theorem ke:Tryz.prog.funcs[15]?=some Tryz.f15:=Tryz.func15
theorem km:aE Tryz.f15=false:=by kernel_rfl
abbrev kT:Nat:=19
theorem jW:Tryz.prog.funcs[19]?=some Tryz.f19:=Tryz.func19
theorem jQ:aE Tryz.f19=false:=by kernel_rfl
abbrev n6:Nat:=20
theorem mr:Tryz.prog.funcs[20]?=some Tryz.f20:=Tryz.func20
theorem mz:aE Tryz.f20=false:=by kernel_rfl
abbrev om:Nat:=21
theorem hO:Tryz.prog.funcs[21]?=some Tryz.f21:=Tryz.func21
theorem gZ:aE Tryz.f21=false:=by kernel_rfl
abbrev f5:Nat:=22
theorem e8:Tryz.prog.funcs[22]?=some Tryz.f22:=Tryz.func22
theorem eI:aE Tryz.f22=false:=by kernel_rfl
abbrev nO:Nat:=23
theorem l9:Tryz.prog.funcs[23]?=some Tryz.f23:=Tryz.func23
theorem mo:aE Tryz.f23=false:=by kernel_rfl
abbrev mj:Nat:=24
theorem fe:Tryz.prog.funcs[24]?=some Tryz.f24:=Tryz.func24
theorem eo:aE Tryz.f24=false:=by kernel_rfl
abbrev lF:Nat:=25
theorem jA:Tryz.prog.funcs[25]?=some Tryz.f25:=Tryz.func25
theorem jx:aE Tryz.f25=false:=by kernel_rfl
abbrev nh:Nat:=26
theorem lS:Tryz.prog.funcs[26]?=some Tryz.f26:=Tryz.func26
theorem mq:aE Tryz.f26=false:=by kernel_rfl
abbrev mn:Nat:=28
theorem e7:Tryz.prog.funcs[28]?=some Tryz.f28:=Tryz.func28
theorem fa:aE Tryz.f28=false:=by kernel_rfl
abbrev oe:Nat:=29
theorem gT:Tryz.prog.funcs[29]?=some Tryz.f29:=Tryz.func29
theorem ir:aE Tryz.f29=false:=by kernel_rfl
abbrev nN:Nat:=30
theorem fS:Tryz.prog.funcs[30]?=some Tryz.f30:=Tryz.func30
theorem fO:aE Tryz.f30=false:=by kernel_rfl
abbrev oD:Nat:=38
theorem nm:Tryz.prog.funcs[38]?=some Tryz.f38:=Tryz.func38
theorem nZ:aE Tryz.f38=false:=by kernel_rfl
abbrev k4:Nat:=39
theorem bP:Tryz.prog.funcs[39]?=some Tryz.f39:=Tryz.func39
theorem bN:aE Tryz.f39=false:=by kernel_rfl
abbrev qe:Nat:=40
theorem eL:Tryz.prog.funcs[40]?=some Tryz.f40:=Tryz.func40
theorem eA:aE Tryz.f40=false:=by kernel_rfl
abbrev fb:Nat:=41
theorem gY:Tryz.prog.funcs[41]?=some Tryz.f41:=Tryz.func41
theorem gH:aE Tryz.f41=false:=by kernel_rfl
abbrev jd:Nat:=42
theorem cc:Tryz.prog.funcs[42]?=some Tryz.f42:=Tryz.func42
theorem cd:aE Tryz.f42=false:=by kernel_rfl
abbrev iy:Nat:=43
theorem dp:Tryz.prog.funcs[43]?=some Tryz.f43:=Tryz.func43
theorem dk:aE Tryz.f43=false:=by kernel_rfl
abbrev pD:Nat:=44
theorem oa:Tryz.prog.funcs[44]?=some Tryz.f44:=Tryz.func44
theorem nz:aE Tryz.f44=false:=by kernel_rfl
abbrev l4:Nat:=45
theorem k9:Tryz.prog.funcs[45]?=some Tryz.f45:=Tryz.func45
theorem lp:aE Tryz.f45=false:=by kernel_rfl
abbrev pU:Nat:=46
theorem dl:Tryz.prog.funcs[46]?=some Tryz.f46:=Tryz.func46
theorem dq:aE Tryz.f46=false:=by kernel_rfl
abbrev d7:Nat:=47
theorem dL:Tryz.prog.funcs[47]?=some Tryz.f47:=Tryz.func47
theorem dA:aE Tryz.f47=false:=by kernel_rfl
abbrev kg:Nat:=48
theorem iB:Tryz.prog.funcs[48]?=some Tryz.f48:=Tryz.func48
theorem iJ:aE Tryz.f48=false:=by kernel_rfl
abbrev ms:Nat:=49
theorem lg:Tryz.prog.funcs[49]?=some Tryz.f49:=Tryz.func49
theorem kz:aE Tryz.f49=false:=by kernel_rfl
abbrev p9:Nat:=58
theorem eB:Tryz.prog.funcs[58]?=some Tryz.f58:=Tryz.func58
theorem fc:aE Tryz.f58=false:=by kernel_rfl
abbrev ql:Nat:=59
theorem oK:Tryz.prog.funcs[59]?=some Tryz.f59:=Tryz.func59
theorem oi:aE Tryz.f59=false:=by kernel_rfl
abbrev oC:Nat:=60
theorem gV:Tryz.prog.funcs[60]?=some Tryz.f60:=Tryz.func60
theorem im:aE Tryz.f60=false:=by kernel_rfl
abbrev oW:Nat:=61
theorem bX:Tryz.prog.funcs[61]?=some Tryz.f61:=Tryz.func61
theorem bV:aE Tryz.f61=false:=by kernel_rfl
abbrev pK:Nat:=62
theorem ol:Tryz.prog.funcs[62]?=some Tryz.f62:=Tryz.func62
theorem oZ:aE Tryz.f62=false:=by kernel_rfl
abbrev nn:Nat:=63
theorem my:Tryz.prog.funcs[63]?=some Tryz.f63:=Tryz.func63
theorem md:aE Tryz.f63=false:=by kernel_rfl
abbrev oq:Nat:=64
theorem ns:Tryz.prog.funcs[64]?=some Tryz.f64:=Tryz.func64
theorem ny:aE Tryz.f64=false:=by kernel_rfl
abbrev qa:Nat:=65
theorem eC:Tryz.prog.funcs[65]?=some Tryz.f65:=Tryz.func65
theorem eJ:aE Tryz.f65=false:=by kernel_rfl
abbrev qg:Nat:=66
theorem pl:Tryz.prog.funcs[66]?=some Tryz.f66:=Tryz.func66
theorem pa:aE Tryz.f66=false:=by kernel_rfl
abbrev r7:Nat:=67
theorem iM:Tryz.prog.funcs[67]?=some Tryz.f67:=Tryz.func67
theorem iE:aE Tryz.f67=false:=by kernel_rfl
abbrev o6:Nat:=68
theorem cL:Tryz.prog.funcs[68]?=some Tryz.f68:=Tryz.func68
theorem cM:aE Tryz.f68=false:=by kernel_rfl
abbrev ja:Nat:=69
theorem dr:Tryz.prog.funcs[69]?=some Tryz.f69:=Tryz.func69
theorem dn:aE Tryz.f69=false:=by kernel_rfl
abbrev gm:Nat:=70
theorem lV:Tryz.prog.funcs[70]?=some Tryz.f70:=Tryz.func70
theorem l5:aE Tryz.f70=false:=by kernel_rfl
abbrev ld:Nat:=71
theorem oG:Tryz.prog.funcs[71]?=some Tryz.f71:=Tryz.func71
theorem pi:aE Tryz.f71=false:=by kernel_rfl
abbrev sg:Nat:=72
theorem rJ:Tryz.prog.funcs[72]?=some Tryz.f72:=Tryz.func72
theorem rn:aE Tryz.f72=false:=by kernel_rfl
abbrev lY:Nat:=74
theorem k8:Tryz.prog.funcs[74]?=some Tryz.f74:=Tryz.func74
theorem kU:aE Tryz.f74=false:=by kernel_rfl
abbrev pe:Nat:=75
theorem nU:Tryz.prog.funcs[75]?=some Tryz.f75:=Tryz.func75
theorem nF:aE Tryz.f75=false:=by kernel_rfl
abbrev oh:Nat:=76
theorem hX:Tryz.prog.funcs[76]?=some Tryz.f76:=Tryz.func76
theorem gh:aE Tryz.f76=false:=by kernel_rfl
abbrev rH:Nat:=77
theorem qA:Tryz.prog.funcs[77]?=some Tryz.f77:=Tryz.func77
theorem pG:aE Tryz.f77=false:=by kernel_rfl
abbrev fw:Nat:=78
theorem eF:Tryz.prog.funcs[78]?=some Tryz.f78:=Tryz.func78
theorem e9:aE Tryz.f78=false:=by kernel_rfl
abbrev lQ:Nat:=79
theorem lk:Tryz.prog.funcs[79]?=some Tryz.f79:=Tryz.func79
theorem kS:aE Tryz.f79=false:=by kernel_rfl
abbrev qJ:Nat:=80
theorem ou:Tryz.prog.funcs[80]?=some Tryz.f80:=Tryz.func80
theorem oF:aE Tryz.f80=false:=by kernel_rfl
abbrev rP:Nat:=94
theorem qL:Tryz.prog.funcs[94]?=some Tryz.f94:=Tryz.func94
theorem qB:aE Tryz.f94=false:=by kernel_rfl
abbrev qw:Nat:=95
theorem j6:Tryz.prog.funcs[95]?=some Tryz.f95:=Tryz.func95
theorem jY:aE Tryz.f95=false:=by kernel_rfl
abbrev lT:Nat:=96
theorem eV:Tryz.prog.funcs[96]?=some Tryz.f96:=Tryz.func96
theorem eW:aE Tryz.f96=false:=by kernel_rfl
abbrev po:Nat:=97
theorem nQ:Tryz.prog.funcs[97]?=some Tryz.f97:=Tryz.func97
theorem nj:aE Tryz.f97=false:=by kernel_rfl
abbrev nE:Nat:=98
theorem lR:Tryz.prog.funcs[98]?=some Tryz.f98:=Tryz.func98
theorem mx:aE Tryz.f98=false:=by kernel_rfl
abbrev rt:Nat:=99
theorem pL:Tryz.prog.funcs[99]?=some Tryz.f99:=Tryz.func99
theorem qy:aE Tryz.f99=false:=by kernel_rfl
abbrev jC:Nat:=101
theorem d6:Tryz.prog.funcs[101]?=some Tryz.f101:=Tryz.func101
theorem dZ:aE Tryz.f101=false:=by kernel_rfl
abbrev pQ:Nat:=102
theorem eO:Tryz.prog.funcs[102]?=some Tryz.f102:=Tryz.func102
theorem ez:aE Tryz.f102=false:=by kernel_rfl
abbrev ma:Nat:=103
theorem de:Tryz.prog.funcs[103]?=some Tryz.f103:=Tryz.func103
theorem dc:aE Tryz.f103=false:=by kernel_rfl
abbrev qj:Nat:=104
theorem pj:Tryz.prog.funcs[104]?=some Tryz.f104:=Tryz.func104
theorem oV:aE Tryz.f104=false:=by kernel_rfl
abbrev pT:Nat:=105
theorem jZ:Tryz.prog.funcs[105]?=some Tryz.f105:=Tryz.func105
theorem js:aE Tryz.f105=false:=by kernel_rfl
abbrev rS:Nat:=106
theorem p7:Tryz.prog.funcs[106]?=some Tryz.f106:=Tryz.func106
theorem qT:aE Tryz.f106=false:=by kernel_rfl
abbrev jb:Nat:=107
theorem gl:Tryz.prog.funcs[107]?=some Tryz.f107:=Tryz.func107
theorem gS:aE Tryz.f107=false:=by kernel_rfl
abbrev sn:Nat:=109
theorem mP:Tryz.prog.funcs[109]?=some Tryz.f109:=Tryz.func109
theorem ng:aE Tryz.f109=false:=by kernel_rfl
abbrev lU:Nat:=110
theorem lC:Tryz.prog.funcs[110]?=some Tryz.f110:=Tryz.func110
theorem lb:aE Tryz.f110=false:=by kernel_rfl
abbrev oE:Nat:=111
theorem gt:Tryz.prog.funcs[111]?=some Tryz.f111:=Tryz.func111
theorem gu:aE Tryz.f111=false:=by kernel_rfl
abbrev oz:Nat:=112
theorem g7:Tryz.prog.funcs[112]?=some Tryz.f112:=Tryz.func112
theorem g5:aE Tryz.f112=false:=by kernel_rfl
abbrev ro:Nat:=113
theorem qu:Tryz.prog.funcs[113]?=some Tryz.f113:=Tryz.func113
theorem qx:aE Tryz.f113=false:=by kernel_rfl
abbrev o3:Nat:=114
theorem n0:Tryz.prog.funcs[114]?=some Tryz.f114:=Tryz.func114
theorem n4:aE Tryz.f114=false:=by kernel_rfl
abbrev mt:Nat:=115
theorem e6:Tryz.prog.funcs[115]?=some Tryz.f115:=Tryz.func115
theorem ep:aE Tryz.f115=false:=by kernel_rfl
abbrev oL:Nat:=128
theorem nK:Tryz.prog.funcs[128]?=some Tryz.f128:=Tryz.func128
theorem nL:aE Tryz.f128=false:=by kernel_rfl
abbrev oy:Nat:=129
theorem nv:Tryz.prog.funcs[129]?=some Tryz.f129:=Tryz.func129
theorem nW:aE Tryz.f129=false:=by kernel_rfl
abbrev mA:Nat:=137
theorem kE:Tryz.prog.funcs[137]?=some Tryz.f137:=Tryz.func137
theorem kC:aE Tryz.f137=false:=by kernel_rfl
abbrev en:Nat:=138
theorem d5:Tryz.prog.funcs[138]?=some Tryz.f138:=Tryz.func138
theorem d8:aE Tryz.f138=false:=by kernel_rfl
abbrev qd:Nat:=139
theorem o0:Tryz.prog.funcs[139]?=some Tryz.f139:=Tryz.func139
theorem pz:aE Tryz.f139=false:=by kernel_rfl
abbrev rm:Nat:=140
theorem pV:Tryz.prog.funcs[140]?=some Tryz.f140:=Tryz.func140
theorem qq:aE Tryz.f140=false:=by kernel_rfl
abbrev qK:Nat:=141
theorem jn:Tryz.prog.funcs[141]?=some Tryz.f141:=Tryz.func141
theorem jE:aE Tryz.f141=false:=by kernel_rfl
abbrev fA:Nat:=168
theorem eX:Tryz.prog.funcs[168]?=some Tryz.f168:=Tryz.func168
theorem eS:aE Tryz.f168=false:=by kernel_rfl
abbrev o9:Nat:=169
theorem ni:Tryz.prog.funcs[169]?=some Tryz.f169:=Tryz.func169
theorem nH:aE Tryz.f169=false:=by kernel_rfl
abbrev ge:Nat:=170
theorem fC:Tryz.prog.funcs[170]?=some Tryz.f170:=Tryz.func170
theorem fu:aE Tryz.f170=false:=by kernel_rfl
abbrev ml:Nat:=171
theorem lN:Tryz.prog.funcs[171]?=some Tryz.f171:=Tryz.func171
theorem lf:aE Tryz.f171=false:=by kernel_rfl
abbrev iY:Nat:=188
theorem gj:Tryz.prog.funcs[188]?=some Tryz.f188:=Tryz.func188
theorem ib:aE Tryz.f188=false:=by kernel_rfl
abbrev rF:Nat:=189
theorem qD:Tryz.prog.funcs[189]?=some Tryz.f189:=Tryz.func189
theorem qG:aE Tryz.f189=false:=by kernel_rfl
abbrev o8:Nat:=190
theorem nx:Tryz.prog.funcs[190]?=some Tryz.f190:=Tryz.func190
theorem nR:aE Tryz.f190=false:=by kernel_rfl

end Go.Proofs.YtbocelianhcfmaaGreatDoor
