/- Made by program: the shallow forms, computed. -/
import Derived.Test.YtgllldjiaglkcaaGreatDoorZMpgb
set_option maxRecDepth 100000
set_option maxHeartbeats 4000000
namespace Go.Proofs.YtgllldjiaglkcaaGreatDoor
open Go
attribute [local irreducible] Run CondV az aO sOp cK cB bC eY eM bM Tryz.prog aD undef
def rL:cc 134:=aY (.seq none .leaf (.seq none .leaf (.seq none .leaf (.seq none .leaf (.seq none (.one (.seq (some [115]) .leaf (.two .leaf (.seq (some [128]) .leaf .leaf)))) .leaf))))) Tryz.func134
def wG:iI 153:=dN (.seq none .leaf (.seq none .leaf (.seq none (.seq (some [56]) .leaf .leaf) (.seq none (.seq none .leaf (.one (.loop [60] .leaf))) .leaf)))) Tryz.func153
def vJ:cc 252:=aY (.seq none .leaf (.seq none (.seq (some [33]) .leaf .leaf) (.seq none (.seq none .leaf (.one (.loop [5] .leaf))) .leaf))) Tryz.func252
def Dh:bD 290:=aM (.seq none .leaf (.seq none (.one (.seq none .leaf (.two .leaf (.seq none .leaf (.two (.seq none .leaf (.seq none .leaf (.seq (some [4]) .leaf .leaf))) (.seq (some [37]) .leaf .leaf)))))) .leaf)) Tryz.func290
def kN:y9 139:=lC (.seq none .leaf (.seq none .leaf (.seq none .leaf (.seq none (.seq (some [30]) .leaf .leaf) (.seq none .leaf (.seq none (.seq none .leaf (.one (.loop [42] .leaf))) .leaf)))))) Tryz.func139
def qp:iI 265:=dN .leaf Tryz.func265
def CF:bD 270:=aM (.seq none .leaf (.seq (some [4]) .leaf (.seq (some [0]) .leaf (.seq none (.seq (some [38]) .leaf .leaf) (.seq none .leaf (.seq none (.seq none .leaf (.one (.loop [6,5] (.seq none .leaf (.seq none (.one (.seq none (.seq (some [54]) .leaf .leaf) .leaf)) .leaf))))) (.seq (some [5]) .leaf .leaf))))))) Tryz.func270
def oG:bD 107:=aM (.seq none .leaf (.seq none .leaf (.seq none .leaf (.seq none (.seq (some [23]) .leaf .leaf) (.seq none (.seq none .leaf (.one (.loop [6,4] .leaf))) .leaf))))) Tryz.func107
def Fi:cc 186:=aY (.seq none .leaf (.seq none .leaf (.seq none (.seq none .leaf (.one (.loop [13] .leaf))) .leaf))) Tryz.func186
def Ak:cc 151:=aY (.seq none .leaf (.seq (some [1]) (.seq (some [16]) .leaf .leaf) (.seq none (.seq none .leaf (.one (.loop [25,1] .leaf))) .leaf))) Tryz.func151
def Dr:cc 129:=aY (.seq none .leaf (.seq none .leaf (.seq none .leaf (.seq none .leaf (.seq (some [8,7]) (.one (.loop [8,7] .leaf)) .leaf))))) Tryz.func129
def qh:bD 130:=aM (.seq none .leaf (.seq none (.seq none .leaf (.one (.loop [3] (.seq none (.seq (some [11]) .leaf .leaf) .leaf)))) .leaf)) Tryz.func130
def y6:bD 132:=aM (.seq none .leaf (.seq none .leaf (.seq none (.seq none .leaf (.one (.loop [4,3] .leaf))) .leaf))) Tryz.func132
def nj:cc 173:=aY (.seq none .leaf (.seq none (.seq none .leaf (.one (.loop [8] .leaf))) .leaf)) Tryz.func173
def O3:bD 140:=aM .leaf Tryz.func140
def rj:cc 62:=aY .leaf Tryz.func62
def wE:bD 291:=aM .leaf Tryz.func291
def n5:bD 259:=aM .leaf Tryz.func259
def ox:cc 260:=aY .leaf Tryz.func260
def oC:y9 229:=lC .leaf Tryz.func229
def DS:bD 302:=aM (.seq none .leaf (.seq none .leaf (.seq none .leaf (.seq none .leaf (.seq none (.one (.loop [0,3] .leaf)) .leaf))))) Tryz.func302
def kV:cc 250:=aY (.seq none .leaf (.seq none (.seq none .leaf (.one (.loop [8] .leaf))) .leaf)) Tryz.func250
def Hp:bD 253:=aM .leaf Tryz.func253
def wI:cc 23:=aY .leaf Tryz.func23
def zl:bD 47:=aM (.seq none .leaf (.seq (some [0]) .leaf .leaf)) Tryz.func47
def yg:bD 165:=aM .leaf Tryz.func165
def lz:y9 257:=lC .leaf Tryz.func257
def li:cc 43:=aY .leaf Tryz.func43
def vS:cc 111:=aY .leaf Tryz.func111
def Dz:bD 194:=aM .leaf Tryz.func194
def Ib:bD 275:=aM .leaf Tryz.func275
end Go.Proofs.YtgllldjiaglkcaaGreatDoor
