/- Made by program: the shallow forms, computed. -/
import Derived.Test.YtgllldjiaglkcaaGreatDoorZUfgb
set_option maxRecDepth 100000
set_option maxHeartbeats 4000000
namespace Go.Proofs.YtgllldjiaglkcaaGreatDoor
open Go
attribute [local irreducible] Run CondV aq aK sOp c9 cR cd eR ff cm Tryz.prog ao undef
def ro:R4 138:=JO (.seq none .leaf (.seq none .leaf (.seq none (.seq none .leaf (.one (.loop [30] (.seq none .leaf (.seq none .leaf (.seq none (.one (.seq none .leaf (.seq none .leaf (.seq none .leaf (.seq none .leaf (.seq none .leaf (.seq none .leaf (.seq (some []) .leaf (.seq none .leaf (.seq none .leaf (.seq none (.seq none .leaf (.one (.loop [120,17] .leaf))) .leaf))))))))))) .leaf)))))) .leaf))) Tryz.func138
def nS:cC 59:=bm (.seq none .leaf (.seq none .leaf (.seq none .leaf (.seq none .leaf (.seq none .leaf (.seq none .leaf (.seq none .leaf (.seq none (.seq none .leaf (.one (.loop [12,11] .leaf))) .leaf)))))))) Tryz.func59
def ub:cC 56:=bm (.seq none .leaf (.seq none .leaf (.seq none .leaf (.seq none .leaf (.seq none .leaf (.seq none (.seq none .leaf (.one (.loop [35,9] .leaf))) (.seq none .leaf (.seq none (.seq none .leaf (.one (.loop [53] .leaf))) .leaf)))))))) Tryz.func56
def pW:bR 135:=aO (.seq none .leaf (.seq none (.one (.loop [] .leaf)) .leaf)) Tryz.func135
def vA:cC 110:=bm (.seq none .leaf (.seq none .leaf (.seq (some []) (.seq none .leaf (.one (.seq none .leaf (.two .leaf (.seq none .leaf (.two .leaf (.seq none .leaf (.two (.one (.loop [] .leaf)) .leaf)))))))) .leaf))) Tryz.func110
def CZ:cC 183:=bm (.seq none .leaf (.seq none (.seq none .leaf (.two (.seq none (.seq none .leaf (.one (.loop [5] .leaf))) .leaf) .leaf)) (.seq none (.seq none .leaf (.one (.loop [6,0] .leaf))) .leaf))) Tryz.func183
def rP:cC 54:=bm (.seq none .leaf (.seq none .leaf (.seq none (.seq none .leaf (.one (.loop [10,5] (.seq none .leaf (.seq none .leaf (.seq (some [5]) .leaf .leaf)))))) .leaf))) Tryz.func54
def xV:cC 170:=bm (.seq none .leaf (.seq none .leaf (.seq none (.one (.loop [1,6] .leaf)) .leaf))) Tryz.func170
def rz:bR 128:=aO (.seq none .leaf (.seq none .leaf (.seq none (.seq none .leaf (.one (.loop [4,3] .leaf))) (.seq none .leaf (.seq none (.seq none .leaf (.one (.loop [6,5] .leaf))) .leaf))))) Tryz.func128
def yU:bR 38:=aO (.seq none .leaf (.seq none .leaf (.seq none (.seq none .leaf (.one (.loop [4,3] .leaf))) .leaf))) Tryz.func38
def Dh:cC 179:=bm (.seq none .leaf (.seq none (.one (.loop [] (.seq none (.seq (some [23]) .leaf .leaf) .leaf))) .leaf)) Tryz.func179
def th:cC 80:=bm (.seq none .leaf (.seq none (.seq none .leaf (.one (.loop [8] .leaf))) .leaf)) Tryz.func80
def oi:cC 141:=bm .leaf Tryz.func141
def BZ:bR 114:=aO .leaf Tryz.func114
def uv:bR 101:=aO (.seq none .leaf (.seq none (.seq none .leaf (.one (.loop [6] (.seq none .leaf (.seq none .leaf (.seq none (.one (.seq none .leaf (.seq (some [18]) .leaf .leaf))) .leaf)))))) .leaf)) Tryz.func101
def IR:cC 255:=bm (.seq none .leaf (.seq none .leaf (.seq (some [6]) .leaf (.seq none .leaf (.seq none .leaf (.seq none (.seq (some [33]) .leaf .leaf) (.seq (some [9]) .leaf (.seq none (.seq (some [54]) .leaf .leaf) (.seq (some [8]) .leaf .leaf))))))))) Tryz.func255
def wj:bR 189:=aO .leaf Tryz.func189
def yx:bR 225:=aO (.seq none .leaf (.seq none (.seq none .leaf (.one (.seq (some [4]) .leaf (.two .leaf (.seq (some [14]) .leaf (.two .leaf (.seq (some [17]) .leaf .leaf))))))) .leaf)) Tryz.func225
def zC:cC 239:=bm .leaf Tryz.func239
def mQ:cC 66:=bm .leaf Tryz.func66
def uj:bR 203:=aO .leaf Tryz.func203
def CQ:cC 310:=bm .leaf Tryz.func310
def IY:bR 102:=aO .leaf Tryz.func102
def Cl:bR 194:=aO .leaf Tryz.func194
def tD:bR 286:=aO .leaf Tryz.func286
end Go.Proofs.YtgllldjiaglkcaaGreatDoor
