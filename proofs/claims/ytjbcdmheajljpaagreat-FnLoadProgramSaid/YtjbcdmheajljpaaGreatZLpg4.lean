/- Made by program: the shallow forms, computed. -/
import Derived.Test.YtjbcdmheajljpaaGreatZLpgb
set_option maxRecDepth 100000
set_option maxHeartbeats 4000000
namespace Go.Proofs.YtjbcdmheajljpaaGreat
open Go
attribute [local irreducible] Run CondV aC aU sOp dh bR bI eN fa bO Tryz.prog aE undef
def nf:lE 122:=fB (.seq none .leaf (.seq none .leaf (.seq none (.one (.seq (some [14]) .leaf (.two .leaf (.seq none .leaf (.two .leaf (.seq none .leaf (.two .leaf (.seq (some [48]) .leaf .leaf)))))))) (.seq none (.seq none .leaf (.one (.loop [80] .leaf))) .leaf)))) Tryz.func122
def mI:cR 68:=bm (.seq none .leaf (.seq none (.seq none .leaf (.one (.loop [15,4] (.seq none .leaf (.seq none .leaf (.seq (some [4]) .leaf .leaf)))))) (.one (.loop [4] (.seq none .leaf (.one (.seq none .leaf (.seq none .leaf (.seq none .leaf (.seq none .leaf (.one (.loop [86,4] (.seq none .leaf (.seq none .leaf (.seq (some [4]) .leaf .leaf))))))))))))))) Tryz.func68
def iY:cR 108:=bm .leaf Tryz.func108
def tm:cR 73:=bm (.seq none .leaf (.seq none (.seq none .leaf (.one (.loop [5] (.seq none .leaf (.seq (some []) (.one (.seq none .leaf (.seq none .leaf (.seq none (.seq none .leaf (.one (.loop [7] .leaf))) (.seq none .leaf (.seq (some [8]) .leaf .leaf)))))) .leaf))))) .leaf)) Tryz.func73
def tf:QS 172:=QQ (.seq none .leaf (.seq none .leaf (.one (.loop [1,12] (.one (.seq none .leaf (.seq none .leaf (.seq none .leaf (.seq none (.seq (some [39]) .leaf .leaf) .leaf))))))))) Tryz.func172
def xE:cR 10:=bm (.seq none .leaf (.seq none .leaf (.seq none (.seq none .leaf (.one (.loop [5] .leaf))) .leaf))) Tryz.func10
def vw:cR 156:=bm (.seq none .leaf (.seq none .leaf (.seq none (.one (.loop [1,6] .leaf)) .leaf))) Tryz.func156
def mT:cR 69:=bm (.seq none .leaf (.seq none (.seq none .leaf (.one (.loop [9] .leaf))) .leaf)) Tryz.func69
def DK:lE 100:=fB (.seq none .leaf (.seq none .leaf (.seq none (.seq (some [19]) .leaf .leaf) (.seq none (.seq none .leaf (.one (.seq none .leaf (.two .leaf (.seq none .leaf (.two .leaf (.seq none .leaf (.two (.seq none (.seq (some [70]) .leaf .leaf) .leaf) .leaf)))))))) .leaf)))) Tryz.func100
def HU:bS 64:=aQ .leaf Tryz.func64
def lC:cR 84:=bm .leaf Tryz.func84
def lX:cR 148:=bm .leaf Tryz.func148
def yC:bS 151:=aQ (.seq none .leaf (.seq none .leaf (.seq none .leaf (.seq none .leaf (.seq none (.one (.loop [0,3] .leaf)) .leaf))))) Tryz.func151
def Bo:cR 149:=bm (.seq none .leaf (.seq none (.seq none .leaf (.one (.loop [5] .leaf))) .leaf)) Tryz.func149
def vi:cR 182:=bm (.seq none .leaf (.seq none .leaf (.seq none (.seq (some [15]) .leaf .leaf) .leaf))) Tryz.func182
def kE:cR 40:=bm .leaf Tryz.func40
def pi:bS 70:=aQ .leaf Tryz.func70
def yi:lE 139:=fB .leaf Tryz.func139
def lD:bS 14:=aQ .leaf Tryz.func14
def Bl:bS 89:=aQ .leaf Tryz.func89
def yq:bS 123:=aQ .leaf Tryz.func123
def tD:cR 176:=bm .leaf Tryz.func176
end Go.Proofs.YtjbcdmheajljpaaGreat
