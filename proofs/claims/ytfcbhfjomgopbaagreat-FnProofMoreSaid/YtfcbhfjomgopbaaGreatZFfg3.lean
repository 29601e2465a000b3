/- Made by program: the shallow forms, computed. -/
import Derived.Test.YtfcbhfjomgopbaaGreatZFfgb
set_option maxRecDepth 100000
set_option maxHeartbeats 4000000
namespace Go.Proofs.YtfcbhfjomgopbaaGreat
open Go
attribute [local irreducible] Run CondV aB aS sOp cR bW bt er eA bF Tryz.prog aF undef
def wj:cr 56:=aX (.seq none .leaf (.seq none .leaf (.seq none .leaf (.seq none .leaf (.seq none .leaf (.seq none .leaf (.seq none (.seq none .leaf (.one (.loop [7] .leaf))) .leaf))))))) Tryz.func56
def vz:cr 138:=aX .leaf Tryz.func138
def yx:D9 131:=sK (.seq none .leaf (.seq none .leaf (.seq none .leaf (.seq none (.one (.loop [11] (.seq none .leaf (.one (.seq none .leaf (.seq none (.seq (some [48]) .leaf .leaf) .leaf)))))) .leaf)))) Tryz.func131
def yX:bC 187:=aO (.seq none .leaf (.seq none (.one (.seq none .leaf (.two .leaf (.seq none .leaf (.two (.seq none .leaf (.seq none .leaf (.seq (some [4]) .leaf .leaf))) (.seq (some [37]) .leaf .leaf)))))) .leaf)) Tryz.func187
def rJ:fO 181:=cX (.seq none .leaf (.seq none .leaf (.seq none (.seq none .leaf (.one (.loop [8,7] (.seq none .leaf (.seq (some [7]) (.one (.seq none .leaf (.seq (some [40]) .leaf .leaf))) .leaf))))) .leaf))) Tryz.func181
def wo:QT 179:=QM (.seq none .leaf (.seq none .leaf (.one (.loop [1,12] (.one (.seq none .leaf (.seq none .leaf (.seq none .leaf (.seq none (.seq (some [39]) .leaf .leaf) .leaf))))))))) Tryz.func179
def yw:cr 140:=aX (.seq none .leaf (.seq none (.seq none .leaf (.two (.seq none (.seq none .leaf (.one (.loop [5] .leaf))) .leaf) .leaf)) (.seq none (.seq none .leaf (.one (.loop [6,0] .leaf))) .leaf))) Tryz.func140
def D0:fO 108:=cX (.seq none .leaf (.seq none .leaf (.seq none (.seq (some [19]) .leaf .leaf) (.seq none (.seq none .leaf (.one (.seq none .leaf (.two .leaf (.seq none .leaf (.two .leaf (.seq none .leaf (.two (.seq none (.seq (some [70]) .leaf .leaf) .leaf) .leaf)))))))) .leaf)))) Tryz.func108
def nl:bC 130:=aO (.seq none .leaf (.seq none .leaf (.seq none .leaf (.seq none .leaf (.seq none .leaf (.seq (some [5]) (.seq (some [29]) .leaf .leaf) (.seq none (.seq (some [54]) .leaf .leaf) .leaf))))))) Tryz.func130
def vY:cr 102:=aX (.seq none .leaf (.seq none .leaf (.seq none (.seq none .leaf (.one (.loop [5,0] .leaf))) .leaf))) Tryz.func102
def oP:fO 149:=cX .leaf Tryz.func149
def iI:cr 75:=aX (.seq none .leaf (.seq none (.seq none .leaf (.one (.loop [8] .leaf))) .leaf)) Tryz.func75
def yv:bC 203:=aO (.seq none .leaf (.seq none .leaf (.seq none (.seq none .leaf (.one (.loop [4,3] .leaf))) .leaf))) Tryz.func203
def yV:bC 167:=aO .leaf Tryz.func167
def yl:bC 91:=aO .leaf Tryz.func91
def r9:bC 33:=aO .leaf Tryz.func33
def vl:bC 77:=aO .leaf Tryz.func77
def sO:cr 105:=aX .leaf Tryz.func105
def tX:fO 183:=cX .leaf Tryz.func183
def oI:bC 31:=aO .leaf Tryz.func31
def r6:D1 86:=r7 .leaf Tryz.func86
def yU:bC 126:=aO .leaf Tryz.func126
def Bx:cr 194:=aX .leaf Tryz.func194
end Go.Proofs.YtfcbhfjomgopbaaGreat
