/- Made by program: the shallow forms, computed. -/
import Derived.Test.YtfcbhfjomgopbaaGreatZFfgb
set_option maxRecDepth 100000
set_option maxHeartbeats 4000000
namespace Go.Proofs.YtfcbhfjomgopbaaGreat
open Go
attribute [local irreducible] Run CondV aB aS sOp cR bW bt er eA bF Tryz.prog aF undef
def BZ:cr 137:=aX (.seq none .leaf (.seq none .leaf (.seq none (.seq none .leaf (.one (.loop [6,5] (.seq none .leaf (.seq (some [5]) .leaf .leaf))))) .leaf))) Tryz.func137
def nJ:fO 123:=cX (.seq none .leaf (.seq none .leaf (.seq none (.one (.seq (some [14]) .leaf (.two .leaf (.seq none .leaf (.two .leaf (.seq none .leaf (.two .leaf (.seq (some [48]) .leaf .leaf)))))))) (.seq none (.seq none .leaf (.one (.loop [80] .leaf))) .leaf)))) Tryz.func123
def sg:fO 160:=cX (.seq none .leaf (.seq none (.seq none .leaf (.one (.loop [10] .leaf))) .leaf)) Tryz.func160
def u7:fO 84:=cX (.seq none .leaf (.seq none .leaf (.seq none (.seq (some [57]) .leaf .leaf) (.seq none (.seq none .leaf (.one (.loop [7] .leaf))) .leaf)))) Tryz.func84
def m9:bC 7:=aO (.seq none .leaf (.seq none .leaf (.seq none .leaf (.seq none .leaf (.seq none .leaf (.seq none (.seq (some [38]) .leaf .leaf) .leaf)))))) Tryz.func7
def pt:cr 49:=aX (.seq none .leaf (.seq none .leaf (.seq (some []) .leaf .leaf))) Tryz.func49
def yO:bC 196:=aO (.seq none .leaf (.seq none .leaf (.seq none (.one (.loop [3] .leaf)) .leaf))) Tryz.func196
def Az:bC 125:=aO (.seq none .leaf (.seq none (.one (.seq none .leaf (.two .leaf (.seq none .leaf (.two .leaf (.seq (some [18]) .leaf .leaf)))))) (.seq none .leaf (.seq none .leaf (.seq none .leaf (.seq none .leaf (.seq none .leaf (.seq (some [7]) .leaf .leaf)))))))) Tryz.func125
def yD:bC 173:=aO (.seq none .leaf (.seq none .leaf (.seq none (.seq none .leaf (.one (.loop [4,3] (.seq none .leaf (.seq none (.one (.seq (some [3]) .leaf .leaf)) .leaf))))) .leaf))) Tryz.func173
def vW:bC 46:=aO (.seq none .leaf (.seq none .leaf (.seq none .leaf (.seq (some []) .leaf .leaf)))) Tryz.func46
def vg:cr 114:=aX (.seq none .leaf (.seq none (.seq (some [12]) .leaf .leaf) (.seq none (.seq none .leaf (.one (.loop [5] .leaf))) .leaf))) Tryz.func114
def yE:bC 211:=aO (.seq none .leaf (.seq none .leaf (.seq none .leaf (.seq none .leaf (.seq none (.one (.loop [0,3] .leaf)) .leaf))))) Tryz.func211
def vO:bC 143:=aO (.seq none .leaf (.seq none (.seq none .leaf (.one (.seq (some [5]) .leaf (.two .leaf (.seq (some [15]) .leaf (.two .leaf (.seq (some [18]) .leaf .leaf))))))) .leaf)) Tryz.func143
def wc:bC 117:=aO (.seq none .leaf (.seq none (.seq none .leaf (.one (.seq (some [4]) .leaf (.two .leaf (.seq (some [14]) .leaf (.two .leaf (.seq (some [17]) .leaf .leaf))))))) .leaf)) Tryz.func117
def nQ:bC 52:=aO .leaf Tryz.func52
def uN:cr 200:=aX (.seq none .leaf (.seq none .leaf (.seq none (.seq (some [15]) .leaf .leaf) .leaf))) Tryz.func200
def qd:bC 63:=aO .leaf Tryz.func63
def vm:bC 81:=aO .leaf Tryz.func81
def qk:bC 141:=aO .leaf Tryz.func141
def r3:bC 199:=aO (.seq none .leaf (.seq none (.seq (some [8]) .leaf .leaf) .leaf)) Tryz.func199
def hK:cr 65:=aX .leaf Tryz.func65
def Ck:bC 107:=aO .leaf Tryz.func107
def qN:D1 156:=r7 .leaf Tryz.func156
def yj:bC 205:=aO .leaf Tryz.func205
end Go.Proofs.YtfcbhfjomgopbaaGreat
