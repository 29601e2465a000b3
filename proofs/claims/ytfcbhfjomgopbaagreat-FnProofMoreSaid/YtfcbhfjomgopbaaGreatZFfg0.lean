/- Made by program: the shallow forms, computed. -/
import Derived.Test.YtfcbhfjomgopbaaGreatZFfgb
set_option maxRecDepth 100000
set_option maxHeartbeats 4000000
namespace Go.Proofs.YtfcbhfjomgopbaaGreat
open Go
attribute [local irreducible] Run CondV aB aS sOp cR bW bt er eA bF Tryz.prog aF undef
def Cm:fO 180:=cX (.seq none .leaf (.seq none (.seq none .leaf (.one (.loop [8] (.seq none .leaf (.seq none (.one (.seq none .leaf (.seq none .leaf (.seq none .leaf (.seq none .leaf (.seq none .leaf (.seq none .leaf (.seq (some []) .leaf .leaf)))))))) .leaf))))) .leaf)) Tryz.func180
def qM:bC 88:=aO (.seq none .leaf (.seq none .leaf (.seq none (.seq none .leaf (.one (.loop [9,4] (.seq none .leaf (.seq none .leaf (.seq (some [4]) .leaf .leaf)))))) .leaf))) Tryz.func88
def lZ:bC 93:=aO (.seq none .leaf (.seq none .leaf (.seq none .leaf (.seq none (.seq (some [23]) .leaf .leaf) (.seq none (.seq none .leaf (.one (.loop [6,4] .leaf))) .leaf))))) Tryz.func93
def oJ:bC 133:=aO (.seq none .leaf (.seq none .leaf (.seq none .leaf (.seq none (.seq (some [25]) .leaf .leaf) (.seq none .leaf (.seq none (.seq none .leaf (.one (.loop [7,6] .leaf))) .leaf)))))) Tryz.func133
def ww:cr 115:=aX (.seq none .leaf (.seq none .leaf (.seq none (.seq none .leaf (.one (.loop [6,5] (.seq none (.seq (some [16]) .leaf .leaf) .leaf)))) .leaf))) Tryz.func115
def jU:fO 128:=cX (.seq none .leaf (.seq none .leaf (.seq none (.seq none .leaf (.one (.loop [17] .leaf))) .leaf))) Tryz.func128
def lI:D9 172:=sK .leaf Tryz.func172
def vq:bC 163:=aO (.seq none .leaf (.seq none .leaf (.seq none .leaf (.seq none (.seq (some [31]) .leaf .leaf) .leaf)))) Tryz.func163
def wt:fO 175:=cX .leaf Tryz.func175
def uT:D1 168:=r7 .leaf Tryz.func168
def wG:bC 132:=aO .leaf Tryz.func132
def mQ:fO 66:=cX .leaf Tryz.func66
def rY:bC 83:=aO .leaf Tryz.func83
def za:fO 142:=cX .leaf Tryz.func142
def Cr:bC 204:=aO .leaf Tryz.func204
def sx:cr 70:=aX .leaf Tryz.func70
def Et:bC 110:=aO .leaf Tryz.func110
def qB:bC 169:=aO .leaf Tryz.func169
def wn:bC 207:=aO .leaf Tryz.func207
end Go.Proofs.YtfcbhfjomgopbaaGreat
