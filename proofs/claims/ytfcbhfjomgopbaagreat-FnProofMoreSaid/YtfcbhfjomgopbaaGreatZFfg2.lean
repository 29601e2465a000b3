/- Made by program: the shallow forms, computed. -/
import Derived.Test.YtfcbhfjomgopbaaGreatZFfgb
set_option maxRecDepth 100000
set_option maxHeartbeats 4000000
namespace Go.Proofs.YtfcbhfjomgopbaaGreat
open Go
attribute [local irreducible] Run CondV aB aS sOp cR bW bt er eA bF Tryz.prog aF undef
def zf:cr 36:=aX (.seq none .leaf (.seq none .leaf (.seq none .leaf (.seq none .leaf (.seq none .leaf (.seq none .leaf (.seq none (.seq none .leaf (.one (.loop [72] .leaf))) .leaf))))))) Tryz.func36
def r5:fO 60:=cX (.seq none .leaf (.seq none .leaf (.seq none (.seq (some [56]) .leaf .leaf) (.seq none (.seq none .leaf (.one (.loop [60] .leaf))) .leaf)))) Tryz.func60
def lG:bC 103:=aO (.seq none .leaf (.seq none .leaf (.seq none (.seq none .leaf (.one (.loop [4] .leaf))) .leaf))) Tryz.func103
def sA:fO 100:=cX (.seq none .leaf (.seq none .leaf (.seq none .leaf (.seq none .leaf (.seq none .leaf (.seq none (.seq none .leaf (.one (.loop [13,10,1] (.seq none (.seq (some [46]) .leaf .leaf) .leaf)))) .leaf)))))) Tryz.func100
def wq:fO 154:=cX (.seq none .leaf (.seq none (.seq (some [23]) .leaf .leaf) (.seq none .leaf (.seq none (.seq (some [65]) .leaf .leaf) (.seq none (.seq (some [83]) .leaf .leaf) (.seq none (.seq (some [106]) .leaf .leaf) .leaf)))))) Tryz.func154
def zc:bC 202:=aO (.seq none .leaf (.seq none .leaf (.seq none .leaf (.seq none .leaf (.seq none (.seq none .leaf (.one (.loop [4,3] (.seq none .leaf (.seq none (.one (.seq (some [3]) .leaf .leaf)) .leaf))))) (.seq (some [3]) .leaf .leaf)))))) Tryz.func202
def nt:bC 54:=aO (.seq none .leaf (.seq none (.seq none .leaf (.one (.loop [3] (.seq none (.seq (some [12]) .leaf .leaf) .leaf)))) .leaf)) Tryz.func54
def ui:cr 135:=aX .leaf Tryz.func135
def uE:D9 134:=sK (.seq none .leaf (.seq none .leaf (.seq none (.seq none .leaf (.one (.loop [10,9] .leaf))) .leaf))) Tryz.func134
def yy:bC 201:=aO (.seq none .leaf (.seq none .leaf (.seq none (.seq none .leaf (.one (.loop [4,3] (.seq none .leaf (.seq none (.one (.seq (some [3]) .leaf .leaf)) .leaf))))) .leaf))) Tryz.func201
def uV:bC 57:=aO (.seq none .leaf (.seq none .leaf (.seq none (.seq none .leaf (.one (.loop [4] .leaf))) .leaf))) Tryz.func57
def CI:cr 184:=aX (.seq none .leaf (.seq none (.seq none .leaf (.one (.loop [5] .leaf))) .leaf)) Tryz.func184
def p8:bC 166:=aO .leaf Tryz.func166
def yK:fO 64:=cX .leaf Tryz.func64
def vj:cr 176:=aX .leaf Tryz.func176
def y5:bC 104:=aO .leaf Tryz.func104
def oL:bC 165:=aO .leaf Tryz.func165
def oX:cr 14:=aX .leaf Tryz.func14
def l4:bC 26:=aO .leaf Tryz.func26
def Bf:bC 85:=aO .leaf Tryz.func85
def sh_i_holds:bC 122:=aO .leaf Tryz.func122
def rO:bC 192:=aO (.seq none .leaf (.seq none (.seq (some [9]) .leaf .leaf) .leaf)) Tryz.func192
end Go.Proofs.YtfcbhfjomgopbaaGreat
