/- Made by program: the shallow forms, computed. -/
import Derived.Test.YtfcbhfjomgopbaaGreatZFfgb
set_option maxRecDepth 100000
set_option maxHeartbeats 4000000
namespace Go.Proofs.YtfcbhfjomgopbaaGreat
open Go
attribute [local irreducible] Run CondV aB aS sOp cR bW bt er eA bF Tryz.prog aF undef
def uO:cr 99:=aX (.seq none .leaf (.seq none (.one (.loop [] .leaf)) .leaf)) Tryz.func99
def oV:cr 87:=aX (.seq none .leaf (.seq none .leaf (.seq none .leaf (.seq none .leaf (.seq none (.one (.seq (some [115]) .leaf (.two .leaf (.seq (some [128]) .leaf .leaf)))) .leaf))))) Tryz.func87
def wH:fO 136:=cX (.seq none .leaf (.seq none .leaf (.seq none .leaf (.seq none .leaf (.seq (some []) .leaf .leaf))))) Tryz.func136
def nE:bC 118:=aO (.seq none .leaf (.seq none .leaf (.seq none (.seq (some [28]) .leaf .leaf) (.seq none .leaf (.seq none .leaf (.seq none .leaf (.seq none .leaf (.seq none (.seq none .leaf (.one (.loop [8,7] (.seq none .leaf (.seq (some [7]) (.one (.seq none .leaf (.seq none .leaf (.seq none (.seq (some [66]) .leaf .leaf) .leaf)))) .leaf))))) .leaf)))))))) Tryz.func118
def rL:cr 119:=aX (.seq none .leaf (.seq none (.seq (some [33]) .leaf .leaf) (.seq none (.seq none .leaf (.one (.loop [5] .leaf))) .leaf))) Tryz.func119
def y6:cr 74:=aX (.seq none .leaf (.seq none (.seq (some [13]) .leaf .leaf) (.seq none .leaf (.seq none .leaf (.seq none (.seq none .leaf (.one (.loop [6] .leaf))) .leaf))))) Tryz.func74
def sG:cr 73:=aX (.seq none .leaf (.seq none .leaf (.seq (some []) (.seq none .leaf (.one (.seq none .leaf (.two .leaf (.seq none .leaf (.two .leaf (.seq none .leaf (.two .leaf (.seq none .leaf (.two (.one (.loop [] .leaf)) (.seq none .leaf (.two (.seq none .leaf (.one (.loop [6] .leaf))) .leaf)))))))))))) .leaf))) Tryz.func73
def vf:cr 152:=aX (.seq none .leaf (.seq none .leaf (.seq none (.one (.loop [1,6] .leaf)) .leaf))) Tryz.func152
def sC:cr 55:=aX (.seq none .leaf (.seq none (.seq (some [29]) .leaf .leaf) (.seq none (.seq none .leaf (.one (.loop [5] .leaf))) .leaf))) Tryz.func55
def oG:cr 124:=aX (.seq none (.seq none .leaf (.one (.loop [13] .leaf))) .leaf) Tryz.func124
def EC:cr 155:=aX (.seq none .leaf (.seq none .leaf (.seq (some [6]) .leaf (.seq none .leaf (.seq none .leaf (.seq none (.seq (some [33]) .leaf .leaf) (.seq (some [9]) .leaf (.seq none (.seq (some [54]) .leaf .leaf) (.seq (some [8]) .leaf .leaf))))))))) Tryz.func155
def yW:cr 159:=aX (.seq none .leaf (.seq none .leaf (.seq none (.seq none .leaf (.one (.loop [5] .leaf))) .leaf))) Tryz.func159
def sD:bC 121:=aO .leaf Tryz.func121
def sR:bC 95:=aO (.seq none .leaf (.seq none .leaf (.seq none .leaf (.seq none (.seq (some [23]) .leaf .leaf) .leaf)))) Tryz.func95
def j2:bC 51:=aO .leaf Tryz.func51
def Cy:cr 193:=aX (.seq none .leaf (.seq none .leaf (.seq (some [5]) (.seq (some [17]) .leaf .leaf) .leaf))) Tryz.func193
def tS:bC 59:=aO .leaf Tryz.func59
def qw:bC 80:=aO .leaf Tryz.func80
def kJ:cr 127:=aX .leaf Tryz.func127
def yr:cr 198:=aX .leaf Tryz.func198
def Av:bC 61:=aO .leaf Tryz.func61
def Au:bC 106:=aO .leaf Tryz.func106
def zp:fO 151:=cX .leaf Tryz.func151
def vP:bC 197:=aO .leaf Tryz.func197
end Go.Proofs.YtfcbhfjomgopbaaGreat
