/- Made by program: the shallow forms, computed. -/
import Derived.Test.YtfcbhfjomgopbaaGreatZFfgb
set_option maxRecDepth 100000
set_option maxHeartbeats 4000000
namespace Go.Proofs.YtfcbhfjomgopbaaGreat
open Go
attribute [local irreducible] Run CondV aB aS sOp cR bW bt er eA bF Tryz.prog aF undef
def zm:cr 178:=aX (.seq none .leaf (.seq none .leaf (.seq none (.one (.loop [6] .leaf)) (.seq none .leaf (.seq none .leaf (.seq none .leaf (.seq none .leaf (.seq none (.seq none .leaf (.one (.loop [9,7] (.seq none .leaf (.seq (some [7]) .leaf .leaf))))) .leaf)))))))) Tryz.func178
def wz:fO 68:=cX (.seq none .leaf (.seq none .leaf (.seq none (.one (.loop [2] (.seq none (.seq (some [28]) .leaf .leaf) (.one (.seq none .leaf (.seq none .leaf (.seq none .leaf (.seq (some []) .leaf .leaf)))))))) .leaf))) Tryz.func68
def uF:cr 158:=aX (.seq none .leaf (.seq none .leaf (.seq (some []) .leaf (.seq none (.seq none .leaf (.one (.loop [6] .leaf))) .leaf)))) Tryz.func158
def lT:bC 71:=aO (.seq none .leaf (.seq none .leaf (.seq none (.seq none .leaf (.one (.loop [4] .leaf))) .leaf))) Tryz.func71
def jy:D9 150:=sK (.seq none .leaf (.seq none .leaf (.seq none .leaf (.seq none (.seq (some [30]) .leaf .leaf) (.seq none .leaf (.seq none (.seq none .leaf (.one (.loop [42] .leaf))) .leaf)))))) Tryz.func150
def zg:bC 189:=aO (.seq none .leaf (.seq (some [4]) .leaf (.seq (some [0]) .leaf (.seq none (.seq (some [38]) .leaf .leaf) (.seq none .leaf (.seq none (.seq none .leaf (.one (.loop [6,5] (.seq none .leaf (.seq none (.one (.seq none (.seq (some [54]) .leaf .leaf) .leaf)) .leaf))))) (.seq (some [5]) .leaf .leaf))))))) Tryz.func189
def si:cr 177:=aX (.seq none .leaf (.seq none .leaf (.seq (some [6]) .leaf (.seq none .leaf (.seq none (.one (.loop [6] (.seq none (.seq (some [25]) .leaf .leaf) .leaf))) (.seq none .leaf (.seq none (.seq (some [50]) .leaf .leaf) (.seq (some [8]) .leaf .leaf)))))))) Tryz.func177
def uj:bC 191:=aO (.seq none .leaf (.seq none .leaf (.seq none .leaf (.seq none (.seq none .leaf (.one (.loop [5,4] (.seq none .leaf (.seq (some [4]) .leaf .leaf))))) .leaf)))) Tryz.func191
def lJ:bC 30:=aO (.seq none .leaf (.seq none (.seq none .leaf (.one (.loop [3] (.seq none (.seq (some [11]) .leaf .leaf) .leaf)))) .leaf)) Tryz.func30
def p5:bC 109:=aO (.seq none .leaf (.seq none (.seq none .leaf (.one (.loop [6] (.seq none .leaf (.seq none .leaf (.seq none (.one (.seq none .leaf (.seq (some [18]) .leaf .leaf))) .leaf)))))) .leaf)) Tryz.func109
def o4:bC 157:=aO (.seq none .leaf (.seq none (.seq none .leaf (.one (.loop [3] (.seq none (.seq (some [11]) .leaf .leaf) .leaf)))) .leaf)) Tryz.func157
def pF:cr 82:=aX (.seq none .leaf (.seq none (.seq none .leaf (.one (.seq (some [6]) .leaf (.two .leaf (.seq (some [18]) .leaf (.two .leaf (.seq (some [23]) .leaf .leaf))))))) .leaf)) Tryz.func82
def jp:cr 92:=aX (.seq none .leaf (.seq none (.seq none .leaf (.one (.loop [8] .leaf))) .leaf)) Tryz.func92
def yZ:bC 34:=aO .leaf Tryz.func34
def lQ:cr 171:=aX (.seq none .leaf (.seq none (.seq none .leaf (.one (.loop [8] .leaf))) .leaf)) Tryz.func171
def uA:bC 45:=aO (.seq none .leaf (.seq (some [0]) .leaf .leaf)) Tryz.func45
def pI:bC 79:=aO .leaf Tryz.func79
def zi:bC 113:=aO .leaf Tryz.func113
def jW:D9 186:=sK .leaf Tryz.func186
def gO:cr 50:=aX .leaf Tryz.func50
def tO:D1 94:=r7 .leaf Tryz.func94
def jD:cr 147:=aX .leaf Tryz.func147
def yC:bC 195:=aO .leaf Tryz.func195
end Go.Proofs.YtfcbhfjomgopbaaGreat
