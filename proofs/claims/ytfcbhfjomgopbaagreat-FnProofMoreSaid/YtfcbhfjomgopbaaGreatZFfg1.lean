/- Made by program: the shallow forms, computed. -/
import Derived.Test.YtfcbhfjomgopbaaGreatZFfgb
set_option maxRecDepth 100000
set_option maxHeartbeats 4000000
namespace Go.Proofs.YtfcbhfjomgopbaaGreat
open Go
attribute [local irreducible] Run CondV aB aS sOp cR bW bt er eA bF Tryz.prog aF undef
def oK:cr 47:=aX (.seq none .leaf (.seq none .leaf (.seq none (.seq (some [24]) .leaf .leaf) .leaf))) Tryz.func47
def oO:cr 148:=aX (.seq none .leaf (.seq (some []) (.one (.loop [] .leaf)) .leaf)) Tryz.func148
def sP:cr 69:=aX (.seq none .leaf (.seq none .leaf (.seq (some []) (.seq none .leaf (.one (.seq none .leaf (.two .leaf (.seq none .leaf (.two .leaf (.seq none .leaf (.two (.one (.loop [] .leaf)) .leaf)))))))) .leaf))) Tryz.func69
def vo:cr 188:=aX (.seq none .leaf (.seq none .leaf (.seq none (.seq none .leaf (.one (.loop [6] .leaf))) .leaf))) Tryz.func188
def uy:bC 67:=aO .leaf Tryz.func67
def yN:bC 116:=aO (.seq none .leaf (.seq none (.seq none .leaf (.one (.loop [3] (.seq none .leaf (.seq none (.one (.seq (some [19]) .leaf .leaf)) .leaf))))) .leaf)) Tryz.func116
def yq:bC 96:=aO .leaf Tryz.func96
def r4:cr 32:=aX (.seq none .leaf (.seq none .leaf (.seq none (.seq none .leaf (.one (.loop [5] .leaf))) .leaf))) Tryz.func32
def pO:fO 41:=cX (.seq none .leaf (.seq none .leaf (.seq none (.seq (some [37]) .leaf .leaf) .leaf))) Tryz.func41
def EI:fO 182:=cX .leaf Tryz.func182
def A4:bC 145:=aO .leaf Tryz.func145
def jZ:bC 25:=aO (.seq none .leaf (.seq none .leaf (.seq none .leaf (.seq (some [5]) .leaf .leaf)))) Tryz.func25
def eQ:cr 144:=aX (.seq none .leaf (.seq none (.seq none .leaf (.one (.loop [8] .leaf))) .leaf)) Tryz.func144
def uP:bC 97:=aO .leaf Tryz.func97
def yR:bC 161:=aO .leaf Tryz.func161
def o3:cr 11:=aX .leaf Tryz.func11
def oR:bC 20:=aO .leaf Tryz.func20
def oF:bC 78:=aO .leaf Tryz.func78
def lR:bC 112:=aO .leaf Tryz.func112
def uQ:cr 190:=aX .leaf Tryz.func190
end Go.Proofs.YtfcbhfjomgopbaaGreat
