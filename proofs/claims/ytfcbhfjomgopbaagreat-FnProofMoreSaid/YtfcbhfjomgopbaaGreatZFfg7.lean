/- Made by program: the shallow forms, computed. -/
import Derived.Test.YtfcbhfjomgopbaaGreatZFfgb
set_option maxRecDepth 100000
set_option maxHeartbeats 4000000
namespace Go.Proofs.YtfcbhfjomgopbaaGreat
open Go
attribute [local irreducible] Run CondV aB aS sOp cR bW bt er eA bF Tryz.prog aF undef
def wa:fO 162:=cX (.seq none .leaf (.seq none .leaf (.seq none .leaf (.seq none (.seq (some [28]) .leaf .leaf) (.seq none .leaf (.seq none .leaf (.seq none (.seq (some [76]) .leaf .leaf) (.seq none (.seq none .leaf (.one (.loop [7] .leaf))) .leaf)))))))) Tryz.func162
def sS:cr 139:=aX (.seq none .leaf (.seq none .leaf (.seq none (.seq none .leaf (.one (.loop [6] (.seq none (.seq (some [23]) .leaf .leaf) (.seq (some []) .leaf .leaf))))) (.seq none (.seq none .leaf (.one (.loop [7] .leaf))) .leaf)))) Tryz.func139
def y0:cr 98:=aX (.seq none .leaf (.seq none .leaf (.seq none .leaf (.seq none (.seq (some [32]) .leaf .leaf) .leaf)))) Tryz.func98
def qy:cr 101:=aX (.seq none .leaf (.seq none .leaf (.seq none (.seq none .leaf (.one (.loop [6] .leaf))) .leaf))) Tryz.func101
def ni:cr 6:=aX (.seq none .leaf (.seq none (.seq (some [17]) .leaf .leaf) (.seq none .leaf (.seq none .leaf (.seq none (.seq (some [40]) .leaf .leaf) .leaf))))) Tryz.func6
def mf:fO 146:=cX (.seq none .leaf (.seq none .leaf (.seq none .leaf (.seq none .leaf (.seq none .leaf (.seq none (.seq none .leaf (.one (.loop [10,9] (.seq none (.seq (some [36]) .leaf .leaf) .leaf)))) .leaf)))))) Tryz.func146
def yI:cr 129:=aX (.seq none .leaf (.seq none .leaf (.seq none .leaf (.seq none (.seq none .leaf (.one (.loop [7,6,5] (.seq none .leaf (.seq (some [6,5]) (.one (.seq (some [25]) .leaf .leaf)) .leaf))))) .leaf)))) Tryz.func129
def nR:cr 48:=aX (.seq none .leaf (.seq none .leaf (.seq none (.seq none .leaf (.one (.loop [6,5] .leaf))) (.seq (some [5]) (.seq none .leaf (.one (.seq none .leaf (.two (.one (.loop [5] .leaf)) .leaf)))) .leaf)))) Tryz.func48
def vB:cr 42:=aX (.seq none .leaf (.seq none .leaf (.seq none (.seq none .leaf (.one (.loop [6,5] (.seq none (.seq (some [16]) .leaf .leaf) .leaf)))) .leaf))) Tryz.func42
def l9:cr 170:=aX (.seq none .leaf (.seq none (.one (.loop [] (.seq none (.seq (some [23]) .leaf .leaf) .leaf))) .leaf)) Tryz.func170
def BG:bC 164:=aO (.seq none .leaf (.seq none .leaf (.seq none .leaf (.seq none (.seq (some [21]) .leaf .leaf) (.seq none (.seq (some [36]) .leaf .leaf) (.seq none (.seq (some [48]) .leaf .leaf) .leaf)))))) Tryz.func164
def pV:bC 12:=aO (.seq none .leaf (.seq none .leaf (.seq none (.seq none .leaf (.one (.loop [4] .leaf))) .leaf))) Tryz.func12
def pG:cr 89:=aX (.seq none .leaf (.seq none (.seq none .leaf (.one (.seq (some [6]) .leaf (.two .leaf (.seq (some [18]) .leaf (.two .leaf (.seq (some [23]) .leaf .leaf))))))) .leaf)) Tryz.func89
def r8:bC 120:=aO .leaf Tryz.func120
def nf:bC 58:=aO (.seq none .leaf (.seq none (.seq (some [15]) .leaf .leaf) .leaf)) Tryz.func58
def pW:cr 206:=aX (.seq none .leaf (.seq none (.seq (some [13]) .leaf .leaf) .leaf)) Tryz.func206
def pD:cr 72:=aX .leaf Tryz.func72
def rV:cr 90:=aX .leaf Tryz.func90
def lD:bC 153:=aO .leaf Tryz.func153
def sm:bC 208:=aO .leaf Tryz.func208
def pU:bC 76:=aO .leaf Tryz.func76
def eh:cr 111:=aX .leaf Tryz.func111
def uk:D1 185:=r7 .leaf Tryz.func185
def BO:bC 209:=aO .leaf Tryz.func209
end Go.Proofs.YtfcbhfjomgopbaaGreat
