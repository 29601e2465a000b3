/- Made by program: the shallow forms, computed. -/
import Derived.Test.YtfcbhfjomgopbaaGreatZFugb
set_option maxRecDepth 100000
set_option maxHeartbeats 4000000
namespace Go.Proofs.YtfcbhfjomgopbaaGreat
open Go
attribute [local irreducible] Run CondV aB aS sOp cS bX bA ew eo bI Tryz.prog aG undef
def y6:ch 36:=aW (.seq none .leaf (.seq none .leaf (.seq none .leaf (.seq none .leaf (.seq none .leaf (.seq none .leaf (.seq none (.seq none .leaf (.one (.loop [72] .leaf))) .leaf))))))) Tryz.func36
def sz:fO 60:=cW (.seq none .leaf (.seq none .leaf (.seq none (.seq (some [56]) .leaf .leaf) (.seq none (.seq none .leaf (.one (.loop [60] .leaf))) .leaf)))) Tryz.func60
def ml:bw 71:=aL (.seq none .leaf (.seq none .leaf (.seq none (.seq none .leaf (.one (.loop [4] .leaf))) .leaf))) Tryz.func71
def zL:ch 74:=aW (.seq none .leaf (.seq none (.seq (some [13]) .leaf .leaf) (.seq none .leaf (.seq none .leaf (.seq none (.seq none .leaf (.one (.loop [6] .leaf))) .leaf))))) Tryz.func74
def xf:fO 154:=cW (.seq none .leaf (.seq none (.seq (some [23]) .leaf .leaf) (.seq none .leaf (.seq none (.seq (some [65]) .leaf .leaf) (.seq none (.seq (some [83]) .leaf .leaf) (.seq none (.seq (some [106]) .leaf .leaf) .leaf)))))) Tryz.func154
def nC:bw 24:=aL (.seq none .leaf (.seq none .leaf (.seq none .leaf (.seq none .leaf (.seq none (.seq none .leaf (.one (.loop [5,3] (.seq none .leaf (.seq (some [3]) .leaf .leaf))))) .leaf))))) Tryz.func24
def Cu:bw 125:=aL (.seq none .leaf (.seq none (.one (.seq none .leaf (.two .leaf (.seq none .leaf (.two .leaf (.seq (some [18]) .leaf .leaf)))))) (.seq none .leaf (.seq none .leaf (.seq none .leaf (.seq none .leaf (.seq none .leaf (.seq (some [7]) .leaf .leaf)))))))) Tryz.func125
def vF:ch 135:=aW .leaf Tryz.func135
def oY:ch 124:=aW (.seq none (.seq none .leaf (.one (.loop [13] .leaf))) .leaf) Tryz.func124
def qS:bw 109:=aL (.seq none .leaf (.seq none (.seq none .leaf (.one (.loop [6] (.seq none .leaf (.seq none .leaf (.seq none (.one (.seq none .leaf (.seq (some [18]) .leaf .leaf))) .leaf)))))) .leaf)) Tryz.func109
def qt:bw 12:=aL (.seq none .leaf (.seq none .leaf (.seq none (.seq none .leaf (.one (.loop [4] .leaf))) .leaf))) Tryz.func12
def wt:bw 57:=aL (.seq none .leaf (.seq none .leaf (.seq none (.seq none .leaf (.one (.loop [4] .leaf))) .leaf))) Tryz.func57
def jD:ch 92:=aW (.seq none .leaf (.seq none (.seq none .leaf (.one (.loop [8] .leaf))) .leaf)) Tryz.func92
def mW:bw 58:=aL (.seq none .leaf (.seq none (.seq (some [15]) .leaf .leaf) .leaf)) Tryz.func58
def pJ:ch 206:=aW (.seq none .leaf (.seq none (.seq (some [13]) .leaf .leaf) .leaf)) Tryz.func206
def qX:ch 72:=aW .leaf Tryz.func72
def za:bw 104:=aL .leaf Tryz.func104
def pg:bw 165:=aL .leaf Tryz.func165
def o5:ch 14:=aW .leaf Tryz.func14
def pt:bw 31:=aL .leaf Tryz.func31
def sZ:EK 86:=sk .leaf Tryz.func86
def yS:bw 126:=aL .leaf Tryz.func126
def Bi:ch 194:=aW .leaf Tryz.func194
end Go.Proofs.YtfcbhfjomgopbaaGreat
