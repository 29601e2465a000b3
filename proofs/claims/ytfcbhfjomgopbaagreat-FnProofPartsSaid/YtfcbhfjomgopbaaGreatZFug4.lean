/- Made by program: the shallow forms, computed. -/
import Derived.Test.YtfcbhfjomgopbaaGreatZFugb
set_option maxRecDepth 100000
set_option maxHeartbeats 4000000
namespace Go.Proofs.YtfcbhfjomgopbaaGreat
open Go
attribute [local irreducible] Run CondV aB aS sOp cS bX bA ew eo bI Tryz.prog aG undef
def yP:ch 178:=aW (.seq none .leaf (.seq none .leaf (.seq none (.one (.loop [6] .leaf)) (.seq none .leaf (.seq none .leaf (.seq none .leaf (.seq none .leaf (.seq none (.seq none .leaf (.one (.loop [9,7] (.seq none .leaf (.seq (some [7]) .leaf .leaf))))) .leaf)))))))) Tryz.func178
def vB:fO 68:=cW (.seq none .leaf (.seq none .leaf (.seq none (.one (.loop [2] (.seq none (.seq (some [28]) .leaf .leaf) (.one (.seq none .leaf (.seq none .leaf (.seq none .leaf (.seq (some []) .leaf .leaf)))))))) .leaf))) Tryz.func68
def uw:ch 158:=aW (.seq none .leaf (.seq none .leaf (.seq (some []) .leaf (.seq none (.seq none .leaf (.one (.loop [6] .leaf))) .leaf)))) Tryz.func158
def sq:ch 119:=aW (.seq none .leaf (.seq none (.seq (some [33]) .leaf .leaf) (.seq none (.seq none .leaf (.one (.loop [5] .leaf))) .leaf))) Tryz.func119
def sT:fO 181:=cW (.seq none .leaf (.seq none .leaf (.seq none (.seq none .leaf (.one (.loop [8,7] (.seq none .leaf (.seq (some [7]) (.one (.seq none .leaf (.seq (some [40]) .leaf .leaf))) .leaf))))) .leaf))) Tryz.func181
def Ab:ch 23:=aW (.seq none .leaf (.seq none .leaf (.seq none (.seq none .leaf (.one (.loop [5] .leaf))) .leaf))) Tryz.func23
def te:ch 177:=aW (.seq none .leaf (.seq none .leaf (.seq (some [6]) .leaf (.seq none .leaf (.seq none (.one (.loop [6] (.seq none (.seq (some [25]) .leaf .leaf) .leaf))) (.seq none .leaf (.seq none (.seq (some [50]) .leaf .leaf) (.seq (some [8]) .leaf .leaf)))))))) Tryz.func177
def zV:bw 173:=aL (.seq none .leaf (.seq none .leaf (.seq none (.seq none .leaf (.one (.loop [4,3] (.seq none .leaf (.seq none (.one (.seq (some [3]) .leaf .leaf)) .leaf))))) .leaf))) Tryz.func173
def uD:bw 67:=aL .leaf Tryz.func67
def nf:bw 22:=aL (.seq none .leaf (.seq none .leaf (.seq none .leaf (.seq none .leaf (.seq none .leaf (.seq none (.seq none .leaf (.one (.loop [13,4] (.seq none .leaf (.seq none .leaf (.seq (some [4]) .leaf .leaf)))))) .leaf)))))) Tryz.func22
def FB:ch 43:=aW (.seq none .leaf (.seq (some []) .leaf (.seq none .leaf (.one (.loop [17] .leaf))))) Tryz.func43
def pf:bw 157:=aL (.seq none .leaf (.seq none (.seq none .leaf (.one (.loop [3] (.seq none (.seq (some [11]) .leaf .leaf) .leaf)))) .leaf)) Tryz.func157
def wV:bw 143:=aL (.seq none .leaf (.seq none (.seq none .leaf (.one (.seq (some [5]) .leaf (.two .leaf (.seq (some [15]) .leaf (.two .leaf (.seq (some [18]) .leaf .leaf))))))) .leaf)) Tryz.func143
def vS:fO 175:=cW .leaf Tryz.func175
def Cf:ch 193:=aW (.seq none .leaf (.seq none .leaf (.seq (some [5]) (.seq (some [17]) .leaf .leaf) .leaf))) Tryz.func193
def vd:ch 176:=aW .leaf Tryz.func176
def pF:bw 79:=aL .leaf Tryz.func79
def zN:bw 113:=aL .leaf Tryz.func113
def j1:Fm 186:=tj .leaf Tryz.func186
def jz:bw 21:=aL .leaf Tryz.func21
def sA:ch 70:=aW .leaf Tryz.func70
def EZ:bw 110:=aL .leaf Tryz.func110
def pZ:bw 169:=aL .leaf Tryz.func169
def uL:bw 207:=aL .leaf Tryz.func207
end Go.Proofs.YtfcbhfjomgopbaaGreat
