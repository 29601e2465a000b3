/- Made by program: the shallow forms, computed. -/
import Derived.Test.YtfcbhfjomgopbaaGreatZFugb
set_option maxRecDepth 100000
set_option maxHeartbeats 4000000
namespace Go.Proofs.YtfcbhfjomgopbaaGreat
open Go
attribute [local irreducible] Run CondV aB aS sOp cS bX bA ew eo bI Tryz.prog aG undef
def uK:ch 99:=aW (.seq none .leaf (.seq none (.one (.loop [] .leaf)) .leaf)) Tryz.func99
def o8:ch 87:=aW (.seq none .leaf (.seq none .leaf (.seq none .leaf (.seq none .leaf (.seq none (.one (.seq (some [115]) .leaf (.two .leaf (.seq (some [128]) .leaf .leaf)))) .leaf))))) Tryz.func87
def vV:fO 136:=cW (.seq none .leaf (.seq none .leaf (.seq none .leaf (.seq none .leaf (.seq (some []) .leaf .leaf))))) Tryz.func136
def nz:bw 118:=aL (.seq none .leaf (.seq none .leaf (.seq none (.seq (some [28]) .leaf .leaf) (.seq none .leaf (.seq none .leaf (.seq none .leaf (.seq none .leaf (.seq none (.seq none .leaf (.one (.loop [8,7] (.seq none .leaf (.seq (some [7]) (.one (.seq none .leaf (.seq none .leaf (.seq none (.seq (some [66]) .leaf .leaf) .leaf)))) .leaf))))) .leaf)))))))) Tryz.func118
def lr:bw 5:=aL (.seq none .leaf (.seq none .leaf (.seq none .leaf (.seq none .leaf (.seq none .leaf (.seq none (.seq none .leaf (.one (.loop [5] .leaf))) .leaf)))))) Tryz.func5
def pP:bw 88:=aL (.seq none .leaf (.seq none .leaf (.seq none (.seq none .leaf (.one (.loop [9,4] (.seq none .leaf (.seq none .leaf (.seq (some [4]) .leaf .leaf)))))) .leaf))) Tryz.func88
def yX:ch 129:=aW (.seq none .leaf (.seq none .leaf (.seq none .leaf (.seq none (.seq none .leaf (.one (.loop [7,6,5] (.seq none .leaf (.seq (some [6,5]) (.one (.seq (some [25]) .leaf .leaf)) .leaf))))) .leaf)))) Tryz.func129
def zU:bw 202:=aL (.seq none .leaf (.seq none .leaf (.seq none .leaf (.seq none .leaf (.seq none (.seq none .leaf (.one (.loop [4,3] (.seq none .leaf (.seq none (.one (.seq (some [3]) .leaf .leaf)) .leaf))))) (.seq (some [3]) .leaf .leaf)))))) Tryz.func202
def o6:bw 133:=aL (.seq none .leaf (.seq none .leaf (.seq none .leaf (.seq none (.seq (some [25]) .leaf .leaf) (.seq none .leaf (.seq none (.seq none .leaf (.one (.loop [7,6] .leaf))) .leaf)))))) Tryz.func133
def j0:bw 40:=aL .leaf Tryz.func40
def wE:Fm 134:=tj (.seq none .leaf (.seq none .leaf (.seq none (.seq none .leaf (.one (.loop [10,9] .leaf))) .leaf))) Tryz.func134
def mq:Fm 172:=tj .leaf Tryz.func172
def vW:bw 163:=aL (.seq none .leaf (.seq none .leaf (.seq none .leaf (.seq none (.seq (some [31]) .leaf .leaf) .leaf)))) Tryz.func163
def qd:ch 82:=aW (.seq none .leaf (.seq none (.seq none .leaf (.one (.seq (some [6]) .leaf (.two .leaf (.seq (some [18]) .leaf (.two .leaf (.seq (some [23]) .leaf .leaf))))))) .leaf)) Tryz.func82
def wA:bw 117:=aL (.seq none .leaf (.seq none (.seq none .leaf (.one (.seq (some [4]) .leaf (.two .leaf (.seq (some [14]) .leaf (.two .leaf (.seq (some [17]) .leaf .leaf))))))) .leaf)) Tryz.func117
def qN:bw 166:=aL .leaf Tryz.func166
def yU:fO 64:=cW .leaf Tryz.func64
def vR:bw 45:=aL (.seq none .leaf (.seq (some [0]) .leaf .leaf)) Tryz.func45
def u4:bw 81:=aL .leaf Tryz.func81
def rb:bw 141:=aL .leaf Tryz.func141
def sP:bw 199:=aL (.seq none .leaf (.seq none (.seq (some [8]) .leaf .leaf) .leaf)) Tryz.func199
def Bh:bw 61:=aL .leaf Tryz.func61
def Br:bw 106:=aL .leaf Tryz.func106
def zg:fO 151:=cW .leaf Tryz.func151
def wi:bw 197:=aL .leaf Tryz.func197
end Go.Proofs.YtfcbhfjomgopbaaGreat
