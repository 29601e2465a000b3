/- Made by program: the shallow forms, computed. -/
import Derived.Test.YtfcbhfjomgopbaaGreatZFugb
set_option maxRecDepth 100000
set_option maxHeartbeats 4000000
namespace Go.Proofs.YtfcbhfjomgopbaaGreat
open Go
attribute [local irreducible] Run CondV aB aS sOp cS bX bA ew eo bI Tryz.prog aG undef
def wO:ch 56:=aW (.seq none .leaf (.seq none .leaf (.seq none .leaf (.seq none .leaf (.seq none .leaf (.seq none .leaf (.seq none (.seq none .leaf (.one (.loop [7] .leaf))) .leaf))))))) Tryz.func56
def xb:ch 138:=aW .leaf Tryz.func138
def yW:Fm 131:=tj (.seq none .leaf (.seq none .leaf (.seq none .leaf (.seq none (.one (.loop [11] (.seq none .leaf (.one (.seq none .leaf (.seq none (.seq (some [48]) .leaf .leaf) .leaf)))))) .leaf)))) Tryz.func131
def pv:ch 148:=aW (.seq none .leaf (.seq (some []) (.one (.loop [] .leaf)) .leaf)) Tryz.func148
def jJ:Fm 150:=tj (.seq none .leaf (.seq none .leaf (.seq none .leaf (.seq none (.seq (some [30]) .leaf .leaf) (.seq none .leaf (.seq none (.seq none .leaf (.one (.loop [42] .leaf))) .leaf)))))) Tryz.func150
def zJ:bw 189:=aL (.seq none .leaf (.seq (some [4]) .leaf (.seq (some [0]) .leaf (.seq none (.seq (some [38]) .leaf .leaf) (.seq none .leaf (.seq none (.seq none .leaf (.one (.loop [6,5] (.seq none .leaf (.seq none (.one (.seq none (.seq (some [54]) .leaf .leaf) .leaf)) .leaf))))) (.seq (some [5]) .leaf .leaf))))))) Tryz.func189
def uH:ch 188:=aW (.seq none .leaf (.seq none .leaf (.seq none (.seq none .leaf (.one (.loop [6] .leaf))) .leaf))) Tryz.func188
def nE:bw 54:=aL (.seq none .leaf (.seq none (.seq none .leaf (.one (.loop [3] (.seq none (.seq (some [12]) .leaf .leaf) .leaf)))) .leaf)) Tryz.func54
def vx:bw 191:=aL (.seq none .leaf (.seq none .leaf (.seq none .leaf (.seq none (.seq none .leaf (.one (.loop [5,4] (.seq none .leaf (.seq (some [4]) .leaf .leaf))))) .leaf)))) Tryz.func191
def nT:bw 130:=aL (.seq none .leaf (.seq none .leaf (.seq none .leaf (.seq none .leaf (.seq none .leaf (.seq (some [5]) (.seq (some [29]) .leaf .leaf) (.seq none (.seq (some [54]) .leaf .leaf) .leaf))))))) Tryz.func130
def z6:bw 96:=aL .leaf Tryz.func96
def Ac:bw 211:=aL (.seq none .leaf (.seq none .leaf (.seq none .leaf (.seq none .leaf (.seq none (.one (.loop [0,3] .leaf)) .leaf))))) Tryz.func211
def C8:ch 184:=aW (.seq none .leaf (.seq none (.seq none .leaf (.one (.loop [5] .leaf))) .leaf)) Tryz.func184
def j7:bw 51:=aL .leaf Tryz.func51
def u9:EK 168:=sk .leaf Tryz.func168
def uQ:bw 132:=aL .leaf Tryz.func132
def pG:bw 63:=aL .leaf Tryz.func63
def tz:ch 90:=aW .leaf Tryz.func90
def mr:bw 153:=aL .leaf Tryz.func153
def sC:bw 208:=aL .leaf Tryz.func208
def o9:bw 78:=aL .leaf Tryz.func78
def l4:bw 112:=aL .leaf Tryz.func112
def vC:ch 190:=aW .leaf Tryz.func190
end Go.Proofs.YtfcbhfjomgopbaaGreat
