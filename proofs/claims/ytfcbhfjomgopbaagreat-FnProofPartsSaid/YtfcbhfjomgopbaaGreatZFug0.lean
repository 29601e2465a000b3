/- Made by program: the shallow forms, computed. -/
import Derived.Test.YtfcbhfjomgopbaaGreatZFugb
set_option maxRecDepth 100000
set_option maxHeartbeats 4000000
namespace Go.Proofs.YtfcbhfjomgopbaaGreat
open Go
attribute [local irreducible] Run CondV aB aS sOp cS bX bA ew eo bI Tryz.prog aG undef
def CQ:fO 180:=cW (.seq none .leaf (.seq none (.seq none .leaf (.one (.loop [8] (.seq none .leaf (.seq none (.one (.seq none .leaf (.seq none .leaf (.seq none .leaf (.seq none .leaf (.seq none .leaf (.seq none .leaf (.seq (some []) .leaf .leaf)))))))) .leaf))))) .leaf)) Tryz.func180
def sX:ch 69:=aW (.seq none .leaf (.seq none .leaf (.seq (some []) (.seq none .leaf (.one (.seq none .leaf (.two .leaf (.seq none .leaf (.two .leaf (.seq none .leaf (.two (.one (.loop [] .leaf)) .leaf)))))))) .leaf))) Tryz.func69
def lW:bw 93:=aL (.seq none .leaf (.seq none .leaf (.seq none .leaf (.seq none (.seq (some [23]) .leaf .leaf) (.seq none (.seq none .leaf (.one (.loop [6,4] .leaf))) .leaf))))) Tryz.func93
def uE:ch 152:=aW (.seq none .leaf (.seq none .leaf (.seq none (.one (.loop [1,6] .leaf)) .leaf))) Tryz.func152
def Fa:fO 108:=cW (.seq none .leaf (.seq none .leaf (.seq none (.seq (some [19]) .leaf .leaf) (.seq none (.seq none .leaf (.one (.seq none .leaf (.two .leaf (.seq none .leaf (.two .leaf (.seq none .leaf (.two (.seq none (.seq (some [70]) .leaf .leaf) .leaf) .leaf)))))))) .leaf)))) Tryz.func108
def zM:bw 116:=aL (.seq none .leaf (.seq none (.seq none .leaf (.one (.loop [3] (.seq none .leaf (.seq none (.one (.seq (some [19]) .leaf .leaf)) .leaf))))) .leaf)) Tryz.func116
def we:ch 114:=aW (.seq none .leaf (.seq none (.seq (some [12]) .leaf .leaf) (.seq none (.seq none .leaf (.one (.loop [5] .leaf))) .leaf))) Tryz.func114
def o7:fO 149:=cW .leaf Tryz.func149
def qM:fO 41:=cW (.seq none .leaf (.seq none .leaf (.seq none (.seq (some [37]) .leaf .leaf) .leaf))) Tryz.func41
def zD:bw 203:=aL (.seq none .leaf (.seq none .leaf (.seq none (.seq none .leaf (.one (.loop [4,3] .leaf))) .leaf))) Tryz.func203
def mZ:bw 52:=aL .leaf Tryz.func52
def ww:ch 200:=aW (.seq none .leaf (.seq none .leaf (.seq none (.seq (some [15]) .leaf .leaf) .leaf))) Tryz.func200
def qR:bw 18:=aL .leaf Tryz.func18
def uN:bw 77:=aL .leaf Tryz.func77
def sK:ch 105:=aW .leaf Tryz.func105
def vM:fO 183:=cW .leaf Tryz.func183
def pj:bw 20:=aL .leaf Tryz.func20
def hH:ch 65:=aW .leaf Tryz.func65
def Cd:bw 107:=aL .leaf Tryz.func107
def pW:EK 156:=sk .leaf Tryz.func156
def zE:bw 205:=aL .leaf Tryz.func205
end Go.Proofs.YtfcbhfjomgopbaaGreat
