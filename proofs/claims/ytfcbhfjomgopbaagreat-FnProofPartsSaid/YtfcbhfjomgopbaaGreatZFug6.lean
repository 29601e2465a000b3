/- Made by program: the shallow forms, computed. -/
import Derived.Test.YtfcbhfjomgopbaaGreatZFugb
set_option maxRecDepth 100000
set_option maxHeartbeats 4000000
namespace Go.Proofs.YtfcbhfjomgopbaaGreat
open Go
attribute [local irreducible] Run CondV aB aS sOp cS bX bA ew eo bI Tryz.prog aG undef
def Cx:ch 137:=aW (.seq none .leaf (.seq none .leaf (.seq none (.seq none .leaf (.one (.loop [6,5] (.seq none .leaf (.seq (some [5]) .leaf .leaf))))) .leaf))) Tryz.func137
def nM:fO 123:=cW (.seq none .leaf (.seq none .leaf (.seq none (.one (.seq (some [14]) .leaf (.two .leaf (.seq none .leaf (.two .leaf (.seq none .leaf (.two .leaf (.seq (some [48]) .leaf .leaf)))))))) (.seq none (.seq none .leaf (.one (.loop [80] .leaf))) .leaf)))) Tryz.func123
def sw:fO 160:=cW (.seq none .leaf (.seq none (.seq none .leaf (.one (.loop [10] .leaf))) .leaf)) Tryz.func160
def xz:fO 84:=cW (.seq none .leaf (.seq none .leaf (.seq none (.seq (some [57]) .leaf .leaf) (.seq none (.seq none .leaf (.one (.loop [7] .leaf))) .leaf)))) Tryz.func84
def zj:bw 187:=aL (.seq none .leaf (.seq none (.one (.seq none .leaf (.two .leaf (.seq none .leaf (.two (.seq none .leaf (.seq none .leaf (.seq (some [4]) .leaf .leaf))) (.seq (some [37]) .leaf .leaf)))))) .leaf)) Tryz.func187
def pT:ch 49:=aW (.seq none .leaf (.seq none .leaf (.seq (some []) .leaf .leaf))) Tryz.func49
def tB:ch 73:=aW (.seq none .leaf (.seq none .leaf (.seq (some []) (.seq none .leaf (.one (.seq none .leaf (.two .leaf (.seq none .leaf (.two .leaf (.seq none .leaf (.two .leaf (.seq none .leaf (.two (.one (.loop [] .leaf)) (.seq none .leaf (.two (.seq none .leaf (.one (.loop [6] .leaf))) .leaf)))))))))))) .leaf))) Tryz.func73
def mU:ch 48:=aW (.seq none .leaf (.seq none .leaf (.seq none (.seq none .leaf (.one (.loop [6,5] .leaf))) (.seq (some [5]) (.seq none .leaf (.one (.seq none .leaf (.two (.one (.loop [5] .leaf)) .leaf)))) .leaf)))) Tryz.func48
def sB:ch 55:=aW (.seq none .leaf (.seq none (.seq (some [29]) .leaf .leaf) (.seq none (.seq none .leaf (.one (.loop [5] .leaf))) .leaf))) Tryz.func55
def vt:bw 46:=aL (.seq none .leaf (.seq none .leaf (.seq none .leaf (.seq (some []) .leaf .leaf)))) Tryz.func46
def BS:bw 164:=aL (.seq none .leaf (.seq none .leaf (.seq none .leaf (.seq none (.seq (some [21]) .leaf .leaf) (.seq none (.seq (some [36]) .leaf .leaf) (.seq none (.seq (some [48]) .leaf .leaf) .leaf)))))) Tryz.func164
def s4:ch 32:=aW (.seq none .leaf (.seq none .leaf (.seq none (.seq none .leaf (.one (.loop [5] .leaf))) .leaf))) Tryz.func32
def zb:ch 159:=aW (.seq none .leaf (.seq none .leaf (.seq none (.seq none .leaf (.one (.loop [5] .leaf))) .leaf))) Tryz.func159
def EV:fO 182:=cW .leaf Tryz.func182
def zF:bw 34:=aL .leaf Tryz.func34
def zZ:bw 167:=aL .leaf Tryz.func167
def yR:bw 91:=aL .leaf Tryz.func91
def xh:bw 59:=aL .leaf Tryz.func59
def se:bw 83:=aL .leaf Tryz.func83
def zn:fO 142:=cW .leaf Tryz.func142
def BM:bw 204:=aL .leaf Tryz.func204
def qU:bw 76:=aL .leaf Tryz.func76
def ef:ch 111:=aW .leaf Tryz.func111
def vq:EK 185:=sk .leaf Tryz.func185
def Cg:bw 209:=aL .leaf Tryz.func209
end Go.Proofs.YtfcbhfjomgopbaaGreat
