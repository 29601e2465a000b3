/- Made by program: the shallow forms, computed. -/
import Derived.Test.YtfcbhfjomgopbaaGreatZFugb
set_option maxRecDepth 100000
set_option maxHeartbeats 4000000
namespace Go.Proofs.YtfcbhfjomgopbaaGreat
open Go
attribute [local irreducible] Run CondV aB aS sOp cS bX bA ew eo bI Tryz.prog aG undef
def vp:fO 162:=cW (.seq none .leaf (.seq none .leaf (.seq none .leaf (.seq none (.seq (some [28]) .leaf .leaf) (.seq none .leaf (.seq none .leaf (.seq none (.seq (some [76]) .leaf .leaf) (.seq none (.seq none .leaf (.one (.loop [7] .leaf))) .leaf)))))))) Tryz.func162
def sg:ch 139:=aW (.seq none .leaf (.seq none .leaf (.seq none (.seq none .leaf (.one (.loop [6] (.seq none (.seq (some [23]) .leaf .leaf) (.seq (some []) .leaf .leaf))))) (.seq none (.seq none .leaf (.one (.loop [7] .leaf))) .leaf)))) Tryz.func139
def zK:ch 98:=aW (.seq none .leaf (.seq none .leaf (.seq none .leaf (.seq none (.seq (some [32]) .leaf .leaf) .leaf)))) Tryz.func98
def qI:ch 101:=aW (.seq none .leaf (.seq none .leaf (.seq none (.seq none .leaf (.one (.loop [6] .leaf))) .leaf))) Tryz.func101
def mg:bw 103:=aL (.seq none .leaf (.seq none .leaf (.seq none (.seq none .leaf (.one (.loop [4] .leaf))) .leaf))) Tryz.func103
def s8:fO 100:=cW (.seq none .leaf (.seq none .leaf (.seq none .leaf (.seq none .leaf (.seq none .leaf (.seq none (.seq none .leaf (.one (.loop [13,10,1] (.seq none (.seq (some [46]) .leaf .leaf) .leaf)))) .leaf)))))) Tryz.func100
def xi:RM 179:=RN (.seq none .leaf (.seq none .leaf (.one (.loop [1,12] (.one (.seq none .leaf (.seq none .leaf (.seq none .leaf (.seq none (.seq (some [39]) .leaf .leaf) .leaf))))))))) Tryz.func179
def zS:ch 140:=aW (.seq none .leaf (.seq none (.seq none .leaf (.two (.seq none (.seq none .leaf (.one (.loop [5] .leaf))) .leaf) .leaf)) (.seq none (.seq none .leaf (.one (.loop [6,0] .leaf))) .leaf))) Tryz.func140
def vf:ch 42:=aW (.seq none .leaf (.seq none .leaf (.seq none (.seq none .leaf (.one (.loop [6,5] (.seq none (.seq (some [16]) .leaf .leaf) .leaf)))) .leaf))) Tryz.func42
def xw:ch 115:=aW (.seq none .leaf (.seq none .leaf (.seq none (.seq none .leaf (.one (.loop [6,5] (.seq none (.seq (some [16]) .leaf .leaf) .leaf)))) .leaf))) Tryz.func115
def mC:bw 30:=aL (.seq none .leaf (.seq none (.seq none .leaf (.one (.loop [3] (.seq none (.seq (some [11]) .leaf .leaf) .leaf)))) .leaf)) Tryz.func30
def wR:ch 102:=aW (.seq none .leaf (.seq none .leaf (.seq none (.seq none .leaf (.one (.loop [5,0] .leaf))) .leaf))) Tryz.func102
def zY:bw 201:=aL (.seq none .leaf (.seq none .leaf (.seq none (.seq none .leaf (.one (.loop [4,3] (.seq none .leaf (.seq none (.one (.seq (some [3]) .leaf .leaf)) .leaf))))) .leaf))) Tryz.func201
def sI:bw 121:=aL .leaf Tryz.func121
def tp:bw 120:=aL .leaf Tryz.func120
def mv:ch 171:=aW (.seq none .leaf (.seq none (.seq none .leaf (.one (.loop [8] .leaf))) .leaf)) Tryz.func171
def eR:ch 144:=aW (.seq none .leaf (.seq none (.seq none .leaf (.one (.loop [8] .leaf))) .leaf)) Tryz.func144
def nF:fO 66:=cW .leaf Tryz.func66
def vl:bw 97:=aL .leaf Tryz.func97
def zO:bw 161:=aL .leaf Tryz.func161
def pu:ch 11:=aW .leaf Tryz.func11
def mj:bw 26:=aL .leaf Tryz.func26
def BC:bw 85:=aL .leaf Tryz.func85
def sh_i_holds:bw 122:=aL .leaf Tryz.func122
def tm:bw 192:=aL (.seq none .leaf (.seq none (.seq (some [9]) .leaf .leaf) .leaf)) Tryz.func192
end Go.Proofs.YtfcbhfjomgopbaaGreat
