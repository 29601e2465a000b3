/- Made by program: the shallow forms, computed. -/
import Derived.Test.YtfcbhfjomgopbaaGreatZFugb
set_option maxRecDepth 100000
set_option maxHeartbeats 4000000
namespace Go.Proofs.YtfcbhfjomgopbaaGreat
open Go
attribute [local irreducible] Run CondV aB aS sOp cS bX bA ew eo bI Tryz.prog aG undef
def pr:ch 47:=aW (.seq none .leaf (.seq none .leaf (.seq none (.seq (some [24]) .leaf .leaf) .leaf))) Tryz.func47
def lY:fO 146:=cW (.seq none .leaf (.seq none .leaf (.seq none .leaf (.seq none .leaf (.seq none .leaf (.seq none (.seq none .leaf (.one (.loop [10,9] (.seq none (.seq (some [36]) .leaf .leaf) .leaf)))) .leaf)))))) Tryz.func146
def y8:bw 196:=aL (.seq none .leaf (.seq none .leaf (.seq none (.one (.loop [3] .leaf)) .leaf))) Tryz.func196
def l9:bw 8:=aL (.seq none .leaf (.seq none .leaf (.seq none .leaf (.seq none .leaf (.seq none (.seq (some [27]) .leaf .leaf) (.seq none (.seq none .leaf (.one (.loop [6] .leaf))) .leaf)))))) Tryz.func8
def wx:ch 44:=aW (.seq none .leaf (.seq (some []) .leaf (.seq none (.seq none .leaf (.one (.loop [5,0] .leaf))) .leaf))) Tryz.func44
def mo:ch 170:=aW (.seq none .leaf (.seq none (.one (.loop [] (.seq none (.seq (some [23]) .leaf .leaf) .leaf))) .leaf)) Tryz.func170
def j5:fO 128:=cW (.seq none .leaf (.seq none .leaf (.seq none (.seq none .leaf (.one (.loop [17] .leaf))) .leaf))) Tryz.func128
def EQ:ch 155:=aW (.seq none .leaf (.seq none .leaf (.seq (some [6]) .leaf (.seq none .leaf (.seq none .leaf (.seq none (.seq (some [33]) .leaf .leaf) (.seq (some [9]) .leaf (.seq none (.seq (some [54]) .leaf .leaf) (.seq (some [8]) .leaf .leaf))))))))) Tryz.func155
def rj:ch 89:=aW (.seq none .leaf (.seq none (.seq none .leaf (.one (.seq (some [6]) .leaf (.two .leaf (.seq (some [18]) .leaf (.two .leaf (.seq (some [23]) .leaf .leaf))))))) .leaf)) Tryz.func89
def iH:ch 75:=aW (.seq none .leaf (.seq none (.seq none .leaf (.one (.loop [8] .leaf))) .leaf)) Tryz.func75
def s9:bw 95:=aL (.seq none .leaf (.seq none .leaf (.seq none .leaf (.seq none (.seq (some [23]) .leaf .leaf) .leaf)))) Tryz.func95
def Db:bw 145:=aL .leaf Tryz.func145
def j2:bw 25:=aL (.seq none .leaf (.seq none .leaf (.seq none .leaf (.seq (some [5]) .leaf .leaf)))) Tryz.func25
def sQ:bw 33:=aL .leaf Tryz.func33
def p5:bw 80:=aL .leaf Tryz.func80
def lH:ch 127:=aW .leaf Tryz.func127
def zp:ch 198:=aW .leaf Tryz.func198
def gH:ch 50:=aW .leaf Tryz.func50
def uC:EK 94:=sk .leaf Tryz.func94
def jv:ch 147:=aW .leaf Tryz.func147
def zI:bw 195:=aL .leaf Tryz.func195
end Go.Proofs.YtfcbhfjomgopbaaGreat
