/- Made by program: the shallow forms, computed. -/
import Derived.Test.YtgllldjiaglkcaaGreatDoorZUfgb
set_option maxRecDepth 100000
set_option maxHeartbeats 4000000
namespace Go.Proofs.YtgllldjiaglkcaaGreatDoor
open Go
attribute [local irreducible] Run CondV aq aK sOp c9 cR cd eR ff cm Tryz.prog ao undef
def pA:n7 121:=fQ (.seq none .leaf (.seq none .leaf (.seq none (.one (.seq (some [14]) .leaf (.two .leaf (.seq none .leaf (.two .leaf (.seq none .leaf (.two .leaf (.seq (some [48]) .leaf .leaf)))))))) (.seq none (.seq none .leaf (.one (.loop [80] .leaf))) .leaf)))) Tryz.func121
def rC:cC 134:=bm (.seq none .leaf (.seq none .leaf (.seq none .leaf (.seq none .leaf (.seq none (.one (.seq (some [115]) .leaf (.two .leaf (.seq (some [128]) .leaf .leaf)))) .leaf))))) Tryz.func134
def CR:n7 181:=fQ (.seq none .leaf (.seq none .leaf (.seq none .leaf (.seq none .leaf (.seq none .leaf (.seq none (.seq none .leaf (.one (.loop [10,9] (.seq none (.seq (some [36]) .leaf .leaf) .leaf)))) .leaf)))))) Tryz.func181
def C2:cC 168:=bm (.seq none .leaf (.seq none .leaf (.seq none .leaf (.seq none (.seq none .leaf (.one (.loop [7,6,5] (.seq none .leaf (.seq (some [6,5]) (.one (.seq (some [25]) .leaf .leaf)) .leaf))))) .leaf)))) Tryz.func168
def De:bR 270:=aO (.seq none .leaf (.seq (some [4]) .leaf (.seq (some [0]) .leaf (.seq none (.seq (some [38]) .leaf .leaf) (.seq none .leaf (.seq none (.seq none .leaf (.one (.loop [6,5] (.seq none .leaf (.seq none (.one (.seq none (.seq (some [54]) .leaf .leaf) .leaf)) .leaf))))) (.seq (some [5]) .leaf .leaf))))))) Tryz.func270
def wk:cC 240:=bm (.seq none .leaf (.seq none .leaf (.seq (some [6]) .leaf (.seq none .leaf (.seq none (.one (.loop [6] (.seq none (.seq (some [25]) .leaf .leaf) .leaf))) (.seq none .leaf (.seq none (.seq (some [50]) .leaf .leaf) (.seq (some [8]) .leaf .leaf)))))))) Tryz.func240
def r9:n7 99:=fQ (.seq none .leaf (.seq none .leaf (.seq none .leaf (.seq none .leaf (.seq none (.one (.loop [9,10] .leaf)) .leaf))))) Tryz.func99
def vI:BV 106:=nV .leaf Tryz.func106
def sc:cC 39:=bm .leaf Tryz.func39
def yQ:cC 127:=bm .leaf Tryz.func127
def mA:cC 173:=bm (.seq none .leaf (.seq none (.seq none .leaf (.one (.loop [8] .leaf))) .leaf)) Tryz.func173
def rv:cC 192:=bm (.seq none (.seq none .leaf (.one (.loop [13] .leaf))) .leaf) Tryz.func192
def Gq:yc 12:=lK .leaf Tryz.func12
def rm:bR 150:=aO .leaf Tryz.func150
def rl:bR 171:=aO (.seq none .leaf (.seq none (.seq none .leaf (.one (.loop [3] (.seq none (.seq (some [11]) .leaf .leaf) .leaf)))) .leaf)) Tryz.func171
def jL:cC 104:=bm (.seq none .leaf (.seq none (.seq none .leaf (.one (.loop [8] .leaf))) .leaf)) Tryz.func104
def yg:n7 288:=fQ .leaf Tryz.func288
def vV:cC 23:=bm .leaf Tryz.func23
def sR:bR 25:=aO .leaf Tryz.func25
def sP:bR 163:=aO .leaf Tryz.func163
def m8:bR 228:=aO .leaf Tryz.func228
def lh:cC 43:=bm .leaf Tryz.func43
def zU:BV 112:=nV .leaf Tryz.func112
def nG:bR 220:=aO .leaf Tryz.func220
def CE:bR 328:=aO .leaf Tryz.func328
end Go.Proofs.YtgllldjiaglkcaaGreatDoor
