/- Made by program: the shallow forms, computed. -/
import Derived.Test.YtgllldjiaglkcaaGreatDoorZMagb
set_option maxRecDepth 100000
set_option maxHeartbeats 4000000
namespace Go.Proofs.YtgllldjiaglkcaaGreatDoor
open Go
attribute [local irreducible] Run CondV aw aN sOp cN cU bE eZ eO bD Tryz.prog aF undef
def yg:iU 219:=dV (.seq none .leaf (.seq none .leaf (.seq none (.seq (some [57]) .leaf .leaf) (.seq none (.seq none .leaf (.one (.loop [7] .leaf))) .leaf)))) Tryz.func219
def vW:iU 153:=dV (.seq none .leaf (.seq none .leaf (.seq none (.seq (some [56]) .leaf .leaf) (.seq none (.seq none .leaf (.one (.loop [60] .leaf))) .leaf)))) Tryz.func153
def CK:bB 290:=aL (.seq none .leaf (.seq none (.one (.seq none .leaf (.two .leaf (.seq none .leaf (.two (.seq none .leaf (.seq none .leaf (.seq (some [4]) .leaf .leaf))) (.seq (some [37]) .leaf .leaf)))))) .leaf)) Tryz.func290
def lW:KY 237:=r3 (.seq none .leaf (.seq none .leaf (.seq none .leaf (.seq none (.seq none .leaf (.one (.loop [11,0] (.seq none .leaf (.seq (some [0]) .leaf .leaf))))) .leaf)))) Tryz.func237
def wu:bY 110:=aZ (.seq none .leaf (.seq none .leaf (.seq (some []) (.seq none .leaf (.one (.seq none .leaf (.two .leaf (.seq none .leaf (.two .leaf (.seq none .leaf (.two (.one (.loop [] .leaf)) .leaf)))))))) .leaf))) Tryz.func110
def zi:iU 254:=dV (.seq none .leaf (.seq none (.seq (some [23]) .leaf .leaf) (.seq none .leaf (.seq none (.seq (some [65]) .leaf .leaf) (.seq none (.seq (some [83]) .leaf .leaf) (.seq none (.seq (some [106]) .leaf .leaf) .leaf)))))) Tryz.func254
def yU:bY 271:=aZ (.seq none .leaf (.seq none .leaf (.seq none (.seq none .leaf (.one (.loop [6] .leaf))) .leaf))) Tryz.func271
def pI:bY 50:=aZ (.seq none .leaf (.seq none .leaf (.seq none (.seq none .leaf (.one (.loop [6,5] .leaf))) (.seq (some [5]) (.seq none .leaf (.one (.seq none .leaf (.two (.one (.loop [5] .leaf)) .leaf)))) .leaf)))) Tryz.func50
def CV:bY 28:=aZ (.seq none .leaf (.seq none (.seq none .leaf (.one (.loop [5] .leaf))) .leaf)) Tryz.func28
def n4:bY 166:=aZ (.seq none .leaf (.seq none .leaf (.seq none (.seq none .leaf (.one (.loop [13,6] .leaf))) .leaf))) Tryz.func166
def v7:bY 131:=aZ (.seq none .leaf (.seq none .leaf (.seq none (.seq none .leaf (.one (.loop [7,6] (.seq none .leaf (.seq none (.one (.seq none .leaf (.seq none (.seq (some [27]) .leaf .leaf) .leaf))) .leaf))))) .leaf))) Tryz.func131
def Dl:bB 317:=aL (.seq none .leaf (.seq none (.seq (some [11]) .leaf .leaf) .leaf)) Tryz.func317
def Ao:bB 72:=aL .leaf Tryz.func72
def C0:bY 234:=aZ .leaf Tryz.func234
def qb:bY 294:=aZ .leaf Tryz.func294
def HH:bB 136:=aL .leaf Tryz.func136
def rm:bY 192:=aZ (.seq none (.seq none .leaf (.one (.loop [13] .leaf))) .leaf) Tryz.func192
def uu:bY 261:=aZ .leaf Tryz.func261
def rL:bB 20:=aL .leaf Tryz.func20
def sg:bB 150:=aL .leaf Tryz.func150
def uI:bB 314:=aL .leaf Tryz.func314
def jU:bY 104:=aZ (.seq none .leaf (.seq none (.seq none .leaf (.one (.loop [8] .leaf))) .leaf)) Tryz.func104
def Aa:bB 225:=aL (.seq none .leaf (.seq none (.seq none .leaf (.one (.seq (some [4]) .leaf (.two .leaf (.seq (some [14]) .leaf (.two .leaf (.seq (some [17]) .leaf .leaf))))))) .leaf)) Tryz.func225
def Ef:bB 149:=aL .leaf Tryz.func149
def zn:bB 74:=aL .leaf Tryz.func74
def DF:bB 221:=aL .leaf Tryz.func221
def li:bY 43:=aZ .leaf Tryz.func43
def LG:bB 102:=aL .leaf Tryz.func102
def CF:bB 194:=aL .leaf Tryz.func194
def tB:bB 286:=aL .leaf Tryz.func286
end Go.Proofs.YtgllldjiaglkcaaGreatDoor
