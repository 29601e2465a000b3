/- Made by program: the shallow forms, computed. -/
import Derived.Test.YtgllldjiaglkcaaGreatDoorZUfgb
set_option maxRecDepth 100000
set_option maxHeartbeats 4000000
namespace Go.Proofs.YtgllldjiaglkcaaGreatDoor
open Go
attribute [local irreducible] Run CondV aq aK sOp c9 cR cd eR ff cm Tryz.prog ao undef
def vy:cC 184:=bm (.seq none .leaf (.seq none .leaf (.seq none (.seq none .leaf (.one (.loop [6] (.seq none (.seq (some [23]) .leaf .leaf) (.seq (some []) .leaf .leaf))))) (.seq none (.seq none .leaf (.one (.loop [7] .leaf))) .leaf)))) Tryz.func184
def z7:cC 178:=bm (.seq none .leaf (.seq none .leaf (.seq (some []) .leaf (.seq none (.seq none .leaf (.one (.loop [6] .leaf))) .leaf)))) Tryz.func178
def rq:cC 174:=bm (.seq none .leaf (.seq (some []) (.one (.loop [] .leaf)) .leaf)) Tryz.func174
def CD:cC 156:=bm (.seq none .leaf (.seq none (.seq (some [13]) .leaf .leaf) (.seq none .leaf (.seq none .leaf (.seq none (.seq none .leaf (.one (.loop [6] .leaf))) .leaf))))) Tryz.func156
def wm:cC 125:=bm (.seq none .leaf (.seq none .leaf (.seq none (.seq none .leaf (.one (.loop [6] .leaf))) .leaf))) Tryz.func125
def lY:cC 78:=bm (.seq none .leaf (.seq none .leaf (.seq none .leaf (.seq none .leaf (.seq none (.seq none .leaf (.one (.loop [20] .leaf))) .leaf))))) Tryz.func78
def wl:bR 122:=aO .leaf Tryz.func122
def tZ:bR 95:=aO .leaf Tryz.func95
def BW:bR 256:=aO (.seq none .leaf (.seq none .leaf (.seq none (.seq none .leaf (.one (.loop [4,3] (.seq none .leaf (.seq none (.one (.seq (some [3]) .leaf .leaf)) .leaf))))) .leaf))) Tryz.func256
def y4:bR 124:=aO (.seq none .leaf (.seq none (.seq none .leaf (.one (.loop [3] .leaf))) .leaf)) Tryz.func124
def Ou:yc 133:=lK (.seq none .leaf (.seq none (.seq none .leaf (.one (.loop [9,3] .leaf))) .leaf)) Tryz.func133
def MK:bR 140:=aO .leaf Tryz.func140
def E8:bR 136:=aO .leaf Tryz.func136
def nJ:cC 200:=bm .leaf Tryz.func200
def zG:cC 222:=bm (.seq none .leaf (.seq none (.seq (some [12]) .leaf .leaf) (.seq none (.seq none .leaf (.one (.loop [5] .leaf))) .leaf))) Tryz.func222
def C5:bR 313:=aO (.seq none .leaf (.seq none .leaf (.seq none (.seq none .leaf (.one (.loop [4,3] (.seq none .leaf (.seq none (.one (.seq (some [3]) .leaf .leaf)) .leaf))))) .leaf))) Tryz.func313
def s9:cC 26:=bm (.seq none .leaf (.seq none (.seq none .leaf (.one (.seq (some [6]) .leaf (.two .leaf (.seq (some [18]) .leaf (.two .leaf (.seq (some [23]) .leaf .leaf))))))) .leaf)) Tryz.func26
def F6:bR 253:=aO .leaf Tryz.func253
def CN:bR 149:=aO .leaf Tryz.func149
def tK:cC 52:=bm .leaf Tryz.func52
def CM:bR 172:=aO .leaf Tryz.func172
def GR:bR 303:=aO .leaf Tryz.func303
def Ge:bR 75:=aO .leaf Tryz.func75
def G8:bR 177:=aO .leaf Tryz.func177
def Gs:bR 275:=aO .leaf Tryz.func275
end Go.Proofs.YtgllldjiaglkcaaGreatDoor
