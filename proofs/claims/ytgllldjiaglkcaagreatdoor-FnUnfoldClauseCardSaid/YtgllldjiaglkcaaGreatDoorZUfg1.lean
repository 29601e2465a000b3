/- Made by program: the shallow forms, computed. -/
import Derived.Test.YtgllldjiaglkcaaGreatDoorZUfgb
set_option maxRecDepth 100000
set_option maxHeartbeats 4000000
namespace Go.Proofs.YtgllldjiaglkcaaGreatDoor
open Go
attribute [local irreducible] Run CondV aq aK sOp c9 cS cd eR fk co Tryz.prog ao undef
def Cq:cC 242:=bm (.seq none .leaf (.seq none .leaf (.seq none (.one (.loop [6] .leaf)) (.seq none .leaf (.seq none .leaf (.seq none .leaf (.seq none .leaf (.seq none (.seq none .leaf (.one (.loop [9,7] (.seq none .leaf (.seq (some [7]) .leaf .leaf))))) .leaf)))))))) Tryz.func242
def v7:n8 180:=fV (.seq none .leaf (.seq none .leaf (.seq none (.seq none .leaf (.one (.loop [8,7] (.seq none .leaf (.seq (some [7]) (.one (.seq none .leaf (.seq (some [40]) .leaf .leaf))) .leaf))))) .leaf))) Tryz.func180
def xV:n8 254:=fV (.seq none .leaf (.seq none (.seq (some [23]) .leaf .leaf) (.seq none .leaf (.seq none (.seq (some [65]) .leaf .leaf) (.seq none (.seq (some [83]) .leaf .leaf) (.seq none (.seq (some [106]) .leaf .leaf) .leaf)))))) Tryz.func254
def tR:cC 17:=bm (.seq none .leaf (.seq none .leaf (.seq none (.seq none .leaf (.one (.loop [5] .leaf))) .leaf))) Tryz.func17
def vF:yB 98:=lE .leaf Tryz.func98
def z3:cC 151:=bm (.seq none .leaf (.seq (some [1]) (.seq (some [16]) .leaf .leaf) (.seq none (.seq none .leaf (.one (.loop [25,1] .leaf))) .leaf))) Tryz.func151
def yj:bQ 48:=aO (.seq none .leaf (.seq none .leaf (.seq (some [4]) .leaf .leaf))) Tryz.func48
def yo:bQ 82:=aO (.seq none .leaf (.seq none .leaf (.seq none (.seq none .leaf (.one (.loop [8,3] .leaf))) .leaf))) Tryz.func82
def vW:bQ 123:=aO .leaf Tryz.func123
def De:bQ 224:=aO (.seq none .leaf (.seq none (.seq none .leaf (.one (.loop [3] (.seq none .leaf (.seq none (.one (.seq (some [19]) .leaf .leaf)) .leaf))))) .leaf)) Tryz.func224
def nG:bQ 37:=aO (.seq none .leaf (.seq none (.seq none .leaf (.one (.loop [3] (.seq none (.seq (some [11]) .leaf .leaf) .leaf)))) .leaf)) Tryz.func37
def pm:bQ 119:=aO .leaf Tryz.func119
def nU:cC 115:=bm .leaf Tryz.func115
def r6:n8 175:=fV .leaf Tryz.func175
def x1:bQ 167:=aO (.seq none .leaf (.seq none (.seq none .leaf (.one (.seq (some [5]) .leaf (.two .leaf (.seq (some [15]) .leaf (.two .leaf (.seq (some [18]) .leaf .leaf))))))) .leaf)) Tryz.func167
def lF:bQ 93:=aO .leaf Tryz.func93
def yp:cC 312:=bm (.seq none .leaf (.seq none .leaf (.seq none (.seq (some [15]) .leaf .leaf) .leaf))) Tryz.func312
def yH:bQ 74:=aO .leaf Tryz.func74
def BV:n8 204:=fV .leaf Tryz.func204
def wy:bQ 311:=aO (.seq none .leaf (.seq none (.seq (some [8]) .leaf .leaf) .leaf)) Tryz.func311
def vR:cC 111:=bm .leaf Tryz.func111
def Gy:bQ 213:=aO .leaf Tryz.func213
def yy:bQ 309:=aO .leaf Tryz.func309
end Go.Proofs.YtgllldjiaglkcaaGreatDoor
