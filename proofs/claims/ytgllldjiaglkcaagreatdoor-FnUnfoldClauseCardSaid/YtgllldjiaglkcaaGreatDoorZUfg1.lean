/- Made by program: the shallow forms, computed. -/
import Derived.Test.YtgllldjiaglkcaaGreatDoorZUfgb
set_option maxRecDepth 100000
set_option maxHeartbeats 4000000
namespace Go.Proofs.YtgllldjiaglkcaaGreatDoor
open Go
attribute [local irreducible] Run CondV aq aK sOp c9 cR cd eR ff cm Tryz.prog ao undef
def Dc:cC 242:=bm (.seq none .leaf (.seq none .leaf (.seq none (.one (.loop [6] .leaf)) (.seq none .leaf (.seq none .leaf (.seq none .leaf (.seq none .leaf (.seq none (.seq none .leaf (.one (.loop [9,7] (.seq none .leaf (.seq (some [7]) .leaf .leaf))))) .leaf)))))))) Tryz.func242
def v6:n7 180:=fQ (.seq none .leaf (.seq none .leaf (.seq none (.seq none .leaf (.one (.loop [8,7] (.seq none .leaf (.seq (some [7]) (.one (.seq none .leaf (.seq (some [40]) .leaf .leaf))) .leaf))))) .leaf))) Tryz.func180
def yI:n7 254:=fQ (.seq none .leaf (.seq none (.seq (some [23]) .leaf .leaf) (.seq none .leaf (.seq none (.seq (some [65]) .leaf .leaf) (.seq none (.seq (some [83]) .leaf .leaf) (.seq none (.seq (some [106]) .leaf .leaf) .leaf)))))) Tryz.func254
def tp:cC 17:=bm (.seq none .leaf (.seq none .leaf (.seq none (.seq none .leaf (.one (.loop [5] .leaf))) .leaf))) Tryz.func17
def vG:yc 98:=lK .leaf Tryz.func98
def xP:cC 151:=bm (.seq none .leaf (.seq (some [1]) (.seq (some [16]) .leaf .leaf) (.seq none (.seq none .leaf (.one (.loop [25,1] .leaf))) .leaf))) Tryz.func151
def zx:bR 48:=aO (.seq none .leaf (.seq none .leaf (.seq (some [4]) .leaf .leaf))) Tryz.func48
def yf:bR 82:=aO (.seq none .leaf (.seq none .leaf (.seq none (.seq none .leaf (.one (.loop [8,3] .leaf))) .leaf))) Tryz.func82
def vC:bR 123:=aO .leaf Tryz.func123
def Co:bR 224:=aO (.seq none .leaf (.seq none (.seq none .leaf (.one (.loop [3] (.seq none .leaf (.seq none (.one (.seq (some [19]) .leaf .leaf)) .leaf))))) .leaf)) Tryz.func224
def np:bR 37:=aO (.seq none .leaf (.seq none (.seq none .leaf (.one (.loop [3] (.seq none (.seq (some [11]) .leaf .leaf) .leaf)))) .leaf)) Tryz.func37
def o8:bR 119:=aO .leaf Tryz.func119
def nl:cC 115:=bm .leaf Tryz.func115
def rH:n7 175:=fQ .leaf Tryz.func175
def xQ:bR 167:=aO (.seq none .leaf (.seq none (.seq none .leaf (.one (.seq (some [5]) .leaf (.two .leaf (.seq (some [15]) .leaf (.two .leaf (.seq (some [18]) .leaf .leaf))))))) .leaf)) Tryz.func167
def lE:bR 93:=aO .leaf Tryz.func93
def zM:cC 312:=bm (.seq none .leaf (.seq none .leaf (.seq none (.seq (some [15]) .leaf .leaf) .leaf))) Tryz.func312
def zH:bR 74:=aO .leaf Tryz.func74
def BX:n7 204:=fQ .leaf Tryz.func204
def wi:bR 311:=aO (.seq none .leaf (.seq none (.seq (some [8]) .leaf .leaf) .leaf)) Tryz.func311
def v7:cC 111:=bm .leaf Tryz.func111
def EM:bR 213:=aO .leaf Tryz.func213
def zh:bR 309:=aO .leaf Tryz.func309
end Go.Proofs.YtgllldjiaglkcaaGreatDoor
