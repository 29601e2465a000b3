/- Made by program: the shallow forms, computed. -/
import Derived.Test.YtgllldjiaglkcaaGreatDoorZUfgb
set_option maxRecDepth 100000
set_option maxHeartbeats 4000000
namespace Go.Proofs.YtgllldjiaglkcaaGreatDoor
open Go
attribute [local irreducible] Run CondV aq aK sOp c9 cR cd eR ff cm Tryz.prog ao undef
def ph:bR 65:=aO (.seq none .leaf (.seq none .leaf (.seq none .leaf (.seq none .leaf (.seq none .leaf (.seq none .leaf (.seq none .leaf (.seq none .leaf (.seq none .leaf (.seq none .leaf (.seq none .leaf (.seq (some [8]) .leaf .leaf)))))))))))) Tryz.func65
def nu:bR 143:=aO (.seq none .leaf (.seq none .leaf (.seq none (.seq none .leaf (.one (.loop [4] .leaf))) .leaf))) Tryz.func143
def mY:bR 97:=aO (.seq none .leaf (.seq none .leaf (.seq none (.seq none .leaf (.one (.loop [4] .leaf))) .leaf))) Tryz.func97
def lO:bR 4:=aO (.seq none .leaf (.seq none .leaf (.seq none .leaf (.seq none .leaf (.seq none .leaf (.seq none (.seq (some [48]) .leaf .leaf) (.seq none .leaf (.seq none (.seq none .leaf (.one (.loop [10,9] .leaf))) (.seq none .leaf (.seq none .leaf (.seq none .leaf (.seq none (.seq (some [112]) .leaf .leaf) .leaf)))))))))))) Tryz.func4
def tj:cC 57:=bm (.seq none .leaf (.seq none (.seq (some [27]) .leaf .leaf) (.seq none .leaf (.seq none (.seq none .leaf (.one (.loop [6] (.seq none .leaf (.seq none (.one (.seq (some [58]) .leaf .leaf)) .leaf))))) .leaf)))) Tryz.func57
def nn:bR 107:=aO (.seq none .leaf (.seq none .leaf (.seq none .leaf (.seq none (.seq (some [23]) .leaf .leaf) (.seq none (.seq none .leaf (.one (.loop [6,4] .leaf))) .leaf))))) Tryz.func107
def pG:cC 50:=bm (.seq none .leaf (.seq none .leaf (.seq none (.seq none .leaf (.one (.loop [6,5] .leaf))) (.seq (some [5]) (.seq none .leaf (.one (.seq none .leaf (.two (.one (.loop [5] .leaf)) .leaf)))) .leaf)))) Tryz.func50
def Fe:bR 193:=aO (.seq none .leaf (.seq none (.one (.seq none .leaf (.two .leaf (.seq none .leaf (.two .leaf (.seq (some [18]) .leaf .leaf)))))) (.seq none .leaf (.seq none .leaf (.seq none .leaf (.seq none .leaf (.seq none .leaf (.seq (some [7]) .leaf .leaf)))))))) Tryz.func193
def jP:bR 14:=aO (.seq none .leaf (.seq none .leaf (.seq none .leaf (.seq (some [5]) .leaf .leaf)))) Tryz.func14
def pD:bR 96:=aO (.seq none .leaf (.seq none (.seq none .leaf (.one (.loop [3] (.seq none (.seq (some [12]) .leaf .leaf) .leaf)))) .leaf)) Tryz.func96
def BU:bR 77:=aO (.seq none .leaf (.seq none .leaf (.seq none (.seq none .leaf (.one (.loop [8,3] .leaf))) .leaf))) Tryz.func77
def sY:yc 64:=lK .leaf Tryz.func64
def lM:n7 69:=fQ (.seq none .leaf (.seq none .leaf (.seq none (.seq none .leaf (.one (.loop [17] .leaf))) .leaf))) Tryz.func69
def rt:BV 109:=nV .leaf Tryz.func109
def wx:bR 120:=aO .leaf Tryz.func120
def Cp:bR 302:=aO (.seq none .leaf (.seq none .leaf (.seq none .leaf (.seq none .leaf (.seq none (.one (.loop [0,3] .leaf)) .leaf))))) Tryz.func302
def uu:cC 217:=bm (.seq none .leaf (.seq none (.seq none .leaf (.one (.seq (some [6]) .leaf (.two .leaf (.seq (some [18]) .leaf (.two .leaf (.seq (some [23]) .leaf .leaf))))))) .leaf)) Tryz.func217
def nq:cC 103:=bm (.seq none .leaf (.seq none (.seq none .leaf (.one (.loop [8] .leaf))) .leaf)) Tryz.func103
def Cd:n7 34:=fQ .leaf Tryz.func34
def zo:bR 42:=aO .leaf Tryz.func42
def sN:bR 164:=aO .leaf Tryz.func164
def lG:yc 257:=lK .leaf Tryz.func257
def eM:cC 46:=bm .leaf Tryz.func46
def EV:bR 145:=aO .leaf Tryz.func145
def zd:cC 272:=bm .leaf Tryz.func272
end Go.Proofs.YtgllldjiaglkcaaGreatDoor
