/- Made by program: the shallow forms, computed. -/
import Derived.Test.YtgllldjiaglkcaaGreatDoorZDrgb
set_option maxRecDepth 100000
set_option maxHeartbeats 4000000
namespace Go.Proofs.YtgllldjiaglkcaaGreatDoor
open Go
attribute [local irreducible] Run CondV ai az sOp bN bJ bo dj dy bp Tryz.prog ar undef
def mz:bR 134:=aX (.seq none .leaf (.seq none .leaf (.seq none .leaf (.seq none .leaf (.seq none (.one (.seq (some [115]) .leaf (.two .leaf (.seq (some [128]) .leaf .leaf)))) .leaf))))) Tryz.func134
def vO:bR 156:=aX (.seq none .leaf (.seq none (.seq (some [13]) .leaf .leaf) (.seq none .leaf (.seq none .leaf (.seq none (.seq none .leaf (.one (.loop [6] .leaf))) .leaf))))) Tryz.func156
def ws:bR 168:=aX (.seq none .leaf (.seq none .leaf (.seq none .leaf (.seq none (.seq none .leaf (.one (.loop [7,6,5] (.seq none .leaf (.seq (some [6,5]) (.one (.seq (some [25]) .leaf .leaf)) .leaf))))) .leaf)))) Tryz.func168
def jK:bn 107:=aD (.seq none .leaf (.seq none .leaf (.seq none .leaf (.seq none (.seq (some [23]) .leaf .leaf) (.seq none (.seq none .leaf (.one (.loop [6,4] .leaf))) .leaf))))) Tryz.func107
def i8:nn 35:=fe .leaf Tryz.func35
def mF:bn 108:=aD (.seq none .leaf (.seq none .leaf (.seq none .leaf (.seq none (.seq (some [25]) .leaf .leaf) (.seq none .leaf (.seq none (.seq none .leaf (.one (.loop [7,6] .leaf))) .leaf)))))) Tryz.func108
def tO:bn 48:=aD (.seq none .leaf (.seq none .leaf (.seq (some [4]) .leaf .leaf))) Tryz.func48
def kW:bn 96:=aD (.seq none .leaf (.seq none (.seq none .leaf (.one (.loop [3] (.seq none (.seq (some [12]) .leaf .leaf) .leaf)))) .leaf)) Tryz.func96
def E0:sY 133:=iB (.seq none .leaf (.seq none (.seq none .leaf (.one (.loop [9,3] .leaf))) .leaf)) Tryz.func133
def jJ:bn 37:=aD (.seq none .leaf (.seq none (.seq none .leaf (.one (.loop [3] (.seq none (.seq (some [11]) .leaf .leaf) .leaf)))) .leaf)) Tryz.func37
def jI:bR 141:=aX .leaf Tryz.func141
def j8:sY 229:=iB .leaf Tryz.func229
def mZ:bn 171:=aD (.seq none .leaf (.seq none (.seq none .leaf (.one (.loop [3] (.seq none (.seq (some [11]) .leaf .leaf) .leaf)))) .leaf)) Tryz.func171
def n4:bR 217:=aX (.seq none .leaf (.seq none (.seq none .leaf (.one (.seq (some [6]) .leaf (.two .leaf (.seq (some [18]) .leaf (.two .leaf (.seq (some [23]) .leaf .leaf))))))) .leaf)) Tryz.func217
def yD:bn 253:=aD .leaf Tryz.func253
def qq:bR 23:=aX .leaf Tryz.func23
def pr:bR 52:=aX .leaf Tryz.func52
def vQ:bn 172:=aD .leaf Tryz.func172
def zK:bn 303:=aD .leaf Tryz.func303
def Cr:bn 102:=aD .leaf Tryz.func102
def sh_i_holds:bn 191:=aD .leaf Tryz.func191
def yx:bn 275:=aD .leaf Tryz.func275
end Go.Proofs.YtgllldjiaglkcaaGreatDoor
