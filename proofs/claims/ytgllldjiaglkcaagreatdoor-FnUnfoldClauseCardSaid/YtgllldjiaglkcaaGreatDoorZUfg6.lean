/- Made by program: the shallow forms, computed. -/
import Derived.Test.YtgllldjiaglkcaaGreatDoorZUfgb
set_option maxRecDepth 100000
set_option maxHeartbeats 4000000
namespace Go.Proofs.YtgllldjiaglkcaaGreatDoor
open Go
attribute [local irreducible] Run CondV aq aK sOp c9 cS cd eR fk co Tryz.prog ao undef
def vL:cC 184:=bm (.seq none .leaf (.seq none .leaf (.seq none (.seq none .leaf (.one (.loop [6] (.seq none (.seq (some [23]) .leaf .leaf) (.seq (some []) .leaf .leaf))))) (.seq none (.seq none .leaf (.one (.loop [7] .leaf))) .leaf)))) Tryz.func184
def zr:cC 178:=bm (.seq none .leaf (.seq none .leaf (.seq (some []) .leaf (.seq none (.seq none .leaf (.one (.loop [6] .leaf))) .leaf)))) Tryz.func178
def r8:cC 174:=bm (.seq none .leaf (.seq (some []) (.one (.loop [] .leaf)) .leaf)) Tryz.func174
def CT:cC 156:=bm (.seq none .leaf (.seq none (.seq (some [13]) .leaf .leaf) (.seq none .leaf (.seq none .leaf (.seq none (.seq none .leaf (.one (.loop [6] .leaf))) .leaf))))) Tryz.func156
def wn:cC 125:=bm (.seq none .leaf (.seq none .leaf (.seq none (.seq none .leaf (.one (.loop [6] .leaf))) .leaf))) Tryz.func125
def lZ:cC 78:=bm (.seq none .leaf (.seq none .leaf (.seq none .leaf (.seq none .leaf (.seq none (.seq none .leaf (.one (.loop [20] .leaf))) .leaf))))) Tryz.func78
def vC:bQ 122:=aO .leaf Tryz.func122
def te:bQ 95:=aO .leaf Tryz.func95
def CC:bQ 256:=aO (.seq none .leaf (.seq none .leaf (.seq none (.seq none .leaf (.one (.loop [4,3] (.seq none .leaf (.seq none (.one (.seq (some [3]) .leaf .leaf)) .leaf))))) .leaf))) Tryz.func256
def yT:bQ 124:=aO (.seq none .leaf (.seq none (.seq none .leaf (.one (.loop [3] .leaf))) .leaf)) Tryz.func124
def NS:yB 133:=lE (.seq none .leaf (.seq none (.seq none .leaf (.one (.loop [9,3] .leaf))) .leaf)) Tryz.func133
def M9:bQ 140:=aO .leaf Tryz.func140
def EN:bQ 136:=aO .leaf Tryz.func136
def nf:cC 200:=bm .leaf Tryz.func200
def yb:cC 222:=bm (.seq none .leaf (.seq none (.seq (some [12]) .leaf .leaf) (.seq none (.seq none .leaf (.one (.loop [5] .leaf))) .leaf))) Tryz.func222
def Cl:bQ 313:=aO (.seq none .leaf (.seq none .leaf (.seq none (.seq none .leaf (.one (.loop [4,3] (.seq none .leaf (.seq none (.one (.seq (some [3]) .leaf .leaf)) .leaf))))) .leaf))) Tryz.func313
def sL:cC 26:=bm (.seq none .leaf (.seq none (.seq none .leaf (.one (.seq (some [6]) .leaf (.two .leaf (.seq (some [18]) .leaf (.two .leaf (.seq (some [23]) .leaf .leaf))))))) .leaf)) Tryz.func26
def EG:bQ 253:=aO .leaf Tryz.func253
def Ct:bQ 149:=aO .leaf Tryz.func149
def sO:cC 52:=bm .leaf Tryz.func52
def CF:bQ 172:=aO .leaf Tryz.func172
def El:bQ 303:=aO .leaf Tryz.func303
def Er:bQ 75:=aO .leaf Tryz.func75
def ER:bQ 177:=aO .leaf Tryz.func177
def FT:bQ 275:=aO .leaf Tryz.func275
end Go.Proofs.YtgllldjiaglkcaaGreatDoor
