/- Made by program: the shallow forms, computed. -/
import Derived.Test.YtgllldjiaglkcaaGreatDoorZUfgb
set_option maxRecDepth 100000
set_option maxHeartbeats 4000000
namespace Go.Proofs.YtgllldjiaglkcaaGreatDoor
open Go
attribute [local irreducible] Run CondV aq aK sOp c9 cS cd eR fk co Tryz.prog ao undef
def yf:n8 126:=fV (.seq none .leaf (.seq none .leaf (.seq none .leaf (.seq none (.seq (some [28]) .leaf .leaf) (.seq none .leaf (.seq none .leaf (.seq none (.seq (some [76]) .leaf .leaf) (.seq none (.seq none .leaf (.one (.loop [7] .leaf))) .leaf)))))))) Tryz.func126
def CQ:yB 226:=lE (.seq none .leaf (.seq none .leaf (.seq none .leaf (.seq none (.one (.loop [11] (.seq none .leaf (.one (.seq none .leaf (.seq none (.seq (some [48]) .leaf .leaf) .leaf)))))) .leaf)))) Tryz.func226
def CM:bQ 290:=aO (.seq none .leaf (.seq none (.one (.seq none .leaf (.two .leaf (.seq none .leaf (.two (.seq none .leaf (.seq none .leaf (.seq (some [4]) .leaf .leaf))) (.seq (some [37]) .leaf .leaf)))))) .leaf)) Tryz.func290
def kV:yB 139:=lE (.seq none .leaf (.seq none .leaf (.seq none .leaf (.seq none (.seq (some [30]) .leaf .leaf) (.seq none .leaf (.seq none (.seq none .leaf (.one (.loop [42] .leaf))) .leaf)))))) Tryz.func139
def Cc:bQ 308:=aO (.seq none .leaf (.seq none .leaf (.seq none (.one (.loop [3] .leaf)) .leaf))) Tryz.func308
def s8:cC 11:=bm (.seq none .leaf (.seq none .leaf (.seq none (.seq none .leaf (.one (.loop [5] .leaf))) .leaf))) Tryz.func11
def Di:bQ 244:=aO (.seq none .leaf (.seq none .leaf (.seq none .leaf (.seq none .leaf (.seq none (.seq none .leaf (.one (.loop [4,3] (.seq none .leaf (.seq none (.one (.seq (some [3]) .leaf .leaf)) .leaf))))) (.seq (some [3]) .leaf .leaf)))))) Tryz.func244
def ry:bQ 108:=aO (.seq none .leaf (.seq none .leaf (.seq none .leaf (.seq none (.seq (some [25]) .leaf .leaf) (.seq none .leaf (.seq none (.seq none .leaf (.one (.loop [7,6] .leaf))) .leaf)))))) Tryz.func108
def FU:RD 40:=Jr (.seq none .leaf (.seq none .leaf (.seq none .leaf (.seq none (.seq none .leaf (.one (.loop [34] .leaf))) .leaf)))) Tryz.func40
def Jx:n8 148:=fV (.seq none .leaf (.seq none .leaf (.seq none (.seq (some [19]) .leaf .leaf) (.seq none (.seq none .leaf (.one (.seq none .leaf (.two .leaf (.seq none .leaf (.two .leaf (.seq none .leaf (.two (.seq none (.seq (some [70]) .leaf .leaf) .leaf) .leaf)))))))) .leaf)))) Tryz.func148
def zi:cC 223:=bm (.seq none .leaf (.seq none .leaf (.seq none (.seq none .leaf (.one (.loop [6,5] (.seq none (.seq (some [16]) .leaf .leaf) .leaf)))) .leaf))) Tryz.func223
def pF:bQ 169:=aO (.seq none .leaf (.seq none .leaf (.seq none .leaf (.seq none .leaf (.seq none .leaf (.seq (some [5]) (.seq (some [29]) .leaf .leaf) (.seq none (.seq (some [54]) .leaf .leaf) .leaf))))))) Tryz.func169
def rM:cC 60:=bm .leaf Tryz.func60
def pg:cC 117:=bm .leaf Tryz.func117
def jR:cC 116:=bm .leaf Tryz.func116
def Co:cC 182:=bm (.seq none .leaf (.seq none .leaf (.seq none (.seq none .leaf (.one (.loop [5] .leaf))) .leaf))) Tryz.func182
def v6:bQ 190:=aO .leaf Tryz.func190
def p7:bQ 94:=aO .leaf Tryz.func94
def ui:cC 329:=bm (.seq none .leaf (.seq none (.seq (some [13]) .leaf .leaf) .leaf)) Tryz.func329
def wg:cC 144:=bm .leaf Tryz.func144
def Cu:bQ 221:=aO .leaf Tryz.func221
def nX:bQ 33:=aO .leaf Tryz.func33
def iN:cC 44:=bm .leaf Tryz.func44
def wt:CW 118:=nY .leaf Tryz.func118
def Ce:n8 227:=fV .leaf Tryz.func227
def zn:bQ 330:=aO .leaf Tryz.func330
end Go.Proofs.YtgllldjiaglkcaaGreatDoor
