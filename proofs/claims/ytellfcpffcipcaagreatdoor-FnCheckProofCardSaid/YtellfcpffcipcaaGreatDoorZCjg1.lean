/- Made by program: the shallow forms, computed. -/
import Derived.Test.YtellfcpffcipcaaGreatDoorZCjgb
set_option maxRecDepth 100000
set_option maxHeartbeats 4000000
namespace Go.Proofs.YtellfcpffcipcaaGreatDoor
open Go
attribute [local irreducible] Run CondV aF aT sOp dH bZ bY fT gX ce Tryz.prog aC undef
def tH:cQ 11:=bl (.seq none .leaf (.seq none .leaf (.seq none (.seq (some [24]) .leaf .leaf) .leaf))) Tryz.func11
def tX:cQ 157:=bl (.seq none .leaf (.seq (some []) (.one (.loop [] .leaf)) .leaf)) Tryz.func157
def vX:bX 79:=aR (.seq none .leaf (.seq none .leaf (.seq none (.seq none .leaf (.one (.loop [9,4] (.seq none .leaf (.seq none .leaf (.seq (some [4]) .leaf .leaf)))))) .leaf))) Tryz.func79
def Bv:WU 177:=LY (.seq none .leaf (.seq none .leaf (.one (.loop [1,12] (.one (.seq none .leaf (.seq none .leaf (.seq none .leaf (.seq none (.seq (some [39]) .leaf .leaf) .leaf))))))))) Tryz.func177
def xY:cQ 175:=bl (.seq none .leaf (.seq none .leaf (.seq (some [6]) .leaf (.seq none .leaf (.seq none (.one (.loop [6] (.seq none (.seq (some [25]) .leaf .leaf) .leaf))) (.seq none .leaf (.seq none (.seq (some [50]) .leaf .leaf) (.seq (some [8]) .leaf .leaf)))))))) Tryz.func175
def tM:bX 102:=aR (.seq none .leaf (.seq none .leaf (.seq none .leaf (.seq none (.seq (some [25]) .leaf .leaf) (.seq none .leaf (.seq none (.seq none .leaf (.one (.loop [7,6] .leaf))) .leaf)))))) Tryz.func102
def rB:bX 42:=aR (.seq none .leaf (.seq none (.seq none .leaf (.one (.loop [3] (.seq none (.seq (some [12]) .leaf .leaf) .leaf)))) .leaf)) Tryz.func42
def pq:bX 20:=aR .leaf Tryz.func20
def Rl:bX 97:=aR .leaf Tryz.func97
def AX:yC 103:=lQ (.seq none .leaf (.seq none .leaf (.seq none (.seq none .leaf (.one (.loop [10,9] .leaf))) .leaf))) Tryz.func103
def yB:bX 135:=aR .leaf Tryz.func135
def uz:iR 158:=dR .leaf Tryz.func158
def wu:iR 37:=dR (.seq none .leaf (.seq none .leaf (.seq none (.seq (some [37]) .leaf .leaf) .leaf))) Tryz.func37
def Mi:iR 181:=dR .leaf Tryz.func181
def u6:bX 153:=aR .leaf Tryz.func153
def g6:cQ 50:=bl (.seq none .leaf (.seq none (.seq none .leaf (.one (.loop [8] .leaf))) .leaf)) Tryz.func50
def Bl:bX 9:=aR (.seq none .leaf (.seq (some [0]) .leaf .leaf)) Tryz.func9
def vf:bX 73:=aR .leaf Tryz.func73
def FN:bX 122:=aR .leaf Tryz.func122
def Gg:cQ 203:=bl .leaf Tryz.func203
def yK:cQ 30:=bl .leaf Tryz.func30
def kV:cQ 75:=bl .leaf Tryz.func75
def uK:bX 185:=aR .leaf Tryz.func185
def Cu:bX 213:=aR .leaf Tryz.func213
end Go.Proofs.YtellfcpffcipcaaGreatDoor
