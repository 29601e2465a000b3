/- Made by program: the shallow forms, computed. -/
import Derived.Test.YtellfcpffcipcaaGreatDoorZCjgb
set_option maxRecDepth 100000
set_option maxHeartbeats 4000000
namespace Go.Proofs.YtellfcpffcipcaaGreatDoor
open Go
attribute [local irreducible] Run CondV aF aT sOp dH bZ bY fT gX ce Tryz.prog aC undef
def tL:WU 134:=LY (.seq none .leaf (.seq none .leaf (.seq none (.seq none .leaf (.one (.loop [30] (.seq none .leaf (.seq none .leaf (.seq none (.one (.seq none .leaf (.seq none .leaf (.seq none .leaf (.seq none .leaf (.seq none .leaf (.seq none .leaf (.seq (some []) .leaf (.seq none .leaf (.seq none .leaf (.seq none (.seq none .leaf (.one (.loop [120,17] .leaf))) .leaf))))))))))) .leaf)))))) .leaf))) Tryz.func134
def rb:bX 94:=aR (.seq none .leaf (.seq none .leaf (.seq none .leaf (.seq none .leaf (.seq none .leaf (.seq none .leaf (.seq none .leaf (.seq none .leaf (.seq none .leaf (.seq none .leaf (.seq none .leaf (.seq (some [8]) .leaf .leaf)))))))))))) Tryz.func94
def rQ:iR 116:=dR (.seq none .leaf (.seq none .leaf (.seq none (.one (.seq (some [14]) .leaf (.two .leaf (.seq none .leaf (.two .leaf (.seq none .leaf (.two .leaf (.seq (some [48]) .leaf .leaf)))))))) (.seq none (.seq none .leaf (.one (.loop [80] .leaf))) .leaf)))) Tryz.func116
def rh:bX 127:=aR (.seq none .leaf (.seq none .leaf (.seq none (.seq (some [28]) .leaf .leaf) (.seq none .leaf (.seq none .leaf (.seq none .leaf (.seq none .leaf (.seq none (.seq none .leaf (.one (.loop [8,7] (.seq none .leaf (.seq (some [7]) (.one (.seq none .leaf (.seq none .leaf (.seq none (.seq (some [66]) .leaf .leaf) .leaf)))) .leaf))))) .leaf)))))))) Tryz.func127
def Fz:bX 188:=aR (.seq none .leaf (.seq none (.one (.seq none .leaf (.two .leaf (.seq none .leaf (.two (.seq none .leaf (.seq none .leaf (.seq (some [4]) .leaf .leaf))) (.seq (some [37]) .leaf .leaf)))))) .leaf)) Tryz.func188
def yH:iR 63:=dR (.seq none .leaf (.seq none .leaf (.seq none .leaf (.seq none .leaf (.seq none .leaf (.seq none (.seq none .leaf (.one (.loop [13,10,1] (.seq none (.seq (some [46]) .leaf .leaf) .leaf)))) .leaf)))))) Tryz.func63
def yv:cQ 33:=bl (.seq none .leaf (.seq none .leaf (.seq (some []) (.seq none .leaf (.one (.seq none .leaf (.two .leaf (.seq none .leaf (.two .leaf (.seq none .leaf (.two .leaf (.seq none .leaf (.two (.one (.loop [] .leaf)) (.seq none .leaf (.two (.seq none .leaf (.one (.loop [6] .leaf))) .leaf)))))))))))) .leaf))) Tryz.func33
def Aa:cQ 189:=bl (.seq none .leaf (.seq none .leaf (.seq none (.seq none .leaf (.one (.loop [6] .leaf))) .leaf))) Tryz.func189
def HT:bX 118:=aR (.seq none .leaf (.seq none (.one (.seq none .leaf (.two .leaf (.seq none .leaf (.two .leaf (.seq (some [18]) .leaf .leaf)))))) (.seq none .leaf (.seq none .leaf (.seq none .leaf (.seq none .leaf (.seq none .leaf (.seq (some [7]) .leaf .leaf)))))))) Tryz.func118
def Cv:bX 55:=aR (.seq none .leaf (.seq none .leaf (.seq none (.seq none .leaf (.one (.loop [8,3] .leaf))) .leaf))) Tryz.func55
def FQ:bX 93:=aR (.seq none .leaf (.seq none .leaf (.seq none (.seq none .leaf (.one (.loop [8,3] .leaf))) .leaf))) Tryz.func93
def At:bX 10:=aR (.seq none .leaf (.seq none .leaf (.seq none .leaf (.seq (some []) .leaf .leaf)))) Tryz.func10
def nK:iR 121:=dR (.seq none .leaf (.seq none .leaf (.seq none (.seq none .leaf (.one (.loop [17] .leaf))) .leaf))) Tryz.func121
def p5:cQ 161:=bl .leaf Tryz.func161
def tS:bX 143:=aR (.seq none .leaf (.seq none (.seq none .leaf (.one (.loop [3] (.seq none (.seq (some [11]) .leaf .leaf) .leaf)))) .leaf)) Tryz.func143
def vM:cQ 80:=bl (.seq none .leaf (.seq none (.seq none .leaf (.one (.seq (some [6]) .leaf (.two .leaf (.seq (some [18]) .leaf (.two .leaf (.seq (some [23]) .leaf .leaf))))))) .leaf)) Tryz.func80
def yM:bX 113:=aR .leaf Tryz.func113
def rC:bX 38:=aR (.seq none .leaf (.seq none (.seq (some [15]) .leaf .leaf) .leaf)) Tryz.func38
def u0:cQ 212:=bl (.seq none .leaf (.seq none (.seq (some [13]) .leaf .leaf) .leaf)) Tryz.func212
def yb:cQ 68:=bl .leaf Tryz.func68
def yk:bX 87:=aR .leaf Tryz.func87
def CU:iR 182:=dR .leaf Tryz.func182
def qm:bX 14:=aR .leaf Tryz.func14
def jR:cQ 23:=bl .leaf Tryz.func23
def uJ:bX 71:=aR .leaf Tryz.func71
def Ga:iR 137:=dR .leaf Tryz.func137
def Cj:bX 202:=aR .leaf Tryz.func202
end Go.Proofs.YtellfcpffcipcaaGreatDoor
