/- Made by program: the shallow forms, computed. -/
import Derived.Test.YtellfcpffcipcaaGreatDoorZCjgb
set_option maxRecDepth 100000
set_option maxHeartbeats 4000000
namespace Go.Proofs.YtellfcpffcipcaaGreatDoor
open Go
attribute [local irreducible] Run CondV aF aT sOp dH bZ bY fT gX ce Tryz.prog aC undef
def EF:cQ 176:=bl (.seq none .leaf (.seq none .leaf (.seq none (.one (.loop [6] .leaf)) (.seq none .leaf (.seq none .leaf (.seq none .leaf (.seq none .leaf (.seq none (.seq none .leaf (.one (.loop [9,7] (.seq none .leaf (.seq (some [7]) .leaf .leaf))))) .leaf)))))))) Tryz.func176
def tN:cQ 78:=bl (.seq none .leaf (.seq none .leaf (.seq none .leaf (.seq none .leaf (.seq none (.one (.seq (some [115]) .leaf (.two .leaf (.seq (some [128]) .leaf .leaf)))) .leaf))))) Tryz.func78
def vi:cQ 64:=bl (.seq none .leaf (.seq none .leaf (.seq none (.seq none .leaf (.one (.loop [6] .leaf))) .leaf))) Tryz.func64
def yJ:iR 40:=dR (.seq none .leaf (.seq none .leaf (.seq none (.seq (some [56]) .leaf .leaf) (.seq none (.seq none .leaf (.one (.loop [60] .leaf))) .leaf)))) Tryz.func40
def y4:iR 180:=dR (.seq none .leaf (.seq none .leaf (.seq none (.seq none .leaf (.one (.loop [8,7] (.seq none .leaf (.seq (some [7]) (.one (.seq none .leaf (.seq (some [40]) .leaf .leaf))) .leaf))))) .leaf))) Tryz.func180
def ol:cQ 168:=bl (.seq none .leaf (.seq none .leaf (.seq none .leaf (.seq none .leaf (.seq none (.seq none .leaf (.one (.loop [20] .leaf))) .leaf))))) Tryz.func168
def Gi:bX 190:=aR (.seq none .leaf (.seq (some [4]) .leaf (.seq (some [0]) .leaf (.seq none (.seq (some [38]) .leaf .leaf) (.seq none .leaf (.seq none (.seq none .leaf (.one (.loop [6,5] (.seq none .leaf (.seq none (.one (.seq none (.seq (some [54]) .leaf .leaf) .leaf)) .leaf))))) (.seq (some [5]) .leaf .leaf))))))) Tryz.func190
def y9:cQ 43:=bl (.seq none .leaf (.seq none (.seq (some [29]) .leaf .leaf) (.seq none (.seq none .leaf (.one (.loop [5] .leaf))) .leaf))) Tryz.func43
def Mv:iR 110:=dR (.seq none .leaf (.seq none .leaf (.seq none (.seq (some [19]) .leaf .leaf) (.seq none (.seq none .leaf (.one (.seq none .leaf (.two .leaf (.seq none .leaf (.two .leaf (.seq none .leaf (.two (.seq none (.seq (some [70]) .leaf .leaf) .leaf) .leaf)))))))) .leaf)))) Tryz.func110
def Bb:cQ 124:=bl (.seq none .leaf (.seq none .leaf (.seq none (.seq none .leaf (.one (.loop [6,5] (.seq none (.seq (some [16]) .leaf .leaf) .leaf)))) .leaf))) Tryz.func124
def Fp:bX 125:=aR (.seq none .leaf (.seq none (.seq none .leaf (.one (.loop [3] (.seq none .leaf (.seq none (.one (.seq (some [19]) .leaf .leaf)) .leaf))))) .leaf)) Tryz.func125
def pP:cQ 167:=bl .leaf Tryz.func167
def vL:bX 46:=aR (.seq none .leaf (.seq none (.seq none .leaf (.one (.loop [6] (.seq none .leaf (.seq none .leaf (.seq none (.one (.seq none .leaf (.seq (some [18]) .leaf .leaf))) .leaf)))))) .leaf)) Tryz.func46
def Mr:cQ 141:=bl (.seq none .leaf (.seq none .leaf (.seq (some [6]) .leaf (.seq none .leaf (.seq none .leaf (.seq none (.seq (some [33]) .leaf .leaf) (.seq (some [9]) .leaf (.seq none (.seq (some [54]) .leaf .leaf) (.seq (some [8]) .leaf .leaf))))))))) Tryz.func141
def Be:bX 90:=aR (.seq none .leaf (.seq none (.seq none .leaf (.one (.seq (some [5]) .leaf (.two .leaf (.seq (some [15]) .leaf (.two .leaf (.seq (some [18]) .leaf .leaf))))))) .leaf)) Tryz.func90
def za:bX 58:=aR (.seq none .leaf (.seq none .leaf (.seq none .leaf (.seq none (.seq (some [23]) .leaf .leaf) .leaf)))) Tryz.func58
def nM:bX 35:=aR .leaf Tryz.func35
def IW:cQ 195:=bl (.seq none .leaf (.seq none .leaf (.seq (some [5]) (.seq (some [17]) .leaf .leaf) .leaf))) Tryz.func195
def A8:bX 39:=aR .leaf Tryz.func39
def vp:bX 83:=aR .leaf Tryz.func83
def uw:bX 152:=aR .leaf Tryz.func152
def yN:bX 214:=aR .leaf Tryz.func214
def Cr:Jx 57:=ub .leaf Tryz.func57
def qj:bX 111:=aR .leaf Tryz.func111
def y6:bX 194:=aR (.seq none .leaf (.seq none (.seq (some [9]) .leaf .leaf) .leaf)) Tryz.func194
end Go.Proofs.YtellfcpffcipcaaGreatDoor
