/- Made by program: the shallow forms, computed. -/
import Derived.Test.YtellfcpffcipcaaGreatDoorZCjgb
set_option maxRecDepth 100000
set_option maxHeartbeats 4000000
namespace Go.Proofs.YtellfcpffcipcaaGreatDoor
open Go
attribute [local irreducible] Run CondV aF aT sOp dH bZ bY fT gX ce Tryz.prog aC undef
def Jn:iR 179:=dR (.seq none .leaf (.seq none (.seq none .leaf (.one (.loop [8] (.seq none .leaf (.seq none (.one (.seq none .leaf (.seq none .leaf (.seq none .leaf (.seq none .leaf (.seq none .leaf (.seq none .leaf (.seq (some []) .leaf .leaf)))))))) .leaf))))) .leaf)) Tryz.func179
def qh:iR 145:=dR (.seq none .leaf (.seq none .leaf (.seq none .leaf (.seq none .leaf (.seq none .leaf (.seq none (.seq none .leaf (.one (.loop [10,9] (.seq none (.seq (some [36]) .leaf .leaf) .leaf)))) .leaf)))))) Tryz.func145
def FL:bX 201:=aR (.seq none .leaf (.seq none .leaf (.seq none (.one (.loop [3] .leaf)) .leaf))) Tryz.func201
def tE:cQ 131:=bl (.seq none .leaf (.seq none .leaf (.seq none (.seq none .leaf (.one (.loop [10,5] (.seq none .leaf (.seq none .leaf (.seq (some [5]) .leaf .leaf)))))) .leaf))) Tryz.func131
def AE:cQ 129:=bl (.seq none .leaf (.seq (some [1]) (.seq (some [16]) .leaf .leaf) (.seq none (.seq none .leaf (.one (.loop [25,1] .leaf))) .leaf))) Tryz.func129
def FI:bX 171:=aR (.seq none .leaf (.seq none .leaf (.seq none (.seq none .leaf (.one (.loop [4,3] (.seq none .leaf (.seq none (.one (.seq (some [3]) .leaf .leaf)) .leaf))))) .leaf))) Tryz.func171
def BX:cQ 104:=bl .leaf Tryz.func104
def vy:yC 52:=lQ .leaf Tryz.func52
def tR:cQ 117:=bl (.seq none (.seq none .leaf (.one (.loop [13] .leaf))) .leaf) Tryz.func117
def BC:cQ 123:=bl (.seq none .leaf (.seq none (.seq (some [12]) .leaf .leaf) (.seq none (.seq none .leaf (.one (.loop [5] .leaf))) .leaf))) Tryz.func123
def Gh:cQ 146:=bl (.seq none .leaf (.seq none .leaf (.seq none (.seq none .leaf (.one (.loop [5] .leaf))) .leaf))) Tryz.func146
def CH:bX 150:=aR (.seq none .leaf (.seq none .leaf (.seq none .leaf (.seq none (.seq (some [31]) .leaf .leaf) .leaf)))) Tryz.func150
def Az:bX 126:=aR (.seq none .leaf (.seq none (.seq none .leaf (.one (.seq (some [4]) .leaf (.two .leaf (.seq (some [14]) .leaf (.two .leaf (.seq (some [17]) .leaf .leaf))))))) .leaf)) Tryz.func126
def qB:cQ 48:=bl (.seq none .leaf (.seq none (.seq none .leaf (.one (.loop [8] .leaf))) .leaf)) Tryz.func48
def nO:bX 4:=aR (.seq none .leaf (.seq none .leaf (.seq none .leaf (.seq (some [5]) .leaf .leaf)))) Tryz.func4
def Bi:cQ 174:=bl .leaf Tryz.func174
def o9:cQ 120:=bl .leaf Tryz.func120
def nI:yC 197:=lQ .leaf Tryz.func197
def tP:bX 15:=aR .leaf Tryz.func15
def fN:cQ 25:=bl .leaf Tryz.func25
def ul:bX 72:=aR .leaf Tryz.func72
def uO:Jx 142:=ub .leaf Tryz.func142
def Ft:bX 211:=aR .leaf Tryz.func211
end Go.Proofs.YtellfcpffcipcaaGreatDoor
