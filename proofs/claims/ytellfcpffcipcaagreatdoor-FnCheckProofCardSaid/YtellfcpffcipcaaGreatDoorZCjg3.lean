/- Made by program: the shallow forms, computed. -/
import Derived.Test.YtellfcpffcipcaaGreatDoorZCjgb
set_option maxRecDepth 100000
set_option maxHeartbeats 4000000
namespace Go.Proofs.YtellfcpffcipcaaGreatDoor
open Go
attribute [local irreducible] Run CondV aF aT sOp dH bZ bY fT gX ce Tryz.prog aC undef
def Ab:cQ 45:=bl (.seq none .leaf (.seq none .leaf (.seq none .leaf (.seq none .leaf (.seq none .leaf (.seq none .leaf (.seq none (.seq none .leaf (.one (.loop [7] .leaf))) .leaf))))))) Tryz.func45
def Ac:iR 105:=dR (.seq none .leaf (.seq none .leaf (.seq none .leaf (.seq none .leaf (.seq (some []) .leaf .leaf))))) Tryz.func105
def Bn:cQ 144:=bl (.seq none .leaf (.seq none .leaf (.seq (some []) .leaf (.seq none (.seq none .leaf (.one (.loop [6] .leaf))) .leaf)))) Tryz.func144
def qy:bX 66:=aR (.seq none .leaf (.seq none .leaf (.seq none (.seq none .leaf (.one (.loop [4] .leaf))) .leaf))) Tryz.func66
def mM:yC 159:=lQ (.seq none .leaf (.seq none .leaf (.seq none .leaf (.seq none (.seq (some [30]) .leaf .leaf) (.seq none .leaf (.seq none (.seq none .leaf (.one (.loop [42] .leaf))) .leaf)))))) Tryz.func159
def qr:bX 3:=aR (.seq none .leaf (.seq none .leaf (.seq none .leaf (.seq none .leaf (.seq none (.seq (some [37]) .leaf .leaf) .leaf))))) Tryz.func3
def pY:bX 56:=aR (.seq none .leaf (.seq none .leaf (.seq none .leaf (.seq none (.seq (some [23]) .leaf .leaf) (.seq none (.seq none .leaf (.one (.loop [6,4] .leaf))) .leaf))))) Tryz.func56
def tO:iR 53:=dR (.seq none .leaf (.seq none .leaf (.seq none .leaf (.seq none .leaf (.seq none (.one (.loop [9,10] .leaf)) .leaf))))) Tryz.func53
def BQ:bX 193:=aR (.seq none .leaf (.seq none .leaf (.seq none .leaf (.seq none (.seq none .leaf (.one (.loop [5,4] (.seq none .leaf (.seq (some [4]) .leaf .leaf))))) .leaf)))) Tryz.func193
def qA:cQ 178:=bl (.seq none .leaf (.seq none (.one (.loop [] (.seq none (.seq (some [23]) .leaf .leaf) .leaf))) .leaf)) Tryz.func178
def LZ:bX 132:=aR .leaf Tryz.func132
def oK:cQ 24:=bl .leaf Tryz.func24
def AY:cQ 65:=bl (.seq none .leaf (.seq none .leaf (.seq none (.seq none .leaf (.one (.loop [5,0] .leaf))) .leaf))) Tryz.func65
def ye:cQ 19:=bl (.seq none .leaf (.seq none .leaf (.seq none (.seq none .leaf (.one (.loop [5] .leaf))) .leaf))) Tryz.func19
def EE:bX 206:=aR (.seq none .leaf (.seq none .leaf (.seq none (.seq none .leaf (.one (.loop [4,3] (.seq none .leaf (.seq none (.one (.seq (some [3]) .leaf .leaf)) .leaf))))) .leaf))) Tryz.func206
def Cy:iR 173:=dR .leaf Tryz.func173
def CL:Jx 183:=ub .leaf Tryz.func183
def A9:bX 101:=aR .leaf Tryz.func101
def E3:bX 67:=aR .leaf Tryz.func67
def Bm:bX 85:=aR .leaf Tryz.func85
def EJ:iR 156:=dR .leaf Tryz.func156
def tW:cQ 6:=bl .leaf Tryz.func6
def mZ:cQ 22:=bl .leaf Tryz.func22
def IK:bX 70:=aR .leaf Tryz.func70
def Fm:bX 119:=aR .leaf Tryz.func119
def FJ:bX 200:=aR .leaf Tryz.func200
end Go.Proofs.YtellfcpffcipcaaGreatDoor
