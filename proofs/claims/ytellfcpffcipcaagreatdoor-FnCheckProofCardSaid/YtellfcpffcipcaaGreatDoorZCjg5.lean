/- Made by program: the shallow forms, computed. -/
import Derived.Test.YtellfcpffcipcaaGreatDoorZCjgb
set_option maxRecDepth 100000
set_option maxHeartbeats 4000000
namespace Go.Proofs.YtellfcpffcipcaaGreatDoor
open Go
attribute [local irreducible] Run CondV aF aT sOp dH bZ bY fT gX ce Tryz.prog aC undef
def Ca:cQ 62:=bl (.seq none .leaf (.seq none (.one (.loop [] .leaf)) .leaf)) Tryz.func62
def Bk:iR 149:=dR (.seq none .leaf (.seq none .leaf (.seq none .leaf (.seq none (.seq (some [28]) .leaf .leaf) (.seq none .leaf (.seq none .leaf (.seq none (.seq (some [76]) .leaf .leaf) (.seq none (.seq none .leaf (.one (.loop [7] .leaf))) .leaf)))))))) Tryz.func149
def Gj:cQ 61:=bl (.seq none .leaf (.seq none .leaf (.seq none .leaf (.seq none (.seq (some [32]) .leaf .leaf) .leaf)))) Tryz.func61
def C2:cQ 107:=bl .leaf Tryz.func107
def Gf:yC 100:=lQ (.seq none .leaf (.seq none .leaf (.seq none .leaf (.seq none (.one (.loop [11] (.seq none .leaf (.one (.seq none .leaf (.seq none (.seq (some [48]) .leaf .leaf) .leaf)))))) .leaf)))) Tryz.func100
def wK:cQ 13:=bl (.seq none .leaf (.seq none .leaf (.seq (some []) .leaf .leaf))) Tryz.func13
def yz:cQ 29:=bl (.seq none .leaf (.seq none .leaf (.seq (some []) (.seq none .leaf (.one (.seq none .leaf (.two .leaf (.seq none .leaf (.two .leaf (.seq none .leaf (.two (.one (.loop [] .leaf)) .leaf)))))))) .leaf))) Tryz.func29
def EO:bX 207:=aR (.seq none .leaf (.seq none .leaf (.seq none .leaf (.seq none .leaf (.seq none (.seq none .leaf (.one (.loop [4,3] (.seq none .leaf (.seq none (.one (.seq (some [3]) .leaf .leaf)) .leaf))))) (.seq (some [3]) .leaf .leaf)))))) Tryz.func207
def yi:yC 51:=lQ .leaf Tryz.func51
def tZ:bX 136:=aR (.seq none .leaf (.seq none .leaf (.seq none .leaf (.seq none (.seq none .leaf (.one (.loop [11,4] .leaf))) .leaf)))) Tryz.func136
def Sv:yC 92:=lQ (.seq none .leaf (.seq none (.seq none .leaf (.one (.loop [9,3] .leaf))) .leaf)) Tryz.func92
def r6:bX 99:=aR (.seq none .leaf (.seq none .leaf (.seq none .leaf (.seq none .leaf (.seq none .leaf (.seq (some [5]) (.seq (some [29]) .leaf .leaf) (.seq none (.seq (some [54]) .leaf .leaf) .leaf))))))) Tryz.func99
def HR:bX 151:=aR (.seq none .leaf (.seq none .leaf (.seq none .leaf (.seq none (.seq (some [21]) .leaf .leaf) (.seq none (.seq (some [36]) .leaf .leaf) (.seq none (.seq (some [48]) .leaf .leaf) .leaf)))))) Tryz.func151
def uh:bX 91:=aR .leaf Tryz.func91
def pJ:yC 184:=lQ .leaf Tryz.func184
def y5:bX 114:=aR .leaf Tryz.func114
def nn:cQ 112:=bl (.seq none .leaf (.seq none (.seq none .leaf (.one (.loop [8] .leaf))) .leaf)) Tryz.func112
def rJ:bX 36:=aR .leaf Tryz.func36
def AO:cQ 205:=bl (.seq none .leaf (.seq none .leaf (.seq none (.seq (some [15]) .leaf .leaf) .leaf))) Tryz.func205
def Bo:bX 60:=aR .leaf Tryz.func60
def wm:bX 84:=aR .leaf Tryz.func84
def uM:bX 155:=aR .leaf Tryz.func155
def un:cQ 5:=bl .leaf Tryz.func5
def ux:bX 18:=aR .leaf Tryz.func18
def Ib:bX 69:=aR .leaf Tryz.func69
def sh_i_holds:bX 115:=aR .leaf Tryz.func115
def HY:cQ 196:=bl .leaf Tryz.func196
end Go.Proofs.YtellfcpffcipcaaGreatDoor
