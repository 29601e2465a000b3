/- Made by program: the shallow forms, computed. -/
import Derived.Test.YtcpgagfdeflbkaaGreatDoorZMvgb
set_option maxRecDepth 100000
set_option maxHeartbeats 4000000
namespace Go.Proofs.YtcpgagfdeflbkaaGreatDoor
open Go
attribute [local irreducible] Run CondV ao aI sOp bN bJ bt dg dy bu Tryz.prog az undef
def vr:s4 105:=gX (.seq none .leaf (.seq none .leaf (.seq none .leaf (.seq none (.one (.loop [11] (.seq none .leaf (.one (.seq none .leaf (.seq none (.seq (some [48]) .leaf .leaf) .leaf)))))) .leaf)))) Tryz.func105
def vF:bk 158:=aC (.seq none .leaf (.seq none (.one (.seq none .leaf (.two .leaf (.seq none .leaf (.two (.seq none .leaf (.seq none .leaf (.seq (some [4]) .leaf .leaf))) (.seq (some [37]) .leaf .leaf)))))) .leaf)) Tryz.func158
def gJ:s4 132:=gX (.seq none .leaf (.seq none .leaf (.seq none .leaf (.seq none (.seq (some [30]) .leaf .leaf) (.seq none .leaf (.seq none (.seq none .leaf (.one (.loop [42] .leaf))) .leaf)))))) Tryz.func132
def pJ:bI 54:=aR (.seq none .leaf (.seq none .leaf (.seq (some []) (.seq none .leaf (.one (.seq none .leaf (.two .leaf (.seq none .leaf (.two .leaf (.seq none .leaf (.two .leaf (.seq none .leaf (.two (.one (.loop [] .leaf)) (.seq none .leaf (.two (.seq none .leaf (.one (.loop [6] .leaf))) .leaf)))))))))))) .leaf))) Tryz.func54
def vH:bk 167:=aC (.seq none .leaf (.seq (some [4]) .leaf (.seq (some [0]) .leaf (.seq none (.seq (some [38]) .leaf .leaf) (.seq none .leaf (.seq none (.seq none .leaf (.one (.loop [6,5] (.seq none .leaf (.seq none (.one (.seq none (.seq (some [54]) .leaf .leaf) .leaf)) .leaf))))) (.seq (some [5]) .leaf .leaf))))))) Tryz.func167
def pR:bI 6:=aR (.seq none .leaf (.seq none .leaf (.seq none .leaf (.seq none (.seq none .leaf (.one (.loop [15,6,7] (.seq none .leaf (.seq none .leaf (.seq (some [6,7]) .leaf .leaf)))))) .leaf)))) Tryz.func6
def uM:bI 36:=aR (.seq none .leaf (.seq none (.seq none .leaf (.one (.loop [5] .leaf))) .leaf)) Tryz.func36
def kK:bI 27:=aR (.seq none .leaf (.seq none .leaf (.seq none (.seq none .leaf (.one (.loop [6,5] .leaf))) (.seq (some [5]) (.seq none .leaf (.two (.one (.loop [5] .leaf)) .leaf)) .leaf)))) Tryz.func27
def sY:bk 59:=aC (.seq none .leaf (.seq none .leaf (.seq none (.seq none .leaf (.one (.loop [8,3] .leaf))) .leaf))) Tryz.func59
def Fz:s4 85:=gX (.seq none .leaf (.seq none (.seq none .leaf (.one (.loop [9,3] .leaf))) .leaf)) Tryz.func85
def uK:bk 96:=aC (.seq none .leaf (.seq none (.seq none .leaf (.one (.loop [3] (.seq none .leaf (.seq none (.one (.seq (some [19]) .leaf .leaf)) .leaf))))) .leaf)) Tryz.func96
def i8:bI 147:=aR .leaf Tryz.func147
def yI:s4 10:=gX .leaf Tryz.func10
def sO:zb 58:=l8 .leaf Tryz.func58
def nS:bI 125:=aR (.seq none .leaf (.seq none (.seq none .leaf (.one (.seq (some [6]) .leaf (.two .leaf (.seq (some [18]) .leaf (.two .leaf (.seq (some [23]) .leaf .leaf))))))) .leaf)) Tryz.func125
def sk:n8 153:=ft .leaf Tryz.func153
def qA:bk 50:=aC .leaf Tryz.func50
def uF:bk 133:=aC .leaf Tryz.func133
def uL:bk 95:=aC .leaf Tryz.func95
def pz:bk 173:=aC (.seq none .leaf (.seq none (.seq (some [8]) .leaf .leaf) .leaf)) Tryz.func173
def pu:bI 53:=aR .leaf Tryz.func53
def pq:zb 84:=l8 .leaf Tryz.func84
def xM:bk 130:=aC .leaf Tryz.func130
def vo:bk 169:=aC .leaf Tryz.func169
end Go.Proofs.YtcpgagfdeflbkaaGreatDoor
