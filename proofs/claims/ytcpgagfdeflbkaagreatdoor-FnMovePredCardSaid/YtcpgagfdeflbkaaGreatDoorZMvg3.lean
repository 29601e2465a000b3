/- Made by program: the shallow forms, computed. -/
import Derived.Test.YtcpgagfdeflbkaaGreatDoorZMvgb
set_option maxRecDepth 100000
set_option maxHeartbeats 4000000
namespace Go.Proofs.YtcpgagfdeflbkaaGreatDoor
open Go
attribute [local irreducible] Run CondV ao aI sOp bN bJ bt dg dy bu Tryz.prog az undef
def kA:bk 87:=aC (.seq none .leaf (.seq none .leaf (.seq none .leaf (.seq none .leaf (.seq none .leaf (.seq none .leaf (.seq none .leaf (.seq none .leaf (.seq none .leaf (.seq none .leaf (.seq none .leaf (.seq (some [8]) .leaf .leaf)))))))))))) Tryz.func87
def pj:bI 52:=aR (.seq none .leaf (.seq none .leaf (.seq (some []) (.seq none .leaf (.one (.seq none .leaf (.two .leaf (.seq none .leaf (.two .leaf (.seq none .leaf (.two (.one (.loop [] .leaf)) .leaf)))))))) .leaf))) Tryz.func52
def g7:bI 146:=aR (.seq none .leaf (.seq none .leaf (.seq none .leaf (.seq none .leaf (.seq none (.seq none .leaf (.one (.loop [20] .leaf))) .leaf))))) Tryz.func146
def oG:bI 8:=aR (.seq none .leaf (.seq none .leaf (.seq none (.seq none .leaf (.one (.loop [5] .leaf))) .leaf))) Tryz.func8
def l5:bI 114:=aR (.seq none .leaf (.seq none .leaf (.seq none (.seq none .leaf (.one (.loop [10,5] (.seq none .leaf (.seq none .leaf (.seq (some [5]) .leaf .leaf)))))) .leaf))) Tryz.func114
def rE:bI 79:=aR (.seq none .leaf (.seq none .leaf (.seq none (.one (.loop [1,6] .leaf)) .leaf))) Tryz.func79
def uI:bI 66:=aR .leaf Tryz.func66
def pn:bk 68:=aC (.seq none .leaf (.seq none .leaf (.seq none (.seq none .leaf (.one (.loop [4,3] .leaf))) .leaf))) Tryz.func68
def r7:bI 104:=aR (.seq none .leaf (.seq none .leaf (.seq none (.seq none .leaf (.one (.loop [6,5] (.seq none (.seq (some [16]) .leaf .leaf) .leaf)))) .leaf))) Tryz.func104
def EH:bk 73:=aC .leaf Tryz.func73
def kH:bk 15:=aC .leaf Tryz.func15
def jB:bI 131:=aR .leaf Tryz.func131
def u9:bk 24:=aC .leaf Tryz.func24
def vb:bk 175:=aC (.seq none .leaf (.seq none .leaf (.seq none (.seq none .leaf (.one (.loop [4,3] (.seq none .leaf (.seq none (.one (.seq (some [3]) .leaf .leaf)) .leaf))))) .leaf))) Tryz.func175
def gY:bk 40:=aC .leaf Tryz.func40
def qG:bI 174:=aR (.seq none .leaf (.seq none .leaf (.seq none (.seq (some [15]) .leaf .leaf) .leaf))) Tryz.func174
def qU:bk 67:=aC .leaf Tryz.func67
def oA:bI 81:=aR .leaf Tryz.func81
def uC:n8 123:=ft .leaf Tryz.func123
def eY:bI 39:=aR .leaf Tryz.func39
def ow:zb 78:=l8 .leaf Tryz.func78
def yi:bk 111:=aC .leaf Tryz.func111
def rH:zb 165:=l8 .leaf Tryz.func165
end Go.Proofs.YtcpgagfdeflbkaaGreatDoor
