/- Made by program: the shallow forms, computed. -/
import Derived.Test.YtcpgagfdeflbkaaGreatDoorZMvgb
set_option maxRecDepth 100000
set_option maxHeartbeats 4000000
namespace Go.Proofs.YtcpgagfdeflbkaaGreatDoor
open Go
attribute [local irreducible] Run CondV ao aI sOp bN bJ bt dg dy bu Tryz.prog az undef
def jp:bk 75:=aC (.seq none .leaf (.seq none .leaf (.seq none (.seq none .leaf (.one (.loop [4] .leaf))) .leaf))) Tryz.func75
def iW:bk 44:=aC (.seq none .leaf (.seq none .leaf (.seq none (.seq none .leaf (.one (.loop [4] .leaf))) .leaf))) Tryz.func44
def mn:bI 159:=aR (.seq none .leaf (.seq (some []) (.one (.loop [] .leaf)) .leaf)) Tryz.func159
def vt:bI 76:=aR (.seq none .leaf (.seq none .leaf (.seq none .leaf (.seq none (.seq none .leaf (.one (.loop [7,6,5] (.seq none .leaf (.seq (some [6,5]) (.one (.seq (some [25]) .leaf .leaf)) .leaf))))) .leaf)))) Tryz.func76
def qL:Io 157:=Bq (.seq none .leaf (.seq none .leaf (.one (.loop [1,12] (.one (.seq none .leaf (.seq none .leaf (.seq none .leaf (.seq none (.seq (some [39]) .leaf .leaf) .leaf))))))))) Tryz.func157
def sW:bI 166:=aR (.seq none .leaf (.seq none .leaf (.seq none (.seq none .leaf (.one (.loop [6] .leaf))) .leaf))) Tryz.func166
def ry:bI 109:=aR (.seq none .leaf (.seq (some [1]) (.seq (some [16]) .leaf .leaf) (.seq none (.seq none .leaf (.one (.loop [25,1] .leaf))) .leaf))) Tryz.func109
def jy:bI 88:=aR (.seq none .leaf (.seq none .leaf (.seq none (.seq none .leaf (.one (.loop [13,6] .leaf))) .leaf))) Tryz.func88
def kR:bk 43:=aC (.seq none .leaf (.seq none (.seq none .leaf (.one (.loop [3] (.seq none (.seq (some [12]) .leaf .leaf) .leaf)))) .leaf)) Tryz.func43
def vh:bk 86:=aC (.seq none .leaf (.seq none .leaf (.seq none (.seq none .leaf (.one (.loop [8,3] .leaf))) .leaf))) Tryz.func86
def Bg:bk 17:=aC .leaf Tryz.func17
def gT:n8 46:=ft (.seq none .leaf (.seq none .leaf (.seq none (.seq none .leaf (.one (.loop [17] .leaf))) .leaf))) Tryz.func46
def uY:bk 37:=aC .leaf Tryz.func37
def mU:bk 100:=aC (.seq none .leaf (.seq none (.seq none .leaf (.one (.loop [6] (.seq none .leaf (.seq none .leaf (.seq none (.one (.seq none .leaf (.seq (some [18]) .leaf .leaf))) .leaf)))))) .leaf)) Tryz.func100
def fU:bI 70:=aR (.seq none .leaf (.seq none (.seq none .leaf (.one (.loop [8] .leaf))) .leaf)) Tryz.func70
def xt:bI 164:=aR (.seq none .leaf (.seq none (.seq none .leaf (.one (.loop [5] .leaf))) .leaf)) Tryz.func164
def vf:n8 83:=ft .leaf Tryz.func83
def sA:bI 154:=aR .leaf Tryz.func154
def r4:bk 102:=aC .leaf Tryz.func102
def xU:bk 179:=aC .leaf Tryz.func179
def mq:bk 60:=aC .leaf Tryz.func60
def dc:bI 90:=aR .leaf Tryz.func90
def sh_i_holds:bk 136:=aC .leaf Tryz.func136
def rT:bk 171:=aC .leaf Tryz.func171
end Go.Proofs.YtcpgagfdeflbkaaGreatDoor
