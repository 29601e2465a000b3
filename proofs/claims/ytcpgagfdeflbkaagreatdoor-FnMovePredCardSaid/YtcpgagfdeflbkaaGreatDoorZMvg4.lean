/- Made by program: the shallow forms, computed. -/
import Derived.Test.YtcpgagfdeflbkaaGreatDoorZMvgb
set_option maxRecDepth 100000
set_option maxHeartbeats 4000000
namespace Go.Proofs.YtcpgagfdeflbkaaGreatDoor
open Go
attribute [local irreducible] Run CondV ao aI sOp bN bJ bt dg dy bu Tryz.prog az undef
def mc:bI 112:=aR (.seq none .leaf (.seq none .leaf (.seq none .leaf (.seq none .leaf (.seq none (.one (.seq (some [115]) .leaf (.two .leaf (.seq (some [128]) .leaf .leaf)))) .leaf))))) Tryz.func112
def kO:bk 89:=aC (.seq none .leaf (.seq none (.one (.loop [] .leaf)) .leaf)) Tryz.func89
def mD:bI 3:=aR (.seq none .leaf (.seq none (.seq (some [24]) .leaf .leaf) (.seq none .leaf (.seq none .leaf (.seq none .leaf (.seq none (.seq (some [54]) .leaf .leaf) .leaf)))))) Tryz.func3
def om:bI 11:=aR (.seq none .leaf (.seq none .leaf (.seq none (.seq none .leaf (.one (.loop [5] .leaf))) .leaf))) Tryz.func11
def vz:bk 176:=aC (.seq none .leaf (.seq none .leaf (.seq none .leaf (.seq none .leaf (.seq none (.seq none .leaf (.one (.loop [4,3] (.seq none .leaf (.seq none (.one (.seq (some [3]) .leaf .leaf)) .leaf))))) (.seq (some [3]) .leaf .leaf)))))) Tryz.func176
def nq:bk 42:=aC .leaf Tryz.func42
def l6:n8 57:=ft (.seq none .leaf (.seq none .leaf (.seq none .leaf (.seq none .leaf (.seq none (.one (.loop [9,10] .leaf)) .leaf))))) Tryz.func57
def my:bI 22:=aR .leaf Tryz.func22
def nw:bI 148:=aR (.seq none .leaf (.seq none (.seq none .leaf (.one (.loop [8] .leaf))) .leaf)) Tryz.func148
def oc:bk 26:=aC .leaf Tryz.func26
def mt:bI 119:=aR (.seq none (.seq none .leaf (.one (.loop [13] .leaf))) .leaf) Tryz.func119
def sD:bI 103:=aR (.seq none .leaf (.seq none (.seq (some [12]) .leaf .leaf) (.seq none (.seq none .leaf (.one (.loop [5] .leaf))) .leaf))) Tryz.func103
def jd:s4 177:=gX .leaf Tryz.func177
def ru:bk 124:=aC (.seq none .leaf (.seq none (.seq none .leaf (.one (.seq (some [5]) .leaf (.two .leaf (.seq (some [15]) .leaf (.two .leaf (.seq (some [18]) .leaf .leaf))))))) .leaf)) Tryz.func124
def pP:bk 134:=aC .leaf Tryz.func134
def jz:bI 163:=aR (.seq none .leaf (.seq none (.seq none .leaf (.one (.loop [8] .leaf))) .leaf)) Tryz.func163
def pt:bI 45:=aR .leaf Tryz.func45
def mS:bk 74:=aC .leaf Tryz.func74
def im:bI 110:=aR .leaf Tryz.func110
def gV:s4 186:=gX .leaf Tryz.func186
def Be:bk 101:=aC .leaf Tryz.func101
def gy:bI 149:=aR .leaf Tryz.func149
def qS:bk 182:=aC .leaf Tryz.func182
end Go.Proofs.YtcpgagfdeflbkaaGreatDoor
