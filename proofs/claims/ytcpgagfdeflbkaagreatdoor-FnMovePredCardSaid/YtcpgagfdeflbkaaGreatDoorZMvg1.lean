/- Made by program: the shallow forms, computed. -/
import Derived.Test.YtcpgagfdeflbkaaGreatDoorZMvgb
set_option maxRecDepth 100000
set_option maxHeartbeats 4000000
namespace Go.Proofs.YtcpgagfdeflbkaaGreatDoor
open Go
attribute [local irreducible] Run CondV ao aI sOp bN bJ bt dg dy bu Tryz.prog az undef
def vN:bI 156:=aR (.seq none .leaf (.seq none .leaf (.seq none (.one (.loop [6] .leaf)) (.seq none .leaf (.seq none .leaf (.seq none .leaf (.seq none .leaf (.seq none (.seq none .leaf (.one (.loop [9,7] (.seq none .leaf (.seq (some [7]) .leaf .leaf))))) .leaf)))))))) Tryz.func156
def uP:bk 129:=aC (.seq none .leaf (.seq none .leaf (.seq none (.seq none .leaf (.one (.loop [4,3] (.seq none .leaf (.seq none (.one (.seq (some [3]) .leaf .leaf)) .leaf))))) .leaf))) Tryz.func129
def rW:bk 21:=aC (.seq none .leaf (.seq none .leaf (.seq none (.seq none .leaf (.one (.loop [4,3] .leaf))) .leaf))) Tryz.func21
def lc:bk 9:=aC .leaf Tryz.func9
def mB:bI 29:=aR .leaf Tryz.func29
def jC:bI 145:=aR .leaf Tryz.func145
def mr:bk 30:=aC .leaf Tryz.func30
def mf:n8 160:=ft .leaf Tryz.func160
def pK:bk 135:=aC .leaf Tryz.func135
def k0:bk 41:=aC .leaf Tryz.func41
def oo:bI 181:=aR (.seq none .leaf (.seq none (.seq (some [13]) .leaf .leaf) .leaf)) Tryz.func181
def pL:bI 69:=aR .leaf Tryz.func69
def oi:bk 92:=aC .leaf Tryz.func92
def uD:bI 172:=aR .leaf Tryz.func172
def rF:zb 47:=l8 .leaf Tryz.func47
def y3:bk 82:=aC .leaf Tryz.func82
def yL:bk 121:=aC .leaf Tryz.func121
def si:bI 168:=aR .leaf Tryz.func168
end Go.Proofs.YtcpgagfdeflbkaaGreatDoor
