/- Made by program: the shallow forms, computed. -/
import Derived.Test.YtcpgagfdeflbkaaGreatDoorZSlgb
set_option maxRecDepth 100000
set_option maxHeartbeats 4000000
namespace Go.Proofs.YtcpgagfdeflbkaaGreatDoor
open Go
attribute [local irreducible] Run CondV aq aK sOp cw cn bF dR er bH Tryz.prog aB undef
def yg:bO 156:=aO (.seq none .leaf (.seq none .leaf (.seq none (.one (.loop [6] .leaf)) (.seq none .leaf (.seq none .leaf (.seq none .leaf (.seq none .leaf (.seq none (.seq none .leaf (.one (.loop [9,7] (.seq none .leaf (.seq (some [7]) .leaf .leaf))))) .leaf)))))))) Tryz.func156
def AF:LS 28:=EC (.seq none .leaf (.seq none .leaf (.seq none .leaf (.seq none (.seq none .leaf (.one (.loop [34] .leaf))) .leaf)))) Tryz.func28
def tW:bO 93:=aO (.seq none .leaf (.seq none .leaf (.seq none (.seq none .leaf (.one (.loop [12,5] .leaf))) .leaf))) Tryz.func93
def ym:bB 86:=aG (.seq none .leaf (.seq none .leaf (.seq none (.seq none .leaf (.one (.loop [8,3] .leaf))) .leaf))) Tryz.func86
def Hz:bB 73:=aG .leaf Tryz.func73
def uT:bO 94:=aO .leaf Tryz.func94
def ki:bO 32:=aO .leaf Tryz.func32
def xU:bB 24:=aG .leaf Tryz.func24
def y0:bB 188:=aG (.seq none .leaf (.seq none .leaf (.seq none .leaf (.seq none .leaf (.seq none (.one (.loop [0,3] .leaf)) .leaf))))) Tryz.func188
def CK:bO 164:=aO (.seq none .leaf (.seq none (.seq none .leaf (.one (.loop [5] .leaf))) .leaf)) Tryz.func164
def uw:Br 150:=oJ .leaf Tryz.func150
def y6:bB 133:=aG .leaf Tryz.func133
def tL:bB 72:=aG .leaf Tryz.func72
def kV:bB 107:=aG .leaf Tryz.func107
def r3:bB 183:=aG .leaf Tryz.func183
def qe:bB 71:=aG .leaf Tryz.func71
def yk:pr 106:=gM .leaf Tryz.func106
def p5:bB 151:=aG .leaf Tryz.func151
def Ci:bB 184:=aG .leaf Tryz.func184
end Go.Proofs.YtcpgagfdeflbkaaGreatDoor
