/- Made by program: the shallow forms, computed. -/
import Derived.Test.YtcpgagfdeflbkaaGreatDoorZSlgb
set_option maxRecDepth 100000
set_option maxHeartbeats 4000000
namespace Go.Proofs.YtcpgagfdeflbkaaGreatDoor
open Go
attribute [local irreducible] Run CondV aq aK sOp cw cn bF dR er bH Tryz.prog aB undef
def mR:bB 87:=aG (.seq none .leaf (.seq none .leaf (.seq none .leaf (.seq none .leaf (.seq none .leaf (.seq none .leaf (.seq none .leaf (.seq none .leaf (.seq none .leaf (.seq none .leaf (.seq none .leaf (.seq (some [8]) .leaf .leaf)))))))))))) Tryz.func87
def r5:bO 52:=aO (.seq none .leaf (.seq none .leaf (.seq (some []) (.seq none .leaf (.one (.seq none .leaf (.two .leaf (.seq none .leaf (.two .leaf (.seq none .leaf (.two (.one (.loop [] .leaf)) .leaf)))))))) .leaf))) Tryz.func52
def jp:bB 4:=aG (.seq none .leaf (.seq none .leaf (.seq none .leaf (.seq none .leaf (.seq none .leaf (.seq none (.seq (some [47]) .leaf .leaf) .leaf)))))) Tryz.func4
def r9:bO 65:=aO (.seq none .leaf (.seq none .leaf (.seq none (.seq none .leaf (.one (.loop [6,5] (.seq none .leaf (.seq (some [5]) .leaf .leaf))))) .leaf))) Tryz.func65
def yd:bB 176:=aG (.seq none .leaf (.seq none .leaf (.seq none .leaf (.seq none .leaf (.seq none (.seq none .leaf (.one (.loop [4,3] (.seq none .leaf (.seq none (.one (.seq (some [3]) .leaf .leaf)) .leaf))))) (.seq (some [3]) .leaf .leaf)))))) Tryz.func176
def p7:bB 42:=aG .leaf Tryz.func42
def oy:pr 57:=gM (.seq none .leaf (.seq none .leaf (.seq none .leaf (.seq none .leaf (.seq none (.one (.loop [9,10] .leaf)) .leaf))))) Tryz.func57
def oW:bB 118:=aG (.seq none .leaf (.seq none .leaf (.seq none .leaf (.seq none (.seq none .leaf (.one (.loop [11,4] .leaf))) .leaf)))) Tryz.func118
def og:bB 18:=aG (.seq none .leaf (.seq none .leaf (.seq none (.seq none .leaf (.one (.loop [8,3] .leaf))) .leaf))) Tryz.func18
def ql:bO 148:=aO (.seq none .leaf (.seq none (.seq none .leaf (.one (.loop [8] .leaf))) .leaf)) Tryz.func148
def BR:bB 20:=aG .leaf Tryz.func20
def kR:bB 19:=aG (.seq none .leaf (.seq none (.seq none .leaf (.one (.loop [3] (.seq none (.seq (some [11]) .leaf .leaf) .leaf)))) .leaf)) Tryz.func19
def sa:bB 117:=aG .leaf Tryz.func117
def vC:Br 58:=oJ .leaf Tryz.func58
def qi:bO 97:=aO (.seq none .leaf (.seq none (.seq none .leaf (.one (.seq (some [6]) .leaf (.two .leaf (.seq (some [18]) .leaf (.two .leaf (.seq (some [23]) .leaf .leaf))))))) .leaf)) Tryz.func97
def rK:bB 134:=aG .leaf Tryz.func134
def tB:bB 50:=aG .leaf Tryz.func50
def ur:bO 154:=aO .leaf Tryz.func154
def uu:bB 102:=aG .leaf Tryz.func102
def At:bB 179:=aG .leaf Tryz.func179
def oK:bB 60:=aG .leaf Tryz.func60
def lF:bB 91:=aG .leaf Tryz.func91
def yx:bB 139:=aG .leaf Tryz.func139
def yl:bB 180:=aG .leaf Tryz.func180
end Go.Proofs.YtcpgagfdeflbkaaGreatDoor
