/- Made by program: the shallow forms, computed. -/
import Derived.Test.YtcpgagfdeflbkaaGreatDoorZSlgb
set_option maxRecDepth 100000
set_option maxHeartbeats 4000000
namespace Go.Proofs.YtcpgagfdeflbkaaGreatDoor
open Go
attribute [local irreducible] Run CondV aq aK sOp cw cn bF dR er bH Tryz.prog aB undef
def lE:bB 75:=aG (.seq none .leaf (.seq none .leaf (.seq none (.seq none .leaf (.one (.loop [4] .leaf))) .leaf))) Tryz.func75
def lr:bB 44:=aG (.seq none .leaf (.seq none .leaf (.seq none (.seq none .leaf (.one (.loop [4] .leaf))) .leaf))) Tryz.func44
def ot:bO 159:=aO (.seq none .leaf (.seq (some []) (.one (.loop [] .leaf)) .leaf)) Tryz.func159
def yy:bO 76:=aO (.seq none .leaf (.seq none .leaf (.seq none .leaf (.seq none (.seq none .leaf (.one (.loop [7,6,5] (.seq none .leaf (.seq (some [6,5]) (.one (.seq (some [25]) .leaf .leaf)) .leaf))))) .leaf)))) Tryz.func76
def yJ:bB 167:=aG (.seq none .leaf (.seq (some [4]) .leaf (.seq (some [0]) .leaf (.seq none (.seq (some [38]) .leaf .leaf) (.seq none .leaf (.seq none (.seq none .leaf (.one (.loop [6,5] (.seq none .leaf (.seq none (.one (.seq none (.seq (some [54]) .leaf .leaf) .leaf)) .leaf))))) (.seq (some [5]) .leaf .leaf))))))) Tryz.func167
def mB:bO 25:=aO (.seq none .leaf (.seq none .leaf (.seq none (.seq none .leaf (.one (.loop [6,5] .leaf))) (.seq (some [5]) (.seq none .leaf (.one (.seq none .leaf (.two (.one (.loop [5] .leaf)) .leaf)))) .leaf)))) Tryz.func25
def uP:bO 79:=aO (.seq none .leaf (.seq none .leaf (.seq none (.one (.loop [1,6] .leaf)) .leaf))) Tryz.func79
def oe:bB 51:=aG (.seq none .leaf (.seq none .leaf (.seq none .leaf (.seq none (.seq (some [25]) .leaf .leaf) (.seq none .leaf (.seq none (.seq none .leaf (.one (.loop [7,6] .leaf))) .leaf)))))) Tryz.func51
def BF:bO 61:=aO (.seq none .leaf (.seq none (.seq none .leaf (.one (.loop [5,1] (.seq none .leaf (.seq none (.one (.seq none .leaf (.one (.loop [21,1] .leaf)))) .leaf))))) .leaf)) Tryz.func61
def EL:pr 99:=gM (.seq none .leaf (.seq none .leaf (.seq none (.seq (some [19]) .leaf .leaf) (.seq none (.seq none .leaf (.one (.seq none .leaf (.two .leaf (.seq none .leaf (.two .leaf (.seq none .leaf (.two (.seq none (.seq (some [70]) .leaf .leaf) .leaf) .leaf)))))))) .leaf)))) Tryz.func99
def ml:bB 9:=aG .leaf Tryz.func9
def xO:bB 96:=aG (.seq none .leaf (.seq none (.seq none .leaf (.one (.loop [3] (.seq none .leaf (.seq none (.one (.seq (some [19]) .leaf .leaf)) .leaf))))) .leaf)) Tryz.func96
def kM:bO 147:=aO .leaf Tryz.func147
def ij:bB 12:=aG .leaf Tryz.func12
def Ex:bO 128:=aO (.seq none .leaf (.seq none .leaf (.seq (some [6]) .leaf (.seq none .leaf (.seq none .leaf (.seq none (.seq (some [33]) .leaf .leaf) (.seq (some [9]) .leaf (.seq none (.seq (some [54]) .leaf .leaf) (.seq (some [8]) .leaf .leaf))))))))) Tryz.func128
def vL:bB 124:=aG (.seq none .leaf (.seq none (.seq none .leaf (.one (.seq (some [5]) .leaf (.two .leaf (.seq (some [15]) .leaf (.two .leaf (.seq (some [18]) .leaf .leaf))))))) .leaf)) Tryz.func124
def uS:pr 153:=gM .leaf Tryz.func153
def yq:pr 83:=gM .leaf Tryz.func83
def vp:bB 23:=aG (.seq none .leaf (.seq (some [0]) .leaf .leaf)) Tryz.func23
def qF:bB 74:=aG .leaf Tryz.func74
def j7:bO 110:=aO .leaf Tryz.func110
def js:ve 186:=jr .leaf Tryz.func186
def Ev:bB 101:=aG .leaf Tryz.func101
def iV:bO 149:=aO .leaf Tryz.func149
def vJ:bB 182:=aG .leaf Tryz.func182
end Go.Proofs.YtcpgagfdeflbkaaGreatDoor
