/- Made by program: the shallow forms, computed. -/
import Derived.Test.YtcpgagfdeflbkaaGreatDoorZSlgb
set_option maxRecDepth 100000
set_option maxHeartbeats 4000000
namespace Go.Proofs.YtcpgagfdeflbkaaGreatDoor
open Go
attribute [local irreducible] Run CondV aq aK sOp cw cn bF dR er bH Tryz.prog aB undef
def oA:LS 116:=EC (.seq none .leaf (.seq none .leaf (.seq none (.seq none .leaf (.one (.loop [30] (.seq none .leaf (.seq none .leaf (.seq none (.one (.seq none .leaf (.seq none .leaf (.seq none .leaf (.seq none .leaf (.seq none .leaf (.seq none .leaf (.seq (some []) .leaf (.seq none .leaf (.seq none .leaf (.seq none (.seq none .leaf (.one (.loop [120,17] .leaf))) .leaf))))))))))) .leaf)))))) .leaf))) Tryz.func116
def yZ:bB 170:=aG (.seq none .leaf (.seq none .leaf (.seq none (.one (.loop [3] .leaf)) .leaf))) Tryz.func170
def uc:LS 157:=EC (.seq none .leaf (.seq none .leaf (.one (.loop [1,12] (.one (.seq none .leaf (.seq none .leaf (.seq none .leaf (.seq none (.seq (some [39]) .leaf .leaf) .leaf))))))))) Tryz.func157
def rL:bO 155:=aO (.seq none .leaf (.seq none .leaf (.seq (some [6]) .leaf (.seq none .leaf (.seq none (.one (.loop [6] (.seq none (.seq (some [25]) .leaf .leaf) .leaf))) (.seq none .leaf (.seq none (.seq (some [50]) .leaf .leaf) (.seq (some [8]) .leaf .leaf)))))))) Tryz.func155
def lC:bO 14:=aO (.seq none .leaf (.seq none (.seq (some [16]) .leaf .leaf) (.seq none .leaf (.seq none .leaf (.seq none (.seq none .leaf (.one (.loop [8,7] (.seq none .leaf (.seq (some [7]) .leaf .leaf))))) .leaf))))) Tryz.func14
def ul:bO 109:=aO (.seq none .leaf (.seq (some [1]) (.seq (some [16]) .leaf .leaf) (.seq none (.seq none .leaf (.one (.loop [25,1] .leaf))) .leaf))) Tryz.func109
def ld:bO 88:=aO (.seq none .leaf (.seq none .leaf (.seq none (.seq none .leaf (.one (.loop [13,6] .leaf))) .leaf))) Tryz.func88
def rN:bO 35:=aO (.seq none .leaf (.seq none (.seq none .leaf (.one (.loop [5,0] (.seq none .leaf (.seq (some [0]) .leaf .leaf))))) .leaf)) Tryz.func35
def mv:bB 43:=aG (.seq none .leaf (.seq none (.seq none .leaf (.one (.loop [3] (.seq none (.seq (some [12]) .leaf .leaf) .leaf)))) .leaf)) Tryz.func43
def tE:bO 31:=aO (.seq none .leaf (.seq none (.seq (some [12]) .leaf .leaf) .leaf)) Tryz.func31
def pX:bB 26:=aG .leaf Tryz.func26
def kW:bO 145:=aO .leaf Tryz.func145
def lA:bO 131:=aO .leaf Tryz.func131
def oH:bB 33:=aG (.seq none .leaf (.seq none (.seq none .leaf (.one (.loop [3] (.seq none (.seq (some [11]) .leaf .leaf) .leaf)))) .leaf)) Tryz.func33
def yt:bB 175:=aG (.seq none .leaf (.seq none .leaf (.seq none (.seq none .leaf (.one (.loop [4,3] (.seq none .leaf (.seq none (.one (.seq (some [3]) .leaf .leaf)) .leaf))))) .leaf))) Tryz.func175
def BV:bB 126:=aG .leaf Tryz.func126
def eG:bO 120:=aO (.seq none .leaf (.seq none (.seq none .leaf (.one (.loop [8] .leaf))) .leaf)) Tryz.func120
def qE:bB 64:=aG .leaf Tryz.func64
def pO:bO 81:=aO .leaf Tryz.func81
def ye:pr 123:=gM .leaf Tryz.func123
def gq:bO 39:=aO .leaf Tryz.func39
def Cr:bB 82:=aG .leaf Tryz.func82
def AY:bB 121:=aG .leaf Tryz.func121
def tZ:bO 168:=aO .leaf Tryz.func168
end Go.Proofs.YtcpgagfdeflbkaaGreatDoor
