/- Made by program: the shallow forms, computed. -/
import Derived.Test.YtcpgagfdeflbkaaGreatDoorZSlgb
set_option maxRecDepth 100000
set_option maxHeartbeats 4000000
namespace Go.Proofs.YtcpgagfdeflbkaaGreatDoor
open Go
attribute [local irreducible] Run CondV aq aK sOp cw cn bF dR er bH Tryz.prog aB undef
def l9:pr 137:=gM (.seq none .leaf (.seq none .leaf (.seq none (.one (.seq (some [14]) .leaf (.two .leaf (.seq none .leaf (.two .leaf (.seq none .leaf (.two .leaf (.seq (some [48]) .leaf .leaf)))))))) (.seq none (.seq none .leaf (.one (.loop [80] .leaf))) .leaf)))) Tryz.func137
def xL:bO 108:=aO (.seq none .leaf (.seq none (.seq (some [13]) .leaf .leaf) (.seq none .leaf (.seq none .leaf (.seq none (.seq none .leaf (.one (.loop [6] .leaf))) .leaf))))) Tryz.func108
def vt:pr 127:=gM (.seq none .leaf (.seq none (.seq (some [23]) .leaf .leaf) (.seq none .leaf (.seq none (.seq (some [65]) .leaf .leaf) (.seq none (.seq (some [83]) .leaf .leaf) (.seq none (.seq (some [106]) .leaf .leaf) .leaf)))))) Tryz.func127
def p9:bO 11:=aO (.seq none .leaf (.seq none .leaf (.seq none (.seq none .leaf (.one (.loop [5] .leaf))) .leaf))) Tryz.func11
def oB:bO 114:=aO (.seq none .leaf (.seq none .leaf (.seq none (.seq none .leaf (.one (.loop [10,5] (.seq none .leaf (.seq none .leaf (.seq (some [5]) .leaf .leaf)))))) .leaf))) Tryz.func114
def lo:bO 13:=aO (.seq none .leaf (.seq none (.seq (some [17]) .leaf .leaf) (.seq none .leaf (.seq none .leaf (.seq none (.seq none .leaf (.one (.loop [23,7] (.seq none .leaf (.seq none .leaf (.seq (some [7]) .leaf .leaf)))))) .leaf))))) Tryz.func13
def Al:bB 138:=aG (.seq none .leaf (.seq none (.one (.seq none .leaf (.two .leaf (.seq none .leaf (.two .leaf (.seq (some [18]) .leaf .leaf)))))) (.seq none .leaf (.seq none .leaf (.seq none .leaf (.seq none .leaf (.seq none .leaf (.seq (some [7]) .leaf .leaf)))))))) Tryz.func138
def rX:bO 34:=aO (.seq none .leaf (.seq none .leaf (.seq none (.seq none .leaf (.one (.loop [6,5] (.seq none .leaf (.seq none (.one (.seq none .leaf (.seq none .leaf (.one (.loop [8,5] .leaf))))) .leaf))))) .leaf))) Tryz.func34
def uj:bB 21:=aG (.seq none .leaf (.seq none .leaf (.seq none (.seq none .leaf (.one (.loop [4,3] .leaf))) .leaf))) Tryz.func21
def Ig:ve 85:=jr (.seq none .leaf (.seq none (.seq none .leaf (.one (.loop [9,3] .leaf))) .leaf)) Tryz.func85
def ov:bO 29:=aO .leaf Tryz.func29
def od:bO 119:=aO (.seq none (.seq none .leaf (.one (.loop [13] .leaf))) .leaf) Tryz.func119
def oc:bB 30:=aG .leaf Tryz.func30
def qR:bB 100:=aG (.seq none .leaf (.seq none (.seq none .leaf (.one (.loop [6] (.seq none .leaf (.seq none .leaf (.seq none (.one (.seq none .leaf (.seq (some [18]) .leaf .leaf))) .leaf)))))) .leaf)) Tryz.func100
def ik:bO 70:=aO (.seq none .leaf (.seq none (.seq none .leaf (.one (.loop [8] .leaf))) .leaf)) Tryz.func70
def vO:bB 98:=aG (.seq none .leaf (.seq none (.seq none .leaf (.one (.seq (some [4]) .leaf (.two .leaf (.seq (some [14]) .leaf (.two .leaf (.seq (some [17]) .leaf .leaf))))))) .leaf)) Tryz.func98
def pT:bO 181:=aO (.seq none .leaf (.seq none (.seq (some [13]) .leaf .leaf) .leaf)) Tryz.func181
def sf:bO 69:=aO .leaf Tryz.func69
def yo:bB 95:=aG .leaf Tryz.func95
def rS:bB 173:=aG (.seq none .leaf (.seq none (.seq (some [8]) .leaf .leaf) .leaf)) Tryz.func173
def se:bO 53:=aO .leaf Tryz.func53
def dO:bO 90:=aO .leaf Tryz.func90
def sh_i_holds:bB 136:=aG .leaf Tryz.func136
def ui:bB 171:=aG .leaf Tryz.func171
end Go.Proofs.YtcpgagfdeflbkaaGreatDoor
