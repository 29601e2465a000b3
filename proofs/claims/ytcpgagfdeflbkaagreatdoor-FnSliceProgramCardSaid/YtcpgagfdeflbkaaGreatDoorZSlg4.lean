/- Made by program: the shallow forms, computed. -/
import Derived.Test.YtcpgagfdeflbkaaGreatDoorZSlgb
set_option maxRecDepth 100000
set_option maxHeartbeats 4000000
namespace Go.Proofs.YtcpgagfdeflbkaaGreatDoor
open Go
attribute [local irreducible] Run CondV aq aK sOp cw cn bF dR er bH Tryz.prog aB undef
def oX:bO 112:=aO (.seq none .leaf (.seq none .leaf (.seq none .leaf (.seq none .leaf (.seq none (.one (.seq (some [115]) .leaf (.two .leaf (.seq (some [128]) .leaf .leaf)))) .leaf))))) Tryz.func112
def mD:bB 89:=aG (.seq none .leaf (.seq none (.one (.loop [] .leaf)) .leaf)) Tryz.func89
def jy:bO 146:=aO (.seq none .leaf (.seq none .leaf (.seq none .leaf (.seq none .leaf (.seq none (.seq none .leaf (.one (.loop [20] .leaf))) .leaf))))) Tryz.func146
def qL:bO 8:=aO (.seq none .leaf (.seq none .leaf (.seq none (.seq none .leaf (.one (.loop [5] .leaf))) .leaf))) Tryz.func8
def sj:ve 55:=jr .leaf Tryz.func55
def oR:bO 63:=aO (.seq none .leaf (.seq none (.seq none .leaf (.one (.loop [8] .leaf))) .leaf)) Tryz.func63
def xK:bO 66:=aO .leaf Tryz.func66
def za:bB 129:=aG (.seq none .leaf (.seq none .leaf (.seq none (.seq none .leaf (.one (.loop [4,3] (.seq none .leaf (.seq none (.one (.seq (some [3]) .leaf .leaf)) .leaf))))) .leaf))) Tryz.func129
def oE:bO 22:=aO .leaf Tryz.func22
def pR:ve 56:=jr .leaf Tryz.func56
def mW:bB 77:=aG (.seq none .leaf (.seq none .leaf (.seq none .leaf (.seq none .leaf (.seq none .leaf (.seq (some [5]) (.seq (some [29]) .leaf .leaf) (.seq none (.seq (some [54]) .leaf .leaf) .leaf))))))) Tryz.func77
def Az:bB 113:=aG .leaf Tryz.func113
def B0:ve 10:=jr .leaf Tryz.func10
def oU:pr 160:=gM .leaf Tryz.func160
def qz:bO 125:=aO (.seq none .leaf (.seq none (.seq none .leaf (.one (.seq (some [6]) .leaf (.two .leaf (.seq (some [18]) .leaf (.two .leaf (.seq (some [23]) .leaf .leaf))))))) .leaf)) Tryz.func125
def mT:bB 41:=aG .leaf Tryz.func41
def uL:bO 174:=aO (.seq none .leaf (.seq none .leaf (.seq none (.seq (some [15]) .leaf .leaf) .leaf))) Tryz.func174
def uf:bB 67:=aG .leaf Tryz.func67
def qI:bB 92:=aG .leaf Tryz.func92
def yA:bO 172:=aO .leaf Tryz.func172
def vR:Br 47:=oJ .leaf Tryz.func47
def rW:Br 84:=oJ .leaf Tryz.func84
def Bi:bB 130:=aG .leaf Tryz.func130
def yT:bB 169:=aG .leaf Tryz.func169
end Go.Proofs.YtcpgagfdeflbkaaGreatDoor
