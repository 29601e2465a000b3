/- Made by program: the shallow forms, computed. -/
import Derived.Test.YtcpgagfdeflbkaaGreatDoorZSlgb
set_option maxRecDepth 100000
set_option maxHeartbeats 4000000
namespace Go.Proofs.YtcpgagfdeflbkaaGreatDoor
open Go
attribute [local irreducible] Run CondV aq aK sOp cw cn bF dR er bH Tryz.prog aB undef
def yL:ve 105:=jr (.seq none .leaf (.seq none .leaf (.seq none .leaf (.seq none (.one (.loop [11] (.seq none .leaf (.one (.seq none .leaf (.seq none (.seq (some [48]) .leaf .leaf) .leaf)))))) .leaf)))) Tryz.func105
def yE:bB 158:=aG (.seq none .leaf (.seq none (.one (.seq none .leaf (.two .leaf (.seq none .leaf (.two (.seq none .leaf (.seq none .leaf (.seq (some [4]) .leaf .leaf))) (.seq (some [37]) .leaf .leaf)))))) .leaf)) Tryz.func158
def iQ:ve 132:=jr (.seq none .leaf (.seq none .leaf (.seq none .leaf (.seq none (.seq (some [30]) .leaf .leaf) (.seq none .leaf (.seq none (.seq none .leaf (.one (.loop [42] .leaf))) .leaf)))))) Tryz.func132
def r6:bO 54:=aO (.seq none .leaf (.seq none .leaf (.seq (some []) (.seq none .leaf (.one (.seq none .leaf (.two .leaf (.seq none .leaf (.two .leaf (.seq none .leaf (.two .leaf (.seq none .leaf (.two (.one (.loop [] .leaf)) (.seq none .leaf (.two (.seq none .leaf (.one (.loop [6] .leaf))) .leaf)))))))))))) .leaf))) Tryz.func54
def ly:bB 49:=aG (.seq none .leaf (.seq none .leaf (.seq none .leaf (.seq none (.seq (some [23]) .leaf .leaf) (.seq none (.seq none .leaf (.one (.loop [6,4] .leaf))) .leaf))))) Tryz.func49
def ud:bO 166:=aO (.seq none .leaf (.seq none .leaf (.seq none (.seq none .leaf (.one (.loop [6] .leaf))) .leaf))) Tryz.func166
def yr:bO 36:=aO (.seq none .leaf (.seq none (.seq none .leaf (.one (.loop [5] .leaf))) .leaf)) Tryz.func36
def mS:bO 27:=aO (.seq none .leaf (.seq none .leaf (.seq none (.seq none .leaf (.one (.loop [6,5] .leaf))) (.seq (some [5]) (.seq none .leaf (.two (.one (.loop [5] .leaf)) .leaf)) .leaf)))) Tryz.func27
def yV:bO 62:=aO (.seq none .leaf (.seq none (.seq none .leaf (.one (.loop [9,1] (.seq none .leaf (.seq none .leaf (.seq (some [1]) .leaf .leaf)))))) .leaf)) Tryz.func62
def tu:bB 59:=aG (.seq none .leaf (.seq none .leaf (.seq none (.seq none .leaf (.one (.loop [8,3] .leaf))) .leaf))) Tryz.func59
def s7:bO 104:=aO (.seq none .leaf (.seq none .leaf (.seq none (.seq none .leaf (.one (.loop [6,5] (.seq none (.seq (some [16]) .leaf .leaf) .leaf)))) .leaf))) Tryz.func104
def EN:bB 17:=aG .leaf Tryz.func17
def jk:pr 46:=gM (.seq none .leaf (.seq none .leaf (.seq none (.seq none .leaf (.one (.loop [17] .leaf))) .leaf))) Tryz.func46
def tR:bO 103:=aO (.seq none .leaf (.seq none (.seq (some [12]) .leaf .leaf) (.seq none (.seq none .leaf (.one (.loop [5] .leaf))) .leaf))) Tryz.func103
def lf:ve 177:=jr .leaf Tryz.func177
def sm:bB 135:=aG .leaf Tryz.func135
def jm:bB 40:=aG .leaf Tryz.func40
def lz:bO 163:=aO (.seq none .leaf (.seq none (.seq none .leaf (.one (.loop [8] .leaf))) .leaf)) Tryz.func163
def rP:bO 45:=aO .leaf Tryz.func45
def xN:bB 80:=aG .leaf Tryz.func80
def pi:bB 122:=aG .leaf Tryz.func122
def kN:bB 16:=aG .leaf Tryz.func16
def qV:Br 78:=oJ .leaf Tryz.func78
def z0:bB 111:=aG .leaf Tryz.func111
def u7:Br 165:=oJ .leaf Tryz.func165
end Go.Proofs.YtcpgagfdeflbkaaGreatDoor
