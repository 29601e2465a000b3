/- Made by program: the shallow forms, computed. -/
import Derived.Test.YtjbcdmheajljpaaGreatZRcgb
set_option maxRecDepth 100000
set_option maxHeartbeats 4000000
namespace Go.Proofs.YtjbcdmheajljpaaGreat
open Go
attribute [local irreducible] Run CondV aI bg sOp el cr cf fY gn co Tryz.prog aF undef
def nv:jn 80:=eX (.seq none .leaf (.seq none .leaf (.seq (some []) .leaf .leaf))) Tryz.func80
def nK:cB 55:=bd (.seq none .leaf (.seq none .leaf (.seq none (.seq none .leaf (.one (.loop [4] .leaf))) .leaf))) Tryz.func55
def CX:dc 121:=bv (.seq none .leaf (.seq none .leaf (.seq none (.seq none .leaf (.one (.loop [7,6] (.seq none .leaf (.seq (some [6]) (.one (.seq none .leaf (.one (.seq none .leaf (.two .leaf (.seq (some [45]) .leaf .leaf)))))) .leaf))))) .leaf))) Tryz.func121
def uT:jn 153:=eX (.seq none .leaf (.seq none .leaf (.seq none (.seq none .leaf (.one (.loop [8,7] (.seq none .leaf (.seq (some [7]) (.one (.seq none .leaf (.seq (some [40]) .leaf .leaf))) .leaf))))) .leaf))) Tryz.func153
def BG:cB 178:=bd (.seq none .leaf (.seq none .leaf (.seq none (.one (.loop [3] .leaf)) .leaf))) Tryz.func178
def Bv:cB 175:=bd (.seq none .leaf (.seq (some [4]) .leaf (.seq (some [0]) .leaf (.seq none (.seq (some [38]) .leaf .leaf) (.seq none .leaf (.seq none (.seq none .leaf (.one (.loop [6,5] (.seq none .leaf (.seq none (.one (.seq none (.seq (some [54]) .leaf .leaf) .leaf)) .leaf))))) (.seq (some [5]) .leaf .leaf))))))) Tryz.func175
def ye:dc 54:=bv (.seq none .leaf (.seq none .leaf (.seq none (.seq none .leaf (.one (.loop [5] .leaf))) .leaf))) Tryz.func54
def Bd:dc 118:=bv .leaf Tryz.func118
def yj:dc 126:=bv (.seq none .leaf (.seq (some [1]) (.seq (some [16]) .leaf .leaf) (.seq none (.seq none .leaf (.one (.loop [25,1] .leaf))) .leaf))) Tryz.func126
def pl:dc 69:=bv (.seq none .leaf (.seq none (.seq none .leaf (.one (.loop [9] .leaf))) .leaf)) Tryz.func69
def mi:cB 38:=bd .leaf Tryz.func38
def nV:dc 152:=bv (.seq none .leaf (.seq none (.one (.loop [] (.seq none (.seq (some [23]) .leaf .leaf) .leaf))) .leaf)) Tryz.func152
def mW:cB 8:=bd .leaf Tryz.func8
def jT:cB 17:=bd .leaf Tryz.func17
def CT:cB 183:=bd (.seq none .leaf (.seq none .leaf (.seq none (.seq none .leaf (.one (.loop [4,3] (.seq none .leaf (.seq none (.one (.seq (some [3]) .leaf .leaf)) .leaf))))) .leaf))) Tryz.func183
def si:dc 115:=bv (.seq none .leaf (.seq none (.seq none .leaf (.one (.seq (some [6]) .leaf (.two .leaf (.seq (some [18]) .leaf (.two .leaf (.seq (some [23]) .leaf .leaf))))))) .leaf)) Tryz.func115
def Cr:jn 36:=eX .leaf Tryz.func36
def xX:cB 20:=bd (.seq none .leaf (.seq (some [0]) .leaf .leaf)) Tryz.func20
def sc:cB 71:=bd .leaf Tryz.func71
def mc:H4 166:=vg .leaf Tryz.func166
def yL:BU 98:=nR .leaf Tryz.func98
def Gw:cB 143:=bd .leaf Tryz.func143
def yb:cB 188:=bd .leaf Tryz.func188
end Go.Proofs.YtjbcdmheajljpaaGreat
