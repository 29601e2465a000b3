/- Made by program: the shallow forms, computed. -/
import Derived.Test.YtjbcdmheajljpaaGreatZRcgb
set_option maxRecDepth 100000
set_option maxHeartbeats 4000000
namespace Go.Proofs.YtjbcdmheajljpaaGreat
open Go
attribute [local irreducible] Run CondV aI bg sOp el cr cf fY gn co Tryz.prog aF undef
def xm:jn 131:=eX (.seq none .leaf (.seq none .leaf (.seq none .leaf (.seq none (.seq (some [28]) .leaf .leaf) (.seq none .leaf (.seq none .leaf (.seq none (.seq (some [76]) .leaf .leaf) (.seq none (.seq none .leaf (.one (.loop [7] .leaf))) .leaf)))))))) Tryz.func131
def pS:dc 110:=bv (.seq none .leaf (.seq none .leaf (.seq none (.seq none .leaf (.one (.loop [18] (.seq none .leaf (.seq none .leaf (.seq (some []) .leaf .leaf)))))) (.seq none .leaf (.seq (some [9]) .leaf .leaf))))) Tryz.func110
def j4:dc 124:=bv (.seq none .leaf (.seq none .leaf (.seq none (.seq none .leaf (.one (.loop [13,6] (.seq none .leaf (.seq none .leaf (.seq (some [6]) .leaf .leaf)))))) .leaf))) Tryz.func124
def Fw:H4 52:=vg (.seq none .leaf (.seq none (.seq none .leaf (.one (.seq (some [20]) .leaf (.two (.seq none .leaf (.seq none .leaf (.seq (some []) .leaf (.seq (some []) .leaf .leaf)))) (.seq (some [53]) .leaf (.two (.seq none .leaf (.seq none .leaf (.seq (some []) .leaf .leaf))) (.seq none .leaf (.two .leaf (.seq (some [93]) .leaf .leaf))))))))) .leaf)) Tryz.func52
def lB:H4 81:=vg (.seq none .leaf (.seq none .leaf (.seq none .leaf (.seq none (.seq (some [30]) .leaf .leaf) (.seq none .leaf (.seq none (.seq none .leaf (.one (.loop [42] .leaf))) .leaf)))))) Tryz.func81
def B7:dc 136:=bv (.seq none .leaf (.seq none .leaf (.seq none .leaf (.seq none (.seq none .leaf (.one (.loop [7,6,5] (.seq none .leaf (.seq (some [6,5]) (.one (.seq (some [25]) .leaf .leaf)) .leaf))))) .leaf)))) Tryz.func136
def pD:cB 87:=bd (.seq none .leaf (.seq none .leaf (.seq none .leaf (.seq none .leaf (.seq (some [3]) .leaf (.seq (some [3]) (.seq (some [29]) .leaf .leaf) (.seq (some [3]) (.seq (some [41]) .leaf .leaf) .leaf))))))) Tryz.func87
def Bo:dc 134:=bv (.seq none .leaf (.seq none (.seq none .leaf (.two (.seq none (.seq none .leaf (.one (.loop [5] .leaf))) .leaf) .leaf)) (.seq none (.seq none .leaf (.one (.loop [6,0] .leaf))) .leaf))) Tryz.func134
def BP:cB 184:=bd (.seq none .leaf (.seq none .leaf (.seq none .leaf (.seq none .leaf (.seq none (.seq none .leaf (.one (.loop [4,3] (.seq none .leaf (.seq none (.one (.seq (some [3]) .leaf .leaf)) .leaf))))) (.seq (some [3]) .leaf .leaf)))))) Tryz.func184
def CV:jn 93:=eX (.seq none .leaf (.seq none (.seq (some [15]) .leaf .leaf) .leaf)) Tryz.func93
def C1:cB 164:=bd (.seq none .leaf (.seq none .leaf (.seq none (.seq none .leaf (.one (.loop [4,3] (.seq none .leaf (.seq none (.one (.seq (some [3]) .leaf .leaf)) .leaf))))) .leaf))) Tryz.func164
def BB:cB 82:=bd (.seq none .leaf (.seq none .leaf (.seq none (.seq none .leaf (.one (.loop [8,3] .leaf))) .leaf))) Tryz.func82
def pv:cB 109:=bd .leaf Tryz.func109
def l8:jn 44:=eX (.seq none .leaf (.seq none .leaf (.seq none (.seq none .leaf (.one (.loop [17] .leaf))) .leaf))) Tryz.func44
def sa:cB 66:=bd .leaf Tryz.func66
def rZ:cB 101:=bd (.seq none .leaf (.seq none (.seq none .leaf (.one (.loop [6] (.seq none .leaf (.seq none .leaf (.seq none (.one (.seq none .leaf (.seq (some [18]) .leaf .leaf))) .leaf)))))) .leaf)) Tryz.func101
def zH:jn 168:=eX .leaf Tryz.func168
def gC:dc 142:=bv (.seq none .leaf (.seq none (.seq none .leaf (.one (.loop [8] .leaf))) .leaf)) Tryz.func142
def nD:dc 40:=bv .leaf Tryz.func40
def y6:cB 72:=bd .leaf Tryz.func72
def Bw:dc 180:=bv .leaf Tryz.func180
def In:cB 102:=bd .leaf Tryz.func102
def zu:BU 150:=nR .leaf Tryz.func150
end Go.Proofs.YtjbcdmheajljpaaGreat
