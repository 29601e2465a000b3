/- Made by program: the shallow forms, computed. -/
import Derived.Test.YtjbcdmheajljpaaGreatZRcgb
set_option maxRecDepth 100000
set_option maxHeartbeats 4000000
namespace Go.Proofs.YtjbcdmheajljpaaGreat
open Go
attribute [local irreducible] Run CondV aI bg sOp el cr cf fY gn co Tryz.prog aF undef
def pP:jn 122:=eX (.seq none .leaf (.seq none .leaf (.seq none (.one (.seq (some [14]) .leaf (.two .leaf (.seq none .leaf (.two .leaf (.seq none .leaf (.two .leaf (.seq (some [48]) .leaf .leaf)))))))) (.seq none (.seq none .leaf (.one (.loop [80] .leaf))) .leaf)))) Tryz.func122
def qP:jn 15:=eX (.seq none .leaf (.seq none (.seq (some [26]) .leaf .leaf) (.seq none .leaf (.seq none .leaf (.seq none (.seq none .leaf (.one (.loop [36] .leaf))) (.seq none .leaf (.seq none (.seq (some [70]) .leaf .leaf) (.seq none .leaf (.seq none (.seq none .leaf (.one (.loop [77,13] .leaf))) (.seq none .leaf (.seq none .leaf (.seq none (.seq (some [115]) .leaf .leaf) .leaf)))))))))))) Tryz.func15
def pH:dc 68:=bv (.seq none .leaf (.seq none (.seq none .leaf (.one (.loop [15,4] (.seq none .leaf (.seq none .leaf (.seq (some [4]) .leaf .leaf)))))) (.one (.loop [4] (.seq none .leaf (.one (.seq none .leaf (.seq none .leaf (.seq none .leaf (.seq none .leaf (.one (.loop [86,4] (.seq none .leaf (.seq none .leaf (.seq (some [4]) .leaf .leaf))))))))))))))) Tryz.func68
def BT:dc 74:=bv (.seq none .leaf (.seq none .leaf (.seq none (.seq none .leaf (.one (.loop [6,5] (.seq none .leaf (.seq (some [5]) (.one (.seq none .leaf (.one (.seq none .leaf (.two .leaf (.seq (some [39]) .leaf .leaf)))))) .leaf))))) (.seq none (.seq none .leaf (.one (.loop [8,5] .leaf))) .leaf)))) Tryz.func74
def og:dc 5:=bv (.seq none .leaf (.seq none (.seq (some [30]) .leaf .leaf) (.seq none .leaf (.seq none .leaf (.seq none .leaf (.seq none .leaf (.seq none .leaf (.seq none .leaf (.seq none (.seq (some [82]) .leaf .leaf) (.seq (some []) (.seq none .leaf (.two (.seq none .leaf (.seq (some [96]) .leaf .leaf)) .leaf)) .leaf)))))))))) Tryz.func5
def vh:dc 59:=bv (.seq none .leaf (.seq none .leaf (.seq (some []) (.seq none .leaf (.one (.seq none .leaf (.two .leaf (.seq none .leaf (.two .leaf (.seq none .leaf (.two .leaf (.seq none .leaf (.two (.one (.loop [] .leaf)) (.seq none .leaf (.two (.seq none .leaf (.one (.loop [6] .leaf))) .leaf)))))))))))) .leaf))) Tryz.func59
def ym:dc 83:=bv (.seq none .leaf (.seq none .leaf (.seq none .leaf (.seq none .leaf (.seq none (.seq none .leaf (.one (.loop [20] .leaf))) .leaf))))) Tryz.func83
def pt:dc 42:=bv (.seq none .leaf (.seq none .leaf (.seq none (.seq none .leaf (.one (.loop [13] .leaf))) .leaf))) Tryz.func42
def uI:cB 30:=bd .leaf Tryz.func30
def wU:dc 156:=bv (.seq none .leaf (.seq none .leaf (.seq none (.one (.loop [1,6] .leaf)) .leaf))) Tryz.func156
def Cp:cB 88:=bd (.seq none .leaf (.seq none (.seq none .leaf (.one (.seq (some [5]) .leaf .leaf))) .leaf)) Tryz.func88
def IC:jn 100:=eX (.seq none .leaf (.seq none .leaf (.seq none (.seq (some [19]) .leaf .leaf) (.seq none (.seq none .leaf (.one (.seq none .leaf (.two .leaf (.seq none .leaf (.two .leaf (.seq none .leaf (.two (.seq none (.seq (some [70]) .leaf .leaf) .leaf) .leaf)))))))) .leaf)))) Tryz.func100
def tf:dc 85:=bv (.seq none .leaf (.seq none (.seq none .leaf (.one (.loop [8] .leaf))) .leaf)) Tryz.func85
def sX:cB 56:=bd .leaf Tryz.func56
def IH:cB 79:=bd .leaf Tryz.func79
def CK:dc 133:=bv (.seq none .leaf (.seq none .leaf (.seq none (.seq none .leaf (.one (.loop [5] .leaf))) .leaf))) Tryz.func133
def yy:cB 140:=bd (.seq none .leaf (.seq none (.seq none .leaf (.one (.seq (some [5]) .leaf (.two .leaf (.seq (some [15]) .leaf (.two .leaf (.seq (some [18]) .leaf .leaf))))))) .leaf)) Tryz.func140
def Co:cB 160:=bd .leaf Tryz.func160
def uS:dc 57:=bv .leaf Tryz.func57
def Cq:cB 111:=bd .leaf Tryz.func111
def vm:cB 189:=bd .leaf Tryz.func189
def Fk:cB 117:=bd .leaf Tryz.func117
def y7:dc 176:=bv .leaf Tryz.func176
end Go.Proofs.YtjbcdmheajljpaaGreat
