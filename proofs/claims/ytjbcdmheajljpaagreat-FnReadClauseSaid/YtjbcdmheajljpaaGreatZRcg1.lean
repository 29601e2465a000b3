/- Made by program: the shallow forms, computed. -/
import Derived.Test.YtjbcdmheajljpaaGreatZRcgb
set_option maxRecDepth 100000
set_option maxHeartbeats 4000000
namespace Go.Proofs.YtjbcdmheajljpaaGreat
open Go
attribute [local irreducible] Run CondV aI bg sOp el cr cf fY gn co Tryz.prog aF undef
def wM:cB 86:=bd (.seq none .leaf (.seq none .leaf (.seq none (.seq (some [30]) .leaf .leaf) (.seq none .leaf (.seq (some [4]) .leaf (.seq (some [5]) .leaf .leaf)))))) Tryz.func86
def Ea:jn 119:=eX (.seq none .leaf (.seq none (.one (.seq none .leaf (.two .leaf (.seq (some [18]) .leaf .leaf)))) .leaf)) Tryz.func119
def xd:jn 162:=eX (.seq none .leaf (.seq none (.seq (some [23]) .leaf .leaf) (.seq none .leaf (.seq none (.seq (some [65]) .leaf .leaf) (.seq none (.seq (some [83]) .leaf .leaf) (.seq none (.seq (some [106]) .leaf .leaf) .leaf)))))) Tryz.func162
def ol:cB 99:=bd (.seq none .leaf (.seq none .leaf (.seq none .leaf (.seq none (.seq (some [23]) .leaf .leaf) (.seq none (.seq none .leaf (.one (.loop [6,4] .leaf))) .leaf))))) Tryz.func99
def BD:dc 10:=bv (.seq none .leaf (.seq none .leaf (.seq none (.seq none .leaf (.one (.loop [5] .leaf))) .leaf))) Tryz.func10
def zG:cB 127:=bd (.seq none .leaf (.seq none (.seq none .leaf (.one (.seq (some [4]) .leaf (.two .leaf (.seq (some [10]) .leaf (.two .leaf (.seq (some [13]) .leaf (.two .leaf (.seq (some [17]) .leaf (.two .leaf (.seq (some [20]) .leaf .leaf))))))))))) .leaf)) Tryz.func127
def rq:cB 95:=bd (.seq none .leaf (.seq none .leaf (.seq none (.seq none .leaf (.one (.loop [4,3] .leaf))) (.seq none .leaf (.seq none (.seq none .leaf (.one (.loop [6,5] .leaf))) .leaf))))) Tryz.func95
def wE:cB 65:=bd (.seq none .leaf (.seq none .leaf (.seq none (.seq none .leaf (.one (.loop [8,3] .leaf))) .leaf))) Tryz.func65
def zB:dc 94:=bv .leaf Tryz.func94
def Cu:cB 114:=bd (.seq none .leaf (.seq none (.seq none .leaf (.one (.loop [3] (.seq none .leaf (.seq none (.one (.seq (some [19]) .leaf .leaf)) .leaf))))) .leaf)) Tryz.func114
def wy:dc 112:=bv (.seq none .leaf (.seq none (.seq (some [12]) .leaf .leaf) (.seq none (.seq none .leaf (.one (.loop [5] .leaf))) .leaf))) Tryz.func112
def qO:jn 147:=eX .leaf Tryz.func147
def GB:dc 149:=bv (.seq none .leaf (.seq none (.seq none .leaf (.one (.loop [5] .leaf))) .leaf)) Tryz.func149
def yO:dc 169:=bv .leaf Tryz.func169
def xV:cB 62:=bd .leaf Tryz.func62
def B0:jn 139:=eX .leaf Tryz.func139
def uN:dc 51:=bv .leaf Tryz.func51
def Fg:cB 89:=bd .leaf Tryz.func89
def sO:cB 128:=bd .leaf Tryz.func128
def yn:cB 179:=bd .leaf Tryz.func179
end Go.Proofs.YtjbcdmheajljpaaGreat
