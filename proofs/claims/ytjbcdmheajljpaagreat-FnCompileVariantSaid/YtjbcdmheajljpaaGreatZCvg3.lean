/- Made by program: the shallow forms, computed. -/
import Derived.Test.YtjbcdmheajljpaaGreatZCvgb
set_option maxRecDepth 100000
set_option maxHeartbeats 4000000
namespace Go.Proofs.YtjbcdmheajljpaaGreat
open Go
attribute [local irreducible] Run CondV aw aI sOp cw bP be dt dX bn Tryz.prog aB undef
def nW:cC 23:=a6 (.seq none .leaf (.seq none .leaf (.seq (some []) .leaf (.seq none (.seq none .leaf (.one (.loop [6] .leaf))) .leaf)))) Tryz.func23
def sR:cC 121:=a6 (.seq none .leaf (.seq none .leaf (.seq none (.seq none .leaf (.one (.loop [7,6] (.seq none .leaf (.seq (some [6]) (.one (.seq none .leaf (.one (.seq none .leaf (.two .leaf (.seq (some [45]) .leaf .leaf)))))) .leaf))))) .leaf))) Tryz.func121
def su:bC 178:=aG (.seq none .leaf (.seq none .leaf (.seq none (.one (.loop [3] .leaf)) .leaf))) Tryz.func178
def om:IB 172:=Id (.seq none .leaf (.seq none .leaf (.one (.loop [1,12] (.one (.seq none .leaf (.seq none .leaf (.seq none .leaf (.seq none (.seq (some [39]) .leaf .leaf) .leaf))))))))) Tryz.func172
def i5:bC 99:=aG (.seq none .leaf (.seq none .leaf (.seq none .leaf (.seq none (.seq (some [23]) .leaf .leaf) (.seq none (.seq none .leaf (.one (.loop [6,4] .leaf))) .leaf))))) Tryz.func99
def sN:cC 118:=a6 .leaf Tryz.func118
def ov:cC 126:=a6 (.seq none .leaf (.seq (some [1]) (.seq (some [16]) .leaf .leaf) (.seq none (.seq none .leaf (.one (.loop [25,1] .leaf))) .leaf))) Tryz.func126
def gT:bC 7:=aG .leaf Tryz.func7
def rj:bC 114:=aG (.seq none .leaf (.seq none (.seq none .leaf (.one (.loop [3] (.seq none .leaf (.seq none (.one (.seq (some [19]) .leaf .leaf)) .leaf))))) .leaf)) Tryz.func114
def lT:bC 66:=aG .leaf Tryz.func66
def rW:bC 151:=aG (.seq none .leaf (.seq none .leaf (.seq none .leaf (.seq none .leaf (.seq none (.one (.loop [0,3] .leaf)) .leaf))))) Tryz.func151
def oW:pP 168:=gW .leaf Tryz.func168
def pj:xP 159:=mB .leaf Tryz.func159
def oi:bC 20:=aG (.seq none .leaf (.seq (some [0]) .leaf .leaf)) Tryz.func20
def lA:bC 70:=aG .leaf Tryz.func70
def sM:pP 139:=gW .leaf Tryz.func139
def kO:bC 63:=aG .leaf Tryz.func63
def vA:bC 117:=aG .leaf Tryz.func117
def pk:cC 176:=a6 .leaf Tryz.func176
end Go.Proofs.YtjbcdmheajljpaaGreat
