/- Made by program: the shallow forms, computed. -/
import Derived.Test.YtjbcdmheajljpaaGreatZCvgb
set_option maxRecDepth 100000
set_option maxHeartbeats 4000000
namespace Go.Proofs.YtjbcdmheajljpaaGreat
open Go
attribute [local irreducible] Run CondV aw aI sOp cw bP be dt dX bn Tryz.prog aB undef
def i0:bC 97:=aG (.seq none .leaf (.seq none .leaf (.seq none (.seq none .leaf (.one (.loop [4] .leaf))) .leaf))) Tryz.func97
def iP:bC 55:=aG (.seq none .leaf (.seq none .leaf (.seq none (.seq none .leaf (.one (.loop [4] .leaf))) .leaf))) Tryz.func55
def tX:pP 119:=gW (.seq none .leaf (.seq none (.one (.seq none .leaf (.two .leaf (.seq (some [18]) .leaf .leaf)))) .leaf)) Tryz.func119
def re:bC 175:=aG (.seq none .leaf (.seq (some [4]) .leaf (.seq (some [0]) .leaf (.seq none (.seq (some [38]) .leaf .leaf) (.seq none .leaf (.seq none (.seq none .leaf (.one (.loop [6,5] (.seq none .leaf (.seq none (.one (.seq none (.seq (some [54]) .leaf .leaf) .leaf)) .leaf))))) (.seq (some [5]) .leaf .leaf))))))) Tryz.func175
def fZ:bC 3:=aG (.seq none .leaf (.seq none .leaf (.seq none .leaf (.seq none .leaf (.seq none .leaf (.seq none .leaf (.seq none .leaf (.seq none (.seq (some [49]) .leaf .leaf) .leaf)))))))) Tryz.func3
def mD:bC 30:=aG .leaf Tryz.func30
def rL:bC 164:=aG (.seq none .leaf (.seq none .leaf (.seq none (.seq none .leaf (.one (.loop [4,3] (.seq none .leaf (.seq none (.one (.seq (some [3]) .leaf .leaf)) .leaf))))) .leaf))) Tryz.func164
def rO:pP 120:=gW .leaf Tryz.func120
def lN:cC 85:=a6 (.seq none .leaf (.seq none (.seq none .leaf (.one (.loop [8] .leaf))) .leaf)) Tryz.func85
def l8:bC 56:=aG .leaf Tryz.func56
def iS:cC 148:=a6 .leaf Tryz.func148
def pw:bC 140:=aG (.seq none .leaf (.seq none (.seq none .leaf (.one (.seq (some [5]) .leaf (.two .leaf (.seq (some [15]) .leaf (.two .leaf (.seq (some [18]) .leaf .leaf))))))) .leaf)) Tryz.func140
def ow:cC 182:=a6 (.seq none .leaf (.seq none .leaf (.seq none (.seq (some [15]) .leaf .leaf) .leaf))) Tryz.func182
def mO:cC 57:=a6 .leaf Tryz.func57
def pt:bC 72:=aG .leaf Tryz.func72
def sw:cC 180:=a6 .leaf Tryz.func180
def vJ:bC 90:=aG .leaf Tryz.func90
def vH:bC 130:=aG .leaf Tryz.func130
def pK:bC 179:=aG .leaf Tryz.func179
end Go.Proofs.YtjbcdmheajljpaaGreat
