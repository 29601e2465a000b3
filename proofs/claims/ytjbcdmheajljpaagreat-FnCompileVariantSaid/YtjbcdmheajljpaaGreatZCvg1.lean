/- Made by program: the shallow forms, computed. -/
import Derived.Test.YtjbcdmheajljpaaGreatZCvgb
set_option maxRecDepth 100000
set_option maxHeartbeats 4000000
namespace Go.Proofs.YtjbcdmheajljpaaGreat
open Go
attribute [local irreducible] Run CondV aw aI sOp cw bP be dt dX bn Tryz.prog aB undef
def rY:cC 171:=a6 (.seq none .leaf (.seq none .leaf (.seq none (.one (.loop [6] .leaf)) (.seq none .leaf (.seq none .leaf (.seq none .leaf (.seq none .leaf (.seq none (.seq none .leaf (.one (.loop [9,7] (.seq none .leaf (.seq (some [7]) .leaf .leaf))))) .leaf)))))))) Tryz.func171
def mR:bC 78:=aG .leaf Tryz.func78
def sQ:bC 183:=aG (.seq none .leaf (.seq none .leaf (.seq none (.seq none .leaf (.one (.loop [4,3] (.seq none .leaf (.seq none (.one (.seq (some [3]) .leaf .leaf)) .leaf))))) .leaf))) Tryz.func183
def jK:bC 25:=aG .leaf Tryz.func25
def gV:cC 142:=a6 (.seq none .leaf (.seq none (.seq none .leaf (.one (.loop [8] .leaf))) .leaf)) Tryz.func142
def pV:bC 62:=aG .leaf Tryz.func62
def lV:bC 138:=aG .leaf Tryz.func138
def mQ:cC 51:=a6 .leaf Tryz.func51
def lQ:bC 61:=aG .leaf Tryz.func61
def iR:bC 105:=aG .leaf Tryz.func105
def gy:cC 158:=a6 .leaf Tryz.func158
end Go.Proofs.YtjbcdmheajljpaaGreat
