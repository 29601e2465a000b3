/- Made by program: the shallow forms, computed. -/
import Derived.Test.YtjbcdmheajljpaaGreatZCvgb
set_option maxRecDepth 100000
set_option maxHeartbeats 4000000
namespace Go.Proofs.YtjbcdmheajljpaaGreat
open Go
attribute [local irreducible] Run CondV aw aI sOp cw bP be dt dX bn Tryz.prog aB undef
def ro:Iv 154:=Ik (.seq none .leaf (.seq none .leaf (.seq none .leaf (.seq none (.one (.loop [11] (.seq none .leaf (.one (.seq none .leaf (.seq none (.seq (some [48]) .leaf .leaf) .leaf)))))) .leaf)))) Tryz.func154
def rD:cC 74:=a6 (.seq none .leaf (.seq none .leaf (.seq none (.seq none .leaf (.one (.loop [6,5] (.seq none .leaf (.seq (some [5]) (.one (.seq none .leaf (.one (.seq none .leaf (.two .leaf (.seq (some [39]) .leaf .leaf)))))) .leaf))))) (.seq none (.seq none .leaf (.one (.loop [8,5] .leaf))) .leaf)))) Tryz.func74
def fG:bC 6:=aG (.seq none .leaf (.seq none .leaf (.seq none .leaf (.seq none .leaf (.seq none .leaf (.seq none (.seq none .leaf (.one (.loop [7] .leaf))) .leaf)))))) Tryz.func6
def oG:cC 83:=a6 (.seq none .leaf (.seq none .leaf (.seq none .leaf (.seq none .leaf (.seq none (.seq none .leaf (.one (.loop [20] .leaf))) .leaf))))) Tryz.func83
def i6:cC 144:=a6 (.seq none .leaf (.seq none .leaf (.seq none (.seq none .leaf (.one (.loop [18] (.seq none .leaf (.seq none .leaf (.seq (some []) .leaf .leaf)))))) (.seq none .leaf (.seq none .leaf (.seq none (.seq none .leaf (.one (.loop [47] (.seq none .leaf (.seq none .leaf (.seq (some []) .leaf .leaf)))))) .leaf)))))) Tryz.func144
def kI:cC 107:=a6 .leaf Tryz.func107
def jB:cC 69:=a6 (.seq none .leaf (.seq none (.seq none .leaf (.one (.loop [9] .leaf))) .leaf)) Tryz.func69
def wS:pP 100:=gW (.seq none .leaf (.seq none .leaf (.seq none (.seq (some [19]) .leaf .leaf) (.seq none (.seq none .leaf (.one (.seq none .leaf (.two .leaf (.seq none .leaf (.two .leaf (.seq none .leaf (.two (.seq none (.seq (some [70]) .leaf .leaf) .leaf) .leaf)))))))) .leaf)))) Tryz.func100
def io:bC 28:=aG .leaf Tryz.func28
def iy:bC 9:=aG .leaf Tryz.func9
def l9:xP 67:=mB .leaf Tryz.func67
def ly:cC 115:=a6 (.seq none .leaf (.seq none (.seq none .leaf (.one (.seq (some [6]) .leaf (.two .leaf (.seq (some [18]) .leaf (.two .leaf (.seq (some [23]) .leaf .leaf))))))) .leaf)) Tryz.func115
def i3:cC 165:=a6 (.seq none .leaf (.seq none (.seq none .leaf (.one (.loop [8] .leaf))) .leaf)) Tryz.func165
def lc:cC 46:=a6 .leaf Tryz.func46
def lp:bC 71:=aG .leaf Tryz.func71
def iU:bC 157:=aG .leaf Tryz.func157
def tW:bC 89:=aG .leaf Tryz.func89
def lO:bC 128:=aG .leaf Tryz.func128
def rg:bC 177:=aG .leaf Tryz.func177
end Go.Proofs.YtjbcdmheajljpaaGreat
