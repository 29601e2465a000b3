/- Made by program: the shallow forms, computed. -/
import Derived.Test.YtjbcdmheajljpaaGreatZCvgb
set_option maxRecDepth 100000
set_option maxHeartbeats 4000000
namespace Go.Proofs.YtjbcdmheajljpaaGreat
open Go
attribute [local irreducible] Run CondV aw aI sOp cw bP be dt dX bn Tryz.prog aB undef
def oX:cC 146:=a6 (.seq none .leaf (.seq none .leaf (.seq none (.seq none .leaf (.one (.loop [7,6] (.seq none .leaf (.seq none (.one (.seq none .leaf (.seq (some [8]) .leaf .leaf))) .leaf))))) (.seq none .leaf (.seq none .leaf (.seq none .leaf (.seq none (.seq none .leaf (.one (.loop [10] (.seq none .leaf (.seq (some []) .leaf .leaf))))) .leaf))))))) Tryz.func146
def mW:bC 21:=aG (.seq none .leaf (.seq none .leaf (.seq none .leaf (.seq none .leaf (.seq none (.seq none .leaf (.one (.loop [5] .leaf))) .leaf))))) Tryz.func21
def pW:cC 73:=a6 (.seq none .leaf (.seq none (.seq none .leaf (.one (.loop [5] (.seq none .leaf (.seq (some []) (.one (.seq none .leaf (.seq none .leaf (.seq none (.seq none .leaf (.one (.loop [7] .leaf))) (.seq none .leaf (.seq (some [8]) .leaf .leaf)))))) .leaf))))) .leaf)) Tryz.func73
def sc:cC 136:=a6 (.seq none .leaf (.seq none .leaf (.seq none .leaf (.seq none (.seq none .leaf (.one (.loop [7,6,5] (.seq none .leaf (.seq (some [6,5]) (.one (.seq (some [25]) .leaf .leaf)) .leaf))))) .leaf)))) Tryz.func136
def my:cC 170:=a6 (.seq none .leaf (.seq none .leaf (.seq (some [6]) .leaf (.seq none .leaf (.seq none (.one (.loop [6] (.seq none (.seq (some [25]) .leaf .leaf) .leaf))) (.seq none .leaf (.seq none (.seq (some [50]) .leaf .leaf) (.seq (some [8]) .leaf .leaf)))))))) Tryz.func170
def rx:bC 184:=aG (.seq none .leaf (.seq none .leaf (.seq none .leaf (.seq none .leaf (.seq none (.seq none .leaf (.one (.loop [4,3] (.seq none .leaf (.seq none (.one (.seq (some [3]) .leaf .leaf)) .leaf))))) (.seq (some [3]) .leaf .leaf)))))) Tryz.func184
def kM:bC 41:=aG (.seq none .leaf (.seq none .leaf (.seq none .leaf (.seq none (.seq none .leaf (.one (.loop [11,4] .leaf))) .leaf)))) Tryz.func41
def nY:bC 65:=aG (.seq none .leaf (.seq none .leaf (.seq none (.seq none .leaf (.one (.loop [8,3] .leaf))) .leaf))) Tryz.func65
def jv:bC 109:=aG .leaf Tryz.func109
def ir:bC 8:=aG .leaf Tryz.func8
def l7:bC 101:=aG (.seq none .leaf (.seq none (.seq none .leaf (.one (.loop [6] (.seq none .leaf (.seq none .leaf (.seq none (.one (.seq none .leaf (.seq (some [18]) .leaf .leaf))) .leaf)))))) .leaf)) Tryz.func101
def l5:cC 141:=a6 (.seq none .leaf (.seq none (.seq none .leaf (.one (.seq (some [6]) .leaf (.two .leaf (.seq (some [18]) .leaf (.two .leaf (.seq (some [23]) .leaf .leaf))))))) .leaf)) Tryz.func141
def rS:pP 36:=gW .leaf Tryz.func36
def ot:cC 169:=a6 .leaf Tryz.func169
def rT:bC 111:=aG .leaf Tryz.func111
def mP:bC 189:=aG .leaf Tryz.func189
def fT:cC 104:=a6 .leaf Tryz.func104
def sr:pP 155:=gW .leaf Tryz.func155
end Go.Proofs.YtjbcdmheajljpaaGreat
