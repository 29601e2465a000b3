/- Made by program: the shallow forms, computed. -/
import Derived.Test.YtjbcdmheajljpaaGreatZCvgb
set_option maxRecDepth 100000
set_option maxHeartbeats 4000000
namespace Go.Proofs.YtjbcdmheajljpaaGreat
open Go
attribute [local irreducible] Run CondV aw aI sOp cw bP be dt dX bn Tryz.prog aB undef
def jF:cC 68:=a6 (.seq none .leaf (.seq none (.seq none .leaf (.one (.loop [15,4] (.seq none .leaf (.seq none .leaf (.seq (some [4]) .leaf .leaf)))))) (.one (.loop [4] (.seq none .leaf (.one (.seq none .leaf (.seq none .leaf (.seq none .leaf (.seq none .leaf (.one (.loop [86,4] (.seq none .leaf (.seq none .leaf (.seq (some [4]) .leaf .leaf))))))))))))))) Tryz.func68
def rQ:bC 173:=aG (.seq none .leaf (.seq none (.one (.seq none .leaf (.two .leaf (.seq none .leaf (.two (.seq none .leaf (.seq none .leaf (.seq (some [4]) .leaf .leaf))) (.seq (some [37]) .leaf .leaf)))))) .leaf)) Tryz.func173
def sd:cC 58:=a6 (.seq none .leaf (.seq none (.seq (some [13]) .leaf .leaf) (.seq none .leaf (.seq none .leaf (.seq none (.seq none .leaf (.one (.loop [6] .leaf))) .leaf))))) Tryz.func58
def m8:cC 59:=a6 (.seq none .leaf (.seq none .leaf (.seq (some []) (.seq none .leaf (.one (.seq none .leaf (.two .leaf (.seq none .leaf (.two .leaf (.seq none .leaf (.two .leaf (.seq none .leaf (.two (.one (.loop [] .leaf)) (.seq none .leaf (.two (.seq none .leaf (.one (.loop [6] .leaf))) .leaf)))))))))))) .leaf))) Tryz.func59
def sA:cC 10:=a6 (.seq none .leaf (.seq none .leaf (.seq none (.seq none .leaf (.one (.loop [5] .leaf))) .leaf))) Tryz.func10
def mM:bC 27:=aG .leaf Tryz.func27
def py:xP 75:=mB (.seq none .leaf (.seq none .leaf (.seq none (.seq none .leaf (.one (.loop [2] .leaf))) .leaf))) Tryz.func75
def jx:bC 29:=aG (.seq none .leaf (.seq none (.seq none .leaf (.one (.loop [3] (.seq none (.seq (some [12]) .leaf .leaf) .leaf)))) .leaf)) Tryz.func29
def o4:cC 113:=a6 (.seq none .leaf (.seq none .leaf (.seq none (.seq none .leaf (.one (.loop [6,5] (.seq none (.seq (some [16]) .leaf .leaf) .leaf)))) .leaf))) Tryz.func113
def jr:bC 137:=aG (.seq none .leaf (.seq none .leaf (.seq none .leaf (.seq none .leaf (.seq none .leaf (.seq (some [5]) (.seq (some [29]) .leaf .leaf) (.seq none (.seq (some [54]) .leaf .leaf) .leaf))))))) Tryz.func137
def oQ:cC 112:=a6 (.seq none .leaf (.seq none (.seq (some [12]) .leaf .leaf) (.seq none (.seq none .leaf (.one (.loop [5] .leaf))) .leaf))) Tryz.func112
def u9:cC 149:=a6 (.seq none .leaf (.seq none (.seq none .leaf (.one (.loop [5] .leaf))) .leaf)) Tryz.func149
def l2:cC 187:=a6 (.seq none .leaf (.seq none (.seq (some [13]) .leaf .leaf) .leaf)) Tryz.func187
def rJ:bC 60:=aG .leaf Tryz.func60
def oN:bC 103:=aG .leaf Tryz.func103
def m7:bC 181:=aG (.seq none .leaf (.seq none (.seq (some [8]) .leaf .leaf) .leaf)) Tryz.func181
def ox:xP 98:=mB .leaf Tryz.func98
def tD:bC 143:=aG .leaf Tryz.func143
def r8:bC 186:=aG .leaf Tryz.func186
end Go.Proofs.YtjbcdmheajljpaaGreat
