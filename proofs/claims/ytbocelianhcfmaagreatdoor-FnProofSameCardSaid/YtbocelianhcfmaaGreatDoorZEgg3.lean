/- Made by program: the shallow forms, computed. -/
import Derived.Test.YtbocelianhcfmaaGreatDoorZEggb
set_option maxRecDepth 100000
set_option maxHeartbeats 4000000
namespace Go.Proofs.YtbocelianhcfmaaGreatDoor
open Go
attribute [local irreducible] Run CondV ar aI sOp cq bI bi dF ed bx Tryz.prog aB undef
def kF:fx 69:=cM (.seq none .leaf (.seq none .leaf (.seq none .leaf (.seq (some [8]) .leaf (.seq none .leaf (.seq (some [10]) .leaf (.seq none (.seq (some [69]) .leaf .leaf) .leaf))))))) Tryz.func69
def wc:LK 118:=JL (.seq none .leaf (.seq none .leaf (.seq none .leaf (.seq none (.one (.loop [11] (.seq none .leaf (.one (.seq none .leaf (.seq none (.seq (some [48]) .leaf .leaf) .leaf)))))) .leaf)))) Tryz.func118
def jt:bq 4:=aE (.seq none .leaf (.seq none .leaf (.seq none .leaf (.seq none .leaf (.seq none (.seq (some [25]) .leaf .leaf) (.seq none .leaf (.seq none (.seq none .leaf (.one (.loop [6,5] (.seq none .leaf (.seq (some [5]) .leaf .leaf))))) .leaf))))))) Tryz.func4
def pP:fx 88:=cM (.seq none .leaf (.seq none .leaf (.seq none .leaf (.seq none .leaf (.seq none .leaf (.seq none (.seq none .leaf (.one (.loop [13,10,1] (.seq none (.seq (some [46]) .leaf .leaf) .leaf)))) .leaf)))))) Tryz.func88
def tf:Oq 178:=Ou (.seq none .leaf (.seq none .leaf (.one (.loop [1,12] (.one (.seq none .leaf (.seq none .leaf (.seq none .leaf (.seq none (.seq (some [39]) .leaf .leaf) .leaf))))))))) Tryz.func178
def vN:cb 127:=aY (.seq none .leaf (.seq none (.seq none .leaf (.two (.seq none (.seq none .leaf (.one (.loop [5] .leaf))) .leaf) .leaf)) (.seq none (.seq none .leaf (.one (.loop [6,0] .leaf))) .leaf))) Tryz.func127
def pL:cb 30:=aY (.seq none .leaf (.seq none (.seq (some [29]) .leaf .leaf) (.seq none (.seq none .leaf (.one (.loop [5] .leaf))) .leaf))) Tryz.func30
def sZ:cb 29:=aY (.seq none .leaf (.seq none .leaf (.seq none (.seq none .leaf (.one (.loop [6,5] (.seq none (.seq (some [16]) .leaf .leaf) .leaf)))) .leaf))) Tryz.func29
def rW:bq 193:=aE (.seq none .leaf (.seq none .leaf (.seq none .leaf (.seq none (.seq none .leaf (.one (.loop [5,4] (.seq none .leaf (.seq (some [4]) .leaf .leaf))))) .leaf)))) Tryz.func193
def lN:bq 7:=aE .leaf Tryz.func7
def pA:bq 70:=aE .leaf Tryz.func70
def sr:cb 90:=aY (.seq none .leaf (.seq none .leaf (.seq none (.seq none .leaf (.one (.loop [5,0] .leaf))) .leaf))) Tryz.func90
def sM:bq 68:=aE (.seq none .leaf (.seq none (.seq none .leaf (.one (.seq (some [5]) .leaf (.two .leaf (.seq (some [15]) .leaf (.two .leaf (.seq (some [18]) .leaf .leaf))))))) .leaf)) Tryz.func68
def il:cb 78:=aY (.seq none .leaf (.seq none (.seq none .leaf (.one (.loop [8] .leaf))) .leaf)) Tryz.func78
def tS:Gk 169:=wS .leaf Tryz.func169
def oK:bq 14:=aE .leaf Tryz.func14
def nq:bq 49:=aE .leaf Tryz.func49
def uq:bq 85:=aE .leaf Tryz.func85
def vE:bq 154:=aE .leaf Tryz.func154
def zh:bq 77:=aE .leaf Tryz.func77
def rI:cb 128:=aY .leaf Tryz.func128
def yU:cb 196:=aY .leaf Tryz.func196
end Go.Proofs.YtbocelianhcfmaaGreatDoor
