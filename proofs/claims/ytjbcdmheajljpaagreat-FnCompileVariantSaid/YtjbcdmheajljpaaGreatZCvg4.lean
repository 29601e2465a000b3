/- Made by program: the shallow forms, computed. -/
import Derived.Test.YtjbcdmheajljpaaGreatZCvgb
set_option maxRecDepth 100000
set_option maxHeartbeats 4000000
namespace Go.Proofs.YtjbcdmheajljpaaGreat
open Go
attribute [local irreducible] Run CondV aw aI sOp cw bP be dt dX bn Tryz.prog aB undef
def jL:cC 110:=a6 (.seq none .leaf (.seq none .leaf (.seq none (.seq none .leaf (.one (.loop [18] (.seq none .leaf (.seq none .leaf (.seq (some []) .leaf .leaf)))))) (.seq none .leaf (.seq (some [9]) .leaf .leaf))))) Tryz.func110
def gf:cC 108:=a6 .leaf Tryz.func108
def m9:cC 24:=a6 (.seq none .leaf (.seq none .leaf (.seq (some []) (.seq none .leaf (.one (.seq none .leaf (.two .leaf (.seq none .leaf (.two .leaf (.seq none .leaf (.two (.one (.loop [] .leaf)) .leaf)))))))) .leaf))) Tryz.func24
def pB:pP 162:=gW (.seq none .leaf (.seq none (.seq (some [23]) .leaf .leaf) (.seq none .leaf (.seq none (.seq (some [65]) .leaf .leaf) (.seq none (.seq (some [83]) .leaf .leaf) (.seq none (.seq (some [106]) .leaf .leaf) .leaf)))))) Tryz.func162
def pM:cC 174:=a6 (.seq none .leaf (.seq none .leaf (.seq none (.seq none .leaf (.one (.loop [6] .leaf))) .leaf))) Tryz.func174
def oB:cC 156:=a6 (.seq none .leaf (.seq none .leaf (.seq none (.one (.loop [1,6] .leaf)) .leaf))) Tryz.func156
def lb:bC 26:=aG .leaf Tryz.func26
def sa:bC 82:=aG (.seq none .leaf (.seq none .leaf (.seq none (.seq none .leaf (.one (.loop [8,3] .leaf))) .leaf))) Tryz.func82
def Bu:bC 64:=aG .leaf Tryz.func64
def iL:cC 84:=a6 .leaf Tryz.func84
def xW:cC 163:=a6 (.seq none .leaf (.seq none .leaf (.seq (some [6]) .leaf (.seq none .leaf (.seq none .leaf (.seq none (.seq (some [33]) .leaf .leaf) (.seq (some [9]) .leaf (.seq none (.seq (some [54]) .leaf .leaf) (.seq (some [8]) .leaf .leaf))))))))) Tryz.func163
def nO:bC 116:=aG (.seq none .leaf (.seq none (.seq none .leaf (.one (.seq (some [4]) .leaf (.two .leaf (.seq (some [14]) .leaf (.two .leaf (.seq (some [17]) .leaf .leaf))))))) .leaf)) Tryz.func116
def ve:bC 145:=aG .leaf Tryz.func145
def rP:bC 160:=aG .leaf Tryz.func160
def lf:bC 106:=aG .leaf Tryz.func106
def tY:bC 185:=aG .leaf Tryz.func185
def x0:bC 102:=aG .leaf Tryz.func102
def oj:xP 150:=mB .leaf Tryz.func150
def ob:bC 188:=aG .leaf Tryz.func188
end Go.Proofs.YtjbcdmheajljpaaGreat
