/- Made by program: the shallow forms, computed. -/
import Derived.Test.YtbocelianhcfmaaGreatDoorZEggb
set_option maxRecDepth 100000
set_option maxHeartbeats 4000000
namespace Go.Proofs.YtbocelianhcfmaaGreatDoor
open Go
attribute [local irreducible] Run CondV ar aI sOp cq bI bi dF ed bx Tryz.prog aB undef
def xV:cb 124:=aY (.seq none .leaf (.seq none .leaf (.seq none (.seq none .leaf (.one (.loop [6,5] (.seq none .leaf (.seq (some [5]) .leaf .leaf))))) .leaf))) Tryz.func124
def pO:fx 153:=cM (.seq none .leaf (.seq none (.seq none .leaf (.one (.loop [10] .leaf))) .leaf)) Tryz.func153
def nI:cb 89:=aY (.seq none .leaf (.seq none .leaf (.seq none (.seq none .leaf (.one (.loop [6] .leaf))) .leaf))) Tryz.func89
def wM:bq 145:=aE (.seq none .leaf (.seq none .leaf (.seq none (.seq none .leaf (.one (.loop [4] .leaf))) .leaf))) Tryz.func145
def nX:cb 18:=aY (.seq none .leaf (.seq none (.seq (some [27]) .leaf .leaf) (.seq none (.seq none .leaf (.one (.loop [5] .leaf))) .leaf))) Tryz.func18
def rO:fx 146:=cM (.seq none .leaf (.seq none (.seq (some [23]) .leaf .leaf) (.seq none .leaf (.seq none (.seq (some [65]) .leaf .leaf) (.seq none (.seq (some [83]) .leaf .leaf) (.seq none (.seq (some [106]) .leaf .leaf) .leaf)))))) Tryz.func146
def sq:cb 191:=aY (.seq none .leaf (.seq none .leaf (.seq none (.seq none .leaf (.one (.loop [6] .leaf))) .leaf))) Tryz.func191
def tc:cb 21:=aY (.seq none .leaf (.seq none .leaf (.seq (some [5]) .leaf (.seq none .leaf (.seq none (.seq none .leaf (.one (.loop [6,5] .leaf))) .leaf))))) Tryz.func21
def wo:bq 173:=aE (.seq none .leaf (.seq none .leaf (.seq none (.seq none .leaf (.one (.loop [4,3] (.seq none .leaf (.seq none (.one (.seq (some [3]) .leaf .leaf)) .leaf))))) .leaf))) Tryz.func173
def yA:bq 106:=aE .leaf Tryz.func106
def lu:bq 9:=aE .leaf Tryz.func9
def sY:cb 111:=aY (.seq none .leaf (.seq none (.seq (some [12]) .leaf .leaf) (.seq none (.seq none .leaf (.one (.loop [5] .leaf))) .leaf))) Tryz.func111
def np:bq 103:=aE (.seq none .leaf (.seq none (.seq none .leaf (.one (.loop [6] (.seq none .leaf (.seq none .leaf (.seq none (.one (.seq none .leaf (.seq (some [18]) .leaf .leaf))) .leaf)))))) .leaf)) Tryz.func103
def nk:cb 115:=aY (.seq none .leaf (.seq none (.seq none .leaf (.one (.seq (some [6]) .leaf (.two .leaf (.seq (some [18]) .leaf (.two .leaf (.seq (some [23]) .leaf .leaf))))))) .leaf)) Tryz.func115
def py:bq 83:=aE (.seq none .leaf (.seq none .leaf (.seq none .leaf (.seq none (.seq (some [23]) .leaf .leaf) .leaf)))) Tryz.func83
def kC:cb 188:=aY (.seq none .leaf (.seq none (.seq none .leaf (.one (.loop [8] .leaf))) .leaf)) Tryz.func188
def tk:bq 31:=aE (.seq none .leaf (.seq (some [0]) .leaf .leaf)) Tryz.func31
def nZ:cb 53:=aY .leaf Tryz.func53
def qt:cb 91:=aY .leaf Tryz.func91
def mM:bq 158:=aE .leaf Tryz.func158
def uf:Gk 82:=wS .leaf Tryz.func82
def gi:cb 138:=aY .leaf Tryz.func138
end Go.Proofs.YtbocelianhcfmaaGreatDoor
