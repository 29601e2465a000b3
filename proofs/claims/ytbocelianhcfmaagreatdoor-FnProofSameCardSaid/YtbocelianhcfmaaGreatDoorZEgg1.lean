/- Made by program: the shallow forms, computed. -/
import Derived.Test.YtbocelianhcfmaaGreatDoorZEggb
set_option maxRecDepth 100000
set_option maxHeartbeats 4000000
namespace Go.Proofs.YtbocelianhcfmaaGreatDoor
open Go
attribute [local irreducible] Run CondV ar aI sOp cq bI bi dF ed bx Tryz.prog aB undef
def mT:cb 33:=aY (.seq none .leaf (.seq none .leaf (.seq none (.seq (some [24]) .leaf .leaf) .leaf))) Tryz.func33
def uj:bq 50:=aE .leaf Tryz.func50
def sf:bq 32:=aE (.seq none .leaf (.seq none .leaf (.seq none .leaf (.seq (some []) .leaf .leaf)))) Tryz.func32
def y4:bq 157:=aE (.seq none .leaf (.seq none .leaf (.seq none .leaf (.seq none (.seq (some [21]) .leaf .leaf) (.seq none (.seq (some [36]) .leaf .leaf) (.seq none (.seq (some [48]) .leaf .leaf) .leaf)))))) Tryz.func157
def mK:bq 149:=aE (.seq none .leaf (.seq none (.seq none .leaf (.one (.loop [3] (.seq none (.seq (some [11]) .leaf .leaf) .leaf)))) .leaf)) Tryz.func149
def ui:bq 156:=aE (.seq none .leaf (.seq none .leaf (.seq none .leaf (.seq none (.seq (some [31]) .leaf .leaf) .leaf)))) Tryz.func156
def rr:cb 64:=aY (.seq none .leaf (.seq none .leaf (.seq none (.seq (some [15]) .leaf .leaf) .leaf))) Tryz.func64
def oa:bq 159:=aE .leaf Tryz.func159
def tD:cb 129:=aY .leaf Tryz.func129
def sC:bq 75:=aE .leaf Tryz.func75
def s8:bq 114:=aE .leaf Tryz.func114
def mE:bq 15:=aE .leaf Tryz.func15
def tF:bq 60:=aE .leaf Tryz.func60
def tp:bq 97:=aE .leaf Tryz.func97
def om:bq 171:=aE .leaf Tryz.func171
end Go.Proofs.YtbocelianhcfmaaGreatDoor
