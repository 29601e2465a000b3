/- Made by program: the shallow forms, computed. -/
import Derived.Test.YtbocelianhcfmaaGreatDoorZEggb
set_option maxRecDepth 100000
set_option maxHeartbeats 4000000
namespace Go.Proofs.YtbocelianhcfmaaGreatDoor
open Go
attribute [local irreducible] Run CondV ar aI sOp cq bI bi dF ed bx Tryz.prog aB undef
def zS:fx 180:=cM (.seq none .leaf (.seq none (.seq none .leaf (.one (.loop [8] (.seq none .leaf (.seq none (.one (.seq none .leaf (.seq none .leaf (.seq none .leaf (.seq none .leaf (.seq none .leaf (.seq none .leaf (.seq (some []) .leaf .leaf)))))))) .leaf))))) .leaf)) Tryz.func180
def wm:bq 65:=aE (.seq none .leaf (.seq none .leaf (.seq none (.seq none .leaf (.one (.loop [4,3] (.seq none .leaf (.seq none (.one (.seq (some [3]) .leaf .leaf)) .leaf))))) .leaf))) Tryz.func65
def zt:cb 189:=aY (.seq none .leaf (.seq none (.seq none .leaf (.one (.loop [5] .leaf))) .leaf)) Tryz.func189
def oL:cb 96:=aY (.seq none .leaf (.seq none (.seq (some [13]) .leaf .leaf) .leaf)) Tryz.func96
def xl:bq 102:=aE .leaf Tryz.func102
def ox:bq 45:=aE .leaf Tryz.func45
def oC:bq 79:=aE .leaf Tryz.func79
def vY:fx 139:=cM .leaf Tryz.func139
def qD:cb 56:=aY .leaf Tryz.func56
def yC:bq 93:=aE .leaf Tryz.func93
def nF:Gk 148:=wS .leaf Tryz.func148
end Go.Proofs.YtbocelianhcfmaaGreatDoor
