/- Made by program: the shallow forms, computed. -/
import Derived.Test.YtbocelianhcfmaaGreatDoorZEfgb
set_option maxRecDepth 100000
set_option maxHeartbeats 4000000
namespace Go.Proofs.YtbocelianhcfmaaGreatDoor
open Go
attribute [local irreducible] Run CondV ah ax sOp a7 dw aI bi bB aO Tryz.prog df undef
def jH:aL 39:=am (.seq none .leaf (.seq none (.one (.seq none .leaf (.two .leaf (.seq none .leaf (.two (.seq none .leaf (.seq none .leaf (.seq (some [4]) .leaf .leaf))) (.seq (some [37]) .leaf .leaf)))))) .leaf)) Tryz.func39
def gq:bh 29:=aC (.seq none .leaf (.seq none .leaf (.seq none (.seq none .leaf (.one (.loop [6,5] (.seq none (.seq (some [16]) .leaf .leaf) .leaf)))) .leaf))) Tryz.func29
def ln:aL 106:=am .leaf Tryz.func106
def fV:aL 70:=am .leaf Tryz.func70
def j3:aL 40:=am (.seq none .leaf (.seq none .leaf (.seq none .leaf (.seq none .leaf (.seq none (.one (.loop [0,3] .leaf)) .leaf))))) Tryz.func40
def gU:aL 61:=am (.seq none .leaf (.seq none (.seq none .leaf (.one (.seq (some [4]) .leaf (.two .leaf (.seq (some [14]) .leaf (.two .leaf (.seq (some [17]) .leaf .leaf))))))) .leaf)) Tryz.func61
def gB:bh 64:=aC (.seq none .leaf (.seq none .leaf (.seq none (.seq (some [15]) .leaf .leaf) .leaf))) Tryz.func64
def jo:kI 46:=ed .leaf Tryz.func46
def er:aL 45:=am .leaf Tryz.func45
def ia:aL 76:=am .leaf Tryz.func76
def ff:aL 137:=am .leaf Tryz.func137
def k5:aL 77:=am .leaf Tryz.func77
def bY:bh 138:=aC .leaf Tryz.func138
end Go.Proofs.YtbocelianhcfmaaGreatDoor
