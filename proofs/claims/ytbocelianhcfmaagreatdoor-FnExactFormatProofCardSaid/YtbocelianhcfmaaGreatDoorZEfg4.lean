/- Made by program: the shallow forms, computed. -/
import Derived.Test.YtbocelianhcfmaaGreatDoorZEfgb
set_option maxRecDepth 100000
set_option maxHeartbeats 4000000
namespace Go.Proofs.YtbocelianhcfmaaGreatDoor
open Go
attribute [local irreducible] Run CondV ah ax sOp a7 dw aI bi bB aO Tryz.prog df undef
def jw:aL 59:=am (.seq none .leaf (.seq none .leaf (.seq none (.one (.loop [3] .leaf)) .leaf))) Tryz.func59
def eq:bh 24:=aC (.seq none .leaf (.seq none .leaf (.seq (some [5]) .leaf (.seq none .leaf (.seq none (.seq none .leaf (.one (.loop [27,5] .leaf))) .leaf))))) Tryz.func24
def hG:bh 10:=aC .leaf Tryz.func10
def g6:bh 112:=aC (.seq none .leaf (.seq none .leaf (.seq none (.seq none .leaf (.one (.loop [6,5] (.seq none (.seq (some [16]) .leaf .leaf) .leaf)))) .leaf))) Tryz.func112
def j2:aL 71:=am .leaf Tryz.func71
def jS:aL 65:=am (.seq none .leaf (.seq none .leaf (.seq none (.seq none .leaf (.one (.loop [4,3] (.seq none .leaf (.seq none (.one (.seq (some [3]) .leaf .leaf)) .leaf))))) .leaf))) Tryz.func65
def gW:aL 68:=am (.seq none .leaf (.seq none (.seq none .leaf (.one (.seq (some [5]) .leaf (.two .leaf (.seq (some [15]) .leaf (.two .leaf (.seq (some [18]) .leaf .leaf))))))) .leaf)) Tryz.func68
def eN:bh 96:=aC (.seq none .leaf (.seq none (.seq (some [13]) .leaf .leaf) .leaf)) Tryz.func96
def jN:aL 102:=am .leaf Tryz.func102
def dT:kI 48:=ed .leaf Tryz.func48
def e5:aL 79:=am .leaf Tryz.func79
def ju:kI 139:=ed .leaf Tryz.func139
def jT:aL 95:=am .leaf Tryz.func95
def cr:bh 168:=aC .leaf Tryz.func168
end Go.Proofs.YtbocelianhcfmaaGreatDoor
