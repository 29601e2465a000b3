/- Made by program: the shallow forms, computed. -/
import Derived.Test.YtbocelianhcfmaaGreatDoorZEfgb
set_option maxRecDepth 100000
set_option maxHeartbeats 4000000
namespace Go.Proofs.YtbocelianhcfmaaGreatDoor
open Go
attribute [local irreducible] Run CondV ah ax sOp a7 dw aI bi bB aO Tryz.prog df undef
def fM:bh 26:=aC (.seq none .leaf (.seq none .leaf (.seq none (.seq none .leaf (.one (.loop [5] .leaf))) .leaf))) Tryz.func26
def bR:aL 3:=am .leaf Tryz.func3
def jm:aL 105:=am .leaf Tryz.func105
def dP:aL 7:=am .leaf Tryz.func7
def j1:aL 104:=am .leaf Tryz.func104
def fK:bh 20:=aC (.seq none .leaf (.seq none .leaf (.seq none .leaf (.seq none (.seq none .leaf (.one (.loop [5,1] .leaf))) .leaf)))) Tryz.func20
def eG:kI 28:=ed (.seq none .leaf (.seq none .leaf (.seq none (.seq (some [37]) .leaf .leaf) .leaf))) Tryz.func28
def cw:bh 78:=aC (.seq none .leaf (.seq none (.seq none .leaf (.one (.loop [8] .leaf))) .leaf)) Tryz.func78
def gP:bh 129:=aC .leaf Tryz.func129
def eT:aL 49:=am .leaf Tryz.func49
def jF:aL 80:=am .leaf Tryz.func80
def eg:aL 12:=am .leaf Tryz.func12
def jR:aL 58:=am .leaf Tryz.func58
def gk:aL 97:=am .leaf Tryz.func97
def eK:aL 171:=am .leaf Tryz.func171
end Go.Proofs.YtbocelianhcfmaaGreatDoor
