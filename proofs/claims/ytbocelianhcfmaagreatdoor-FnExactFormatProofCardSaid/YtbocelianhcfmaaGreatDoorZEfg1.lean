/- Made by program: the shallow forms, computed. -/
import Derived.Test.YtbocelianhcfmaaGreatDoorZEfgb
set_option maxRecDepth 100000
set_option maxHeartbeats 4000000
namespace Go.Proofs.YtbocelianhcfmaaGreatDoor
open Go
attribute [local irreducible] Run CondV ah ax sOp a7 dw aI bi bB aO Tryz.prog df undef
def kJ:aL 42:=am (.seq none .leaf (.seq none (.seq (some [18]) .leaf .leaf) .leaf)) Tryz.func42
def nb:kI 109:=ed (.seq none .leaf (.seq none .leaf (.seq none (.seq (some [19]) .leaf .leaf) (.seq none (.seq none .leaf (.one (.seq none .leaf (.two .leaf (.seq none .leaf (.two .leaf (.seq none .leaf (.two (.seq none (.seq (some [70]) .leaf .leaf) .leaf) .leaf)))))))) .leaf)))) Tryz.func109
def dx:aL 9:=am .leaf Tryz.func9
def eM:aL 103:=am (.seq none .leaf (.seq none (.seq none .leaf (.one (.loop [6] (.seq none .leaf (.seq none .leaf (.seq none (.one (.seq none .leaf (.seq (some [18]) .leaf .leaf))) .leaf)))))) .leaf)) Tryz.func103
def gJ:bh 38:=aC (.seq none .leaf (.seq none .leaf (.seq none .leaf (.seq none (.seq none .leaf (.one (.loop [5,1] .leaf))) .leaf)))) Tryz.func38
def lo:bh 189:=aC (.seq none .leaf (.seq none (.seq none .leaf (.one (.loop [5] .leaf))) .leaf)) Tryz.func189
def gw:sW 169:=qX .leaf Tryz.func169
def ic:bh 6:=aC .leaf Tryz.func6
def iq:aL 8:=am .leaf Tryz.func8
def gF:aL 75:=am .leaf Tryz.func75
def gI:aL 114:=am .leaf Tryz.func114
def eE:aL 74:=am .leaf Tryz.func74
def iu:bh 128:=aC .leaf Tryz.func128
end Go.Proofs.YtbocelianhcfmaaGreatDoor
