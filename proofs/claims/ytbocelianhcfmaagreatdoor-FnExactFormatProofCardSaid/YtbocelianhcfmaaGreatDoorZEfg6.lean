/- Made by program: the shallow forms, computed. -/
import Derived.Test.YtbocelianhcfmaaGreatDoorZEfgb
set_option maxRecDepth 100000
set_option maxHeartbeats 4000000
namespace Go.Proofs.YtbocelianhcfmaaGreatDoor
open Go
attribute [local irreducible] Run CondV ah ax sOp a7 dw aI bi bB aO Tryz.prog df undef
def iw:bh 44:=aC (.seq none .leaf (.seq none .leaf (.seq none (.seq none .leaf (.one (.loop [5] .leaf))) .leaf))) Tryz.func44
def jr:aL 66:=am (.seq none .leaf (.seq none .leaf (.seq none .leaf (.seq none .leaf (.seq none (.seq none .leaf (.one (.loop [4,3] (.seq none .leaf (.seq none (.one (.seq (some [3]) .leaf .leaf)) .leaf))))) (.seq (some [3]) .leaf .leaf)))))) Tryz.func66
def fL:bh 30:=aC (.seq none .leaf (.seq none (.seq (some [29]) .leaf .leaf) (.seq none (.seq none .leaf (.one (.loop [5] .leaf))) .leaf))) Tryz.func30
def j7:aL 141:=am (.seq none .leaf (.seq none (.seq none .leaf (.one (.loop [3] (.seq none .leaf (.seq none (.one (.seq (some [19]) .leaf .leaf)) .leaf))))) .leaf)) Tryz.func141
def hK:bh 111:=aC (.seq none .leaf (.seq none (.seq (some [12]) .leaf .leaf) (.seq none (.seq none .leaf (.one (.loop [5] .leaf))) .leaf))) Tryz.func111
def jM:bh 25:=aC .leaf Tryz.func25
def gC:aL 41:=am (.seq none .leaf (.seq none .leaf (.seq none (.seq none .leaf (.one (.loop [4] .leaf))) .leaf))) Tryz.func41
def j0:aL 22:=am .leaf Tryz.func22
def dh:bh 188:=aC (.seq none .leaf (.seq none (.seq none .leaf (.one (.loop [8] .leaf))) .leaf)) Tryz.func188
def jI:bh 62:=aC .leaf Tryz.func62
def lc:aL 94:=am .leaf Tryz.func94
def ej:aL 15:=am .leaf Tryz.func15
def h8:aL 60:=am .leaf Tryz.func60
def lr:aL 99:=am .leaf Tryz.func99
def iv:sW 190:=qX .leaf Tryz.func190
end Go.Proofs.YtbocelianhcfmaaGreatDoor
