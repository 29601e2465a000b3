/- Made by program: the shallow forms, computed. -/
import Derived.Test.YtbocelianhcfmaaGreatDoorZEfgb
set_option maxRecDepth 100000
set_option maxHeartbeats 4000000
namespace Go.Proofs.YtbocelianhcfmaaGreatDoor
open Go
attribute [local irreducible] Run CondV ah ax sOp a7 dw aI bi bB aO Tryz.prog df undef
def mX:bh 72:=aC (.seq none .leaf (.seq none (.one (.seq none .leaf (.two .leaf (.seq none .leaf (.two .leaf (.seq none .leaf (.two (.seq none .leaf (.seq none .leaf (.seq none (.one (.loop [5] .leaf)) (.seq (some [5]) .leaf .leaf)))) .leaf))))))) (.seq none .leaf (.seq none (.seq none .leaf (.one (.loop [74,7] .leaf))) .leaf)))) Tryz.func72
def gz:bh 21:=aC (.seq none .leaf (.seq none .leaf (.seq (some [5]) .leaf (.seq none .leaf (.seq none (.seq none .leaf (.one (.loop [6,5] .leaf))) .leaf))))) Tryz.func21
def jp:bh 19:=aC .leaf Tryz.func19
def gv:aL 101:=am .leaf Tryz.func101
def fR:aL 23:=am (.seq none .leaf (.seq none .leaf (.seq none (.seq none .leaf (.one (.loop [4] .leaf))) .leaf))) Tryz.func23
def eR:bh 110:=aC (.seq none .leaf (.seq none (.seq none .leaf (.one (.seq (some [6]) .leaf (.two .leaf (.seq (some [18]) .leaf (.two .leaf (.seq (some [23]) .leaf .leaf))))))) .leaf)) Tryz.func110
def fg:bh 115:=aC (.seq none .leaf (.seq none (.seq none .leaf (.one (.seq (some [6]) .leaf (.two .leaf (.seq (some [18]) .leaf (.two .leaf (.seq (some [23]) .leaf .leaf))))))) .leaf)) Tryz.func115
def lh:aL 140:=am .leaf Tryz.func140
def cG:bh 170:=aC (.seq none .leaf (.seq none (.seq none .leaf (.one (.loop [8] .leaf))) .leaf)) Tryz.func170
def fH:aL 63:=am (.seq none .leaf (.seq none (.seq (some [8]) .leaf .leaf) .leaf)) Tryz.func63
def fU:aL 98:=am .leaf Tryz.func98
def bQ:bh 47:=aC .leaf Tryz.func47
def mD:aL 67:=am .leaf Tryz.func67
def k6:aL 113:=am .leaf Tryz.func113
end Go.Proofs.YtbocelianhcfmaaGreatDoor
