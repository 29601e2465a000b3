/- Made by program: the shallow forms, computed. -/
import Derived.Test.YtbocelianhcfmaaGreatDoorZEggb
set_option maxRecDepth 100000
set_option maxHeartbeats 4000000
namespace Go.Proofs.YtbocelianhcfmaaGreatDoor
open Go
attribute [local irreducible] Run CondV ar aI sOp cq bI bi dF ed bx Tryz.prog aB undef
def r6:fx 155:=cM (.seq none .leaf (.seq none .leaf (.seq none .leaf (.seq none (.seq (some [28]) .leaf .leaf) (.seq none .leaf (.seq none .leaf (.seq none (.seq (some [76]) .leaf .leaf) (.seq none (.seq none .leaf (.one (.loop [7] .leaf))) .leaf)))))))) Tryz.func155
def wl:cb 86:=aY (.seq none .leaf (.seq none .leaf (.seq none .leaf (.seq none (.seq (some [32]) .leaf .leaf) .leaf)))) Tryz.func86
def s9:cb 125:=aY .leaf Tryz.func125
def wG:bq 39:=aE (.seq none .leaf (.seq none (.one (.seq none .leaf (.two .leaf (.seq none .leaf (.two (.seq none .leaf (.seq none .leaf (.seq (some [4]) .leaf .leaf))) (.seq (some [37]) .leaf .leaf)))))) .leaf)) Tryz.func39
def oe:cb 34:=aY (.seq none .leaf (.seq none .leaf (.seq (some []) .leaf .leaf))) Tryz.func34
def vS:bq 59:=aE (.seq none .leaf (.seq none .leaf (.seq none (.one (.loop [3] .leaf)) .leaf))) Tryz.func59
def vQ:bq 66:=aE (.seq none .leaf (.seq none .leaf (.seq none .leaf (.seq none .leaf (.seq none (.seq none .leaf (.one (.loop [4,3] (.seq none .leaf (.seq none (.one (.seq (some [3]) .leaf .leaf)) .leaf))))) (.seq (some [3]) .leaf .leaf)))))) Tryz.func66
def sw:cb 143:=aY (.seq none .leaf (.seq none .leaf (.seq none (.one (.loop [1,6] .leaf)) .leaf))) Tryz.func143
def wZ:bq 105:=aE .leaf Tryz.func105
def j0:cb 179:=aY (.seq none .leaf (.seq none (.one (.loop [] (.seq none (.seq (some [23]) .leaf .leaf) .leaf))) .leaf)) Tryz.func179
def rQ:LK 121:=JL (.seq none .leaf (.seq none .leaf (.seq none (.seq none .leaf (.one (.loop [10,9] .leaf))) .leaf))) Tryz.func121
def iv:bq 11:=aE .leaf Tryz.func11
def vM:bq 40:=aE (.seq none .leaf (.seq none .leaf (.seq none .leaf (.seq none .leaf (.seq none (.one (.loop [0,3] .leaf)) .leaf))))) Tryz.func40
def nt:cb 110:=aY (.seq none .leaf (.seq none (.seq none .leaf (.one (.seq (some [6]) .leaf (.two .leaf (.seq (some [18]) .leaf (.two .leaf (.seq (some [23]) .leaf .leaf))))))) .leaf)) Tryz.func110
def wb:bq 22:=aE .leaf Tryz.func22
def zq:bq 140:=aE .leaf Tryz.func140
def tB:bq 119:=aE .leaf Tryz.func119
def pD:bq 63:=aE (.seq none .leaf (.seq none (.seq (some [8]) .leaf .leaf) .leaf)) Tryz.func63
def qF:bq 98:=aE .leaf Tryz.func98
def mI:bq 12:=aE .leaf Tryz.func12
def vO:bq 58:=aE .leaf Tryz.func58
def wd:bq 95:=aE .leaf Tryz.func95
def iq:cb 168:=aY .leaf Tryz.func168
end Go.Proofs.YtbocelianhcfmaaGreatDoor
