/- Made by program: the shallow forms, computed. -/
import Derived.Test.YtbocelianhcfmaaGreatDoorZEggb
set_option maxRecDepth 100000
set_option maxHeartbeats 4000000
namespace Go.Proofs.YtbocelianhcfmaaGreatDoor
open Go
attribute [local irreducible] Run CondV ar aI sOp cq bI bi dF ed bx Tryz.prog aB undef
def xc:cb 177:=aY (.seq none .leaf (.seq none .leaf (.seq none (.one (.loop [6] .leaf)) (.seq none .leaf (.seq none .leaf (.seq none .leaf (.seq none .leaf (.seq none (.seq none .leaf (.one (.loop [9,7] (.seq none .leaf (.seq (some [7]) .leaf .leaf))))) .leaf)))))))) Tryz.func177
def qx:cb 37:=aY (.seq none .leaf (.seq none (.seq (some [33]) .leaf .leaf) (.seq none (.seq none .leaf (.one (.loop [5] .leaf))) .leaf))) Tryz.func37
def xm:fx 151:=cM (.seq none .leaf (.seq none .leaf (.seq none .leaf (.seq none .leaf (.seq none .leaf (.seq none (.seq none .leaf (.one (.loop [10,9] (.seq none (.seq (some [36]) .leaf .leaf) .leaf)))) .leaf)))))) Tryz.func151
def wq:cb 55:=aY (.seq none .leaf (.seq none (.seq (some [13]) .leaf .leaf) (.seq none .leaf (.seq none .leaf (.seq none (.seq none .leaf (.one (.loop [6] .leaf))) .leaf))))) Tryz.func55
def qe:cb 54:=aY (.seq none .leaf (.seq none .leaf (.seq (some []) (.seq none .leaf (.one (.seq none .leaf (.two .leaf (.seq none .leaf (.two .leaf (.seq none .leaf (.two .leaf (.seq none .leaf (.two (.one (.loop [] .leaf)) (.seq none .leaf (.two (.seq none .leaf (.one (.loop [6] .leaf))) .leaf)))))))))))) .leaf))) Tryz.func54
def jD:bq 16:=aE .leaf Tryz.func16
def mQ:bq 120:=aE (.seq none .leaf (.seq none .leaf (.seq none .leaf (.seq none (.seq (some [25]) .leaf .leaf) (.seq none .leaf (.seq none (.seq none .leaf (.one (.loop [7,6] .leaf))) .leaf)))))) Tryz.func120
def lF:bq 172:=aE (.seq none .leaf (.seq none (.seq none .leaf (.one (.loop [3] (.seq none (.seq (some [12]) .leaf .leaf) .leaf)))) .leaf)) Tryz.func172
def sI:cb 122:=aY .leaf Tryz.func122
def vZ:bq 141:=aE (.seq none .leaf (.seq none (.seq none .leaf (.one (.loop [3] (.seq none .leaf (.seq none (.one (.seq (some [19]) .leaf .leaf)) .leaf))))) .leaf)) Tryz.func141
def vW:bq 71:=aE .leaf Tryz.func71
def wn:bq 84:=aE .leaf Tryz.func84
def ti:bq 41:=aE (.seq none .leaf (.seq none .leaf (.seq none (.seq none .leaf (.one (.loop [4] .leaf))) .leaf))) Tryz.func41
def s6:bq 61:=aE (.seq none .leaf (.seq none (.seq none .leaf (.one (.seq (some [4]) .leaf (.two .leaf (.seq (some [14]) .leaf (.two .leaf (.seq (some [17]) .leaf .leaf))))))) .leaf)) Tryz.func61
def wv:bq 160:=aE .leaf Tryz.func160
def nP:bq 13:=aE .leaf Tryz.func13
def lR:fx 48:=cM .leaf Tryz.func48
def wh:bq 80:=aE .leaf Tryz.func80
def j9:bq 144:=aE .leaf Tryz.func144
def ot:bq 74:=aE .leaf Tryz.func74
def zz:bq 113:=aE .leaf Tryz.func113
def qw:bq 194:=aE (.seq none .leaf (.seq none (.seq (some [9]) .leaf .leaf) .leaf)) Tryz.func194
end Go.Proofs.YtbocelianhcfmaaGreatDoor
