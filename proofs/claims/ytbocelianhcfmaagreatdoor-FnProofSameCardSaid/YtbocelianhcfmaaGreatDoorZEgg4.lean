/- Made by program: the shallow forms, computed. -/
import Derived.Test.YtbocelianhcfmaaGreatDoorZEggb
set_option maxRecDepth 100000
set_option maxHeartbeats 4000000
namespace Go.Proofs.YtbocelianhcfmaaGreatDoor
open Go
attribute [local irreducible] Run CondV ar aI sOp cq bI bi dF ed bx Tryz.prog aB undef
def r9:cb 87:=aY (.seq none .leaf (.seq none (.one (.loop [] .leaf)) .leaf)) Tryz.func87
def tE:fx 123:=cM (.seq none .leaf (.seq none .leaf (.seq none .leaf (.seq none .leaf (.seq (some []) .leaf .leaf))))) Tryz.func123
def rB:cb 150:=aY (.seq none .leaf (.seq none .leaf (.seq (some []) .leaf (.seq none (.seq none .leaf (.one (.loop [6] .leaf))) .leaf)))) Tryz.func150
def kD:bq 52:=aE (.seq none .leaf (.seq none .leaf (.seq none (.seq none .leaf (.one (.loop [4] .leaf))) .leaf))) Tryz.func52
def Br:cb 72:=aY (.seq none .leaf (.seq none (.one (.seq none .leaf (.two .leaf (.seq none .leaf (.two .leaf (.seq none .leaf (.two (.seq none .leaf (.seq none .leaf (.seq none (.one (.loop [5] .leaf)) (.seq (some [5]) .leaf .leaf)))) .leaf))))))) (.seq none .leaf (.seq none (.seq none .leaf (.one (.loop [74,7] .leaf))) .leaf)))) Tryz.func72
def xb:bq 192:=aE (.seq none .leaf (.seq (some [4]) .leaf (.seq (some [0]) .leaf (.seq none (.seq (some [38]) .leaf .leaf) (.seq none .leaf (.seq none (.seq none .leaf (.one (.loop [6,5] (.seq none .leaf (.seq none (.one (.seq none (.seq (some [54]) .leaf .leaf) .leaf)) .leaf))))) (.seq (some [5]) .leaf .leaf))))))) Tryz.func192
def qu:cb 176:=aY (.seq none .leaf (.seq none .leaf (.seq (some [6]) .leaf (.seq none .leaf (.seq none (.one (.loop [6] (.seq none (.seq (some [25]) .leaf .leaf) .leaf))) (.seq none .leaf (.seq none (.seq (some [50]) .leaf .leaf) (.seq (some [8]) .leaf .leaf)))))))) Tryz.func176
def mZ:cb 24:=aY (.seq none .leaf (.seq none .leaf (.seq (some [5]) .leaf (.seq none .leaf (.seq none (.seq none .leaf (.one (.loop [27,5] .leaf))) .leaf))))) Tryz.func24
def iB:fx 36:=cM (.seq none .leaf (.seq none .leaf (.seq none (.seq none .leaf (.one (.loop [17] .leaf))) .leaf))) Tryz.func36
def iR:bq 27:=aE .leaf Tryz.func27
def iU:fx 57:=cM (.seq none .leaf (.seq none .leaf (.seq none (.seq none .leaf (.one (.loop [17] .leaf))) .leaf))) Tryz.func57
def wB:bq 104:=aE .leaf Tryz.func104
def Bq:cb 147:=aY (.seq none .leaf (.seq none .leaf (.seq (some [6]) .leaf (.seq none .leaf (.seq none .leaf (.seq none (.seq (some [33]) .leaf .leaf) (.seq (some [9]) .leaf (.seq none (.seq (some [54]) .leaf .leaf) (.seq (some [8]) .leaf .leaf))))))))) Tryz.func147
def BD:fx 182:=cM .leaf Tryz.func182
def rC:fx 175:=cM .leaf Tryz.func175
def yO:cb 195:=aY (.seq none .leaf (.seq none .leaf (.seq (some [5]) (.seq (some [17]) .leaf .leaf) .leaf))) Tryz.func195
def qA:cb 35:=aY .leaf Tryz.func35
def vU:cb 62:=aY .leaf Tryz.func62
def zG:bq 94:=aE .leaf Tryz.func94
def tK:fx 183:=cM .leaf Tryz.func183
def zN:bq 92:=aE .leaf Tryz.func92
def wV:fx 142:=cM .leaf Tryz.func142
end Go.Proofs.YtbocelianhcfmaaGreatDoor
