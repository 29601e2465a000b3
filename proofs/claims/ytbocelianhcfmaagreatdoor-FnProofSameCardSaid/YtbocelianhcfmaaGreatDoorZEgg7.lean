/- Made by program: the shallow forms, computed. -/
import Derived.Test.YtbocelianhcfmaaGreatDoorZEggb
set_option maxRecDepth 100000
set_option maxHeartbeats 4000000
namespace Go.Proofs.YtbocelianhcfmaaGreatDoor
open Go
attribute [local irreducible] Run CondV ar aI sOp cq bI bi dF ed bx Tryz.prog aB undef
def qf:cb 126:=aY (.seq none .leaf (.seq none .leaf (.seq none (.seq none .leaf (.one (.loop [6] (.seq none (.seq (some [23]) .leaf .leaf) (.seq (some []) .leaf .leaf))))) (.seq none (.seq none .leaf (.one (.loop [7] .leaf))) .leaf)))) Tryz.func126
def r5:fx 51:=cM (.seq none .leaf (.seq none .leaf (.seq none (.one (.loop [2] (.seq none (.seq (some [28]) .leaf .leaf) (.one (.seq none .leaf (.seq none .leaf (.seq none .leaf (.seq (some []) .leaf .leaf)))))))) .leaf))) Tryz.func51
def ly:bq 5:=aE .leaf Tryz.func5
def xX:bq 42:=aE (.seq none .leaf (.seq none (.seq (some [18]) .leaf .leaf) .leaf)) Tryz.func42
def pz:fx 181:=cM (.seq none .leaf (.seq none .leaf (.seq none (.seq none .leaf (.one (.loop [8,7] (.seq none .leaf (.seq (some [7]) (.one (.seq none .leaf (.seq (some [40]) .leaf .leaf))) .leaf))))) .leaf))) Tryz.func181
def wj:cb 116:=aY (.seq none .leaf (.seq none .leaf (.seq none .leaf (.seq none (.seq none .leaf (.one (.loop [7,6,5] (.seq none .leaf (.seq (some [6,5]) (.one (.seq (some [25]) .leaf .leaf)) .leaf))))) .leaf)))) Tryz.func116
def kA:bq 81:=aE (.seq none .leaf (.seq none .leaf (.seq none .leaf (.seq none (.seq (some [23]) .leaf .leaf) (.seq none (.seq none .leaf (.one (.loop [6,4] .leaf))) .leaf))))) Tryz.func81
def oz:cb 17:=aY .leaf Tryz.func17
def B0:fx 109:=cM (.seq none .leaf (.seq none .leaf (.seq none (.seq (some [19]) .leaf .leaf) (.seq none (.seq none .leaf (.one (.seq none .leaf (.two .leaf (.seq none .leaf (.two .leaf (.seq none .leaf (.two (.seq none (.seq (some [70]) .leaf .leaf) .leaf) .leaf)))))))) .leaf)))) Tryz.func109
def th:cb 112:=aY (.seq none .leaf (.seq none .leaf (.seq none (.seq none .leaf (.one (.loop [6,5] (.seq none (.seq (some [16]) .leaf .leaf) .leaf)))) .leaf))) Tryz.func112
def lT:bq 117:=aE (.seq none .leaf (.seq none .leaf (.seq none .leaf (.seq none .leaf (.seq none .leaf (.seq (some [5]) (.seq (some [29]) .leaf .leaf) (.seq none (.seq (some [54]) .leaf .leaf) .leaf))))))) Tryz.func117
def sx:bq 101:=aE .leaf Tryz.func101
def wx:cb 152:=aY (.seq none .leaf (.seq none .leaf (.seq none (.seq none .leaf (.one (.loop [5] .leaf))) .leaf))) Tryz.func152
def oJ:fx 28:=cM (.seq none .leaf (.seq none .leaf (.seq none (.seq (some [37]) .leaf .leaf) .leaf))) Tryz.func28
def wu:bq 197:=aE (.seq none .leaf (.seq none .leaf (.seq none (.seq none .leaf (.one (.loop [4,3] .leaf))) .leaf))) Tryz.func197
def wE:fx 46:=cM .leaf Tryz.func46
def iP:cb 170:=aY (.seq none .leaf (.seq none (.seq none .leaf (.one (.loop [8] .leaf))) .leaf)) Tryz.func170
def rF:bq 76:=aE .leaf Tryz.func76
def ou:bq 137:=aE .leaf Tryz.func137
def fV:cb 47:=aY .leaf Tryz.func47
def BR:bq 67:=aE .leaf Tryz.func67
def yS:bq 99:=aE .leaf Tryz.func99
def rZ:Gk 190:=wS .leaf Tryz.func190
end Go.Proofs.YtbocelianhcfmaaGreatDoor
