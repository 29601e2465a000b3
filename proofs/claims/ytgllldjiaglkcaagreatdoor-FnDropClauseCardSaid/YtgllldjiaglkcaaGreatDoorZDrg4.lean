/- Made by program: the shallow forms, computed. -/
import Derived.Test.YtgllldjiaglkcaaGreatDoorZDrgb
set_option maxRecDepth 100000
set_option maxHeartbeats 4000000
namespace Go.Proofs.YtgllldjiaglkcaaGreatDoor
open Go
attribute [local irreducible] Run CondV ai az sOp bN bJ bo dj dy bp Tryz.prog ar undef
def kP:nn 121:=fe (.seq none .leaf (.seq none .leaf (.seq none (.one (.seq (some [14]) .leaf (.two .leaf (.seq none .leaf (.two .leaf (.seq none .leaf (.two .leaf (.seq (some [48]) .leaf .leaf)))))))) (.seq none (.seq none .leaf (.one (.loop [80] .leaf))) .leaf)))) Tryz.func121
def lx:bn 135:=aD (.seq none .leaf (.seq none (.one (.loop [] .leaf)) .leaf)) Tryz.func135
def kr:bR 3:=aX (.seq none .leaf (.seq none (.seq (some [24]) .leaf .leaf) (.seq none .leaf (.seq none .leaf (.seq none .leaf (.seq none (.seq (some [54]) .leaf .leaf) (.seq none .leaf (.seq none .leaf (.seq none .leaf (.seq none .leaf (.seq none (.seq (some [96]) .leaf .leaf) .leaf))))))))))) Tryz.func3
def qJ:bR 240:=aX (.seq none .leaf (.seq none .leaf (.seq (some [6]) .leaf (.seq none .leaf (.seq none (.one (.loop [6] (.seq none (.seq (some [25]) .leaf .leaf) .leaf))) (.seq none .leaf (.seq none (.seq (some [50]) .leaf .leaf) (.seq (some [8]) .leaf .leaf)))))))) Tryz.func240
def mQ:bR 54:=aX (.seq none .leaf (.seq none .leaf (.seq none (.seq none .leaf (.one (.loop [10,5] (.seq none .leaf (.seq none .leaf (.seq (some [5]) .leaf .leaf)))))) .leaf))) Tryz.func54
def yo:bn 193:=aD (.seq none .leaf (.seq none (.one (.seq none .leaf (.two .leaf (.seq none .leaf (.two .leaf (.seq (some [18]) .leaf .leaf)))))) (.seq none .leaf (.seq none .leaf (.seq none .leaf (.seq none .leaf (.seq none .leaf (.seq (some [7]) .leaf .leaf)))))))) Tryz.func193
def m0:bn 68:=aD (.seq none .leaf (.seq none .leaf (.seq none .leaf (.seq none (.seq none .leaf (.one (.loop [11,4] .leaf))) .leaf)))) Tryz.func68
def ni:bR 39:=aX .leaf Tryz.func39
def nQ:bR 80:=aX (.seq none .leaf (.seq none (.seq none .leaf (.one (.loop [8] .leaf))) .leaf)) Tryz.func80
def pm:bn 51:=aD .leaf Tryz.func51
def yl:sY 12:=iB .leaf Tryz.func12
def iG:bn 8:=aD .leaf Tryz.func8
def wH:bn 313:=aD (.seq none .leaf (.seq none .leaf (.seq none (.seq none .leaf (.one (.loop [4,3] (.seq none .leaf (.seq none (.one (.seq (some [3]) .leaf .leaf)) .leaf))))) .leaf))) Tryz.func313
def qB:bn 190:=aD .leaf Tryz.func190
def jW:bR 103:=aX (.seq none .leaf (.seq none (.seq none .leaf (.one (.loop [8] .leaf))) .leaf)) Tryz.func103
def wm:bn 149:=aD .leaf Tryz.func149
def qk:bR 144:=aX .leaf Tryz.func144
def we:bn 221:=aD .leaf Tryz.func221
def jO:bn 33:=aD .leaf Tryz.func33
def dd:bR 46:=aX .leaf Tryz.func46
def Ad:bn 145:=aD .leaf Tryz.func145
def vM:nn 227:=fe .leaf Tryz.func227
def vJ:bn 328:=aD .leaf Tryz.func328
end Go.Proofs.YtgllldjiaglkcaaGreatDoor
