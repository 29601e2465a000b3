/- Made by program: the shallow forms, computed. -/
import Derived.Test.YtgllldjiaglkcaaGreatDoorZDrgb
set_option maxRecDepth 100000
set_option maxHeartbeats 4000000
namespace Go.Proofs.YtgllldjiaglkcaaGreatDoor
open Go
attribute [local irreducible] Run CondV ai az sOp bN bJ bo dj dy bp Tryz.prog ar undef
def wI:sY 226:=iB (.seq none .leaf (.seq none .leaf (.seq none .leaf (.seq none (.one (.loop [11] (.seq none .leaf (.one (.seq none .leaf (.seq none (.seq (some [48]) .leaf .leaf) .leaf)))))) .leaf)))) Tryz.func226
def wu:bn 290:=aD (.seq none .leaf (.seq none (.one (.seq none .leaf (.two .leaf (.seq none .leaf (.two (.seq none .leaf (.seq none .leaf (.seq (some [4]) .leaf .leaf))) (.seq (some [37]) .leaf .leaf)))))) .leaf)) Tryz.func290
def ij:sY 139:=iB (.seq none .leaf (.seq none .leaf (.seq none .leaf (.seq none (.seq (some [30]) .leaf .leaf) (.seq none .leaf (.seq none (.seq none .leaf (.one (.loop [42] .leaf))) .leaf)))))) Tryz.func139
def mW:bR 10:=aX (.seq none .leaf (.seq none (.seq (some [18]) .leaf .leaf) .leaf)) Tryz.func10
def tT:Je 289:=CL (.seq none .leaf (.seq none .leaf (.one (.loop [1,12] (.one (.seq none .leaf (.seq none .leaf (.seq none .leaf (.seq none (.seq (some [39]) .leaf .leaf) .leaf))))))))) Tryz.func289
def vV:bn 244:=aD (.seq none .leaf (.seq none .leaf (.seq none .leaf (.seq none .leaf (.seq none (.seq none .leaf (.one (.loop [4,3] (.seq none .leaf (.seq none (.one (.seq (some [3]) .leaf .leaf)) .leaf))))) (.seq (some [3]) .leaf .leaf)))))) Tryz.func244
def nY:bn 95:=aD .leaf Tryz.func95
def zk:Je 40:=CL (.seq none .leaf (.seq none .leaf (.seq none .leaf (.seq none (.seq none .leaf (.one (.loop [34] .leaf))) .leaf)))) Tryz.func40
def BM:nn 148:=fe (.seq none .leaf (.seq none .leaf (.seq none (.seq (some [19]) .leaf .leaf) (.seq none (.seq none .leaf (.one (.seq none .leaf (.two .leaf (.seq none .leaf (.two .leaf (.seq none .leaf (.two (.seq none (.seq (some [70]) .leaf .leaf) .leaf) .leaf)))))))) .leaf)))) Tryz.func148
def pj:sY 64:=iB .leaf Tryz.func64
def wv:bn 224:=aD (.seq none .leaf (.seq none (.seq none .leaf (.one (.loop [3] (.seq none .leaf (.seq none (.one (.seq (some [19]) .leaf .leaf)) .leaf))))) .leaf)) Tryz.func224
def jt:bR 45:=aX .leaf Tryz.func45
def tV:bR 222:=aX (.seq none .leaf (.seq none (.seq (some [12]) .leaf .leaf) (.seq none (.seq none .leaf (.one (.loop [5] .leaf))) .leaf))) Tryz.func222
def ol:bR 26:=aX (.seq none .leaf (.seq none (.seq none .leaf (.one (.seq (some [6]) .leaf (.two .leaf (.seq (some [18]) .leaf (.two .leaf (.seq (some [23]) .leaf .leaf))))))) .leaf)) Tryz.func26
def sj:bn 167:=aD (.seq none .leaf (.seq none (.seq none .leaf (.one (.seq (some [5]) .leaf (.two .leaf (.seq (some [15]) .leaf (.two .leaf (.seq (some [18]) .leaf .leaf))))))) .leaf)) Tryz.func167
def iC:bn 93:=aD .leaf Tryz.func93
def wG:nn 34:=fe .leaf Tryz.func34
def sN:bn 47:=aD (.seq none .leaf (.seq (some [0]) .leaf .leaf)) Tryz.func47
def sK:bn 165:=aD .leaf Tryz.func165
def qj:bn 274:=aD .leaf Tryz.func274
def zP:bn 75:=aD .leaf Tryz.func75
def zw:bn 177:=aD .leaf Tryz.func177
def se:wc 273:=j9 .leaf Tryz.func273
end Go.Proofs.YtgllldjiaglkcaaGreatDoor
