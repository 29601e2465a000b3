/- Made by program: the shallow forms, computed. -/
import Derived.Test.YtgllldjiaglkcaaGreatDoorZDrgb
set_option maxRecDepth 100000
set_option maxHeartbeats 4000000
namespace Go.Proofs.YtgllldjiaglkcaaGreatDoor
open Go
attribute [local irreducible] Run CondV ai az sOp bN bJ bo dj dy bp Tryz.prog ar undef
def jP:bn 143:=aD (.seq none .leaf (.seq none .leaf (.seq none (.seq none .leaf (.one (.loop [4] .leaf))) .leaf))) Tryz.func143
def jF:bn 97:=aD (.seq none .leaf (.seq none .leaf (.seq none (.seq none .leaf (.one (.loop [4] .leaf))) .leaf))) Tryz.func97
def nh:bR 174:=aX (.seq none .leaf (.seq (some []) (.one (.loop [] .leaf)) .leaf)) Tryz.func174
def p9:bR 71:=aX (.seq none .leaf (.seq none .leaf (.seq (some []) (.seq none .leaf (.one (.seq none .leaf (.two .leaf (.seq none .leaf (.two .leaf (.seq none .leaf (.two .leaf (.seq none .leaf (.two (.one (.loop [] .leaf)) (.seq none .leaf (.two (.seq none .leaf (.one (.loop [6] .leaf))) .leaf)))))))))))) .leaf))) Tryz.func71
def vE:bn 270:=aD (.seq none .leaf (.seq (some [4]) .leaf (.seq (some [0]) .leaf (.seq none (.seq (some [38]) .leaf .leaf) (.seq none .leaf (.seq none (.seq none .leaf (.one (.loop [6,5] (.seq none .leaf (.seq none (.one (.seq none (.seq (some [54]) .leaf .leaf) .leaf)) .leaf))))) (.seq (some [5]) .leaf .leaf))))))) Tryz.func270
def lI:bR 50:=aX (.seq none .leaf (.seq none .leaf (.seq none (.seq none .leaf (.one (.loop [6,5] .leaf))) (.seq (some [5]) (.seq none .leaf (.one (.seq none .leaf (.two (.one (.loop [5] .leaf)) .leaf)))) .leaf)))) Tryz.func50
def tH:bR 151:=aX (.seq none .leaf (.seq (some [1]) (.seq (some [16]) .leaf .leaf) (.seq none (.seq none .leaf (.one (.loop [25,1] .leaf))) .leaf))) Tryz.func151
def wN:bn 256:=aD (.seq none .leaf (.seq none .leaf (.seq none (.seq none .leaf (.one (.loop [4,3] (.seq none .leaf (.seq none (.one (.seq (some [3]) .leaf .leaf)) .leaf))))) .leaf))) Tryz.func256
def mN:bn 36:=aD (.seq none .leaf (.seq none .leaf (.seq none (.seq none .leaf (.one (.loop [8,3] .leaf))) .leaf))) Tryz.func36
def s5:bR 223:=aX (.seq none .leaf (.seq none .leaf (.seq none (.seq none .leaf (.one (.loop [6,5] (.seq none (.seq (some [16]) .leaf .leaf) .leaf)))) .leaf))) Tryz.func223
def BX:bn 55:=aD .leaf Tryz.func55
def mV:wc 109:=j9 .leaf Tryz.func109
def jV:bR 115:=aX .leaf Tryz.func115
def vu:bn 302:=aD (.seq none .leaf (.seq none .leaf (.seq none .leaf (.seq none .leaf (.seq none (.one (.loop [0,3] .leaf)) .leaf))))) Tryz.func302
def qt:bn 189:=aD .leaf Tryz.func189
def lg:bn 94:=aD .leaf Tryz.func94
def dL:bR 105:=aX (.seq none .leaf (.seq none (.seq none .leaf (.one (.loop [8] .leaf))) .leaf)) Tryz.func105
def tB:bn 74:=aD .leaf Tryz.func74
def wE:nn 204:=fe .leaf Tryz.func204
def qc:bn 311:=aD (.seq none .leaf (.seq none (.seq (some [8]) .leaf .leaf) .leaf)) Tryz.func311
def tg:wc 112:=j9 .leaf Tryz.func112
def zz:bn 213:=aD .leaf Tryz.func213
def nV:bn 286:=aD .leaf Tryz.func286
end Go.Proofs.YtgllldjiaglkcaaGreatDoor
