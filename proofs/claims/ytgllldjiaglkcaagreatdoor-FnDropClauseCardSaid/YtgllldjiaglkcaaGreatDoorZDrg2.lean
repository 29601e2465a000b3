/- Made by program: the shallow forms, computed. -/
import Derived.Test.YtgllldjiaglkcaaGreatDoorZDrgb
set_option maxRecDepth 100000
set_option maxHeartbeats 4000000
namespace Go.Proofs.YtgllldjiaglkcaaGreatDoor
open Go
attribute [local irreducible] Run CondV ai az sOp bN bJ bo dj dy bp Tryz.prog ar undef
def mS:Je 138:=CL (.seq none .leaf (.seq none .leaf (.seq none (.seq none .leaf (.one (.loop [30] (.seq none .leaf (.seq none .leaf (.seq none (.one (.seq none .leaf (.seq none .leaf (.seq none .leaf (.seq none .leaf (.seq none .leaf (.seq none .leaf (.seq (some []) .leaf (.seq none .leaf (.seq none .leaf (.seq none (.seq none .leaf (.one (.loop [120,17] .leaf))) .leaf))))))))))) .leaf)))))) .leaf))) Tryz.func138
def vY:bn 308:=aD (.seq none .leaf (.seq none .leaf (.seq none (.one (.loop [3] .leaf)) .leaf))) Tryz.func308
def iQ:bR 78:=aX (.seq none .leaf (.seq none .leaf (.seq none .leaf (.seq none .leaf (.seq none (.seq none .leaf (.one (.loop [20] .leaf))) .leaf))))) Tryz.func78
def tA:bR 271:=aX (.seq none .leaf (.seq none .leaf (.seq none (.seq none .leaf (.one (.loop [6] .leaf))) .leaf))) Tryz.func271
def tN:bR 170:=aX (.seq none .leaf (.seq none .leaf (.seq none (.one (.loop [1,6] .leaf)) .leaf))) Tryz.func170
def jM:bR 166:=aX (.seq none .leaf (.seq none .leaf (.seq none (.seq none .leaf (.one (.loop [13,6] .leaf))) .leaf))) Tryz.func166
def gz:bn 14:=aD (.seq none .leaf (.seq none .leaf (.seq none .leaf (.seq (some [5]) .leaf .leaf)))) Tryz.func14
def tK:bn 38:=aD (.seq none .leaf (.seq none .leaf (.seq none (.seq none .leaf (.one (.loop [4,3] .leaf))) .leaf))) Tryz.func38
def vw:bn 77:=aD (.seq none .leaf (.seq none .leaf (.seq none (.seq none .leaf (.one (.loop [8,3] .leaf))) .leaf))) Tryz.func77
def zi:bn 136:=aD .leaf Tryz.func136
def nj:bR 192:=aX (.seq none (.seq none .leaf (.one (.loop [13] .leaf))) .leaf) Tryz.func192
def pp:bn 101:=aD (.seq none .leaf (.seq none (.seq none .leaf (.one (.loop [6] (.seq none .leaf (.seq none .leaf (.seq none (.one (.seq none .leaf (.seq (some [18]) .leaf .leaf))) .leaf)))))) .leaf)) Tryz.func101
def tL:wc 100:=j9 .leaf Tryz.func100
def sJ:bn 225:=aD (.seq none .leaf (.seq none (.seq none .leaf (.one (.seq (some [4]) .leaf (.two .leaf (.seq (some [14]) .leaf (.two .leaf (.seq (some [17]) .leaf .leaf))))))) .leaf)) Tryz.func225
def sm:wc 245:=j9 .leaf Tryz.func245
def tz:bR 239:=aX .leaf Tryz.func239
def pe:bn 163:=aD .leaf Tryz.func163
def jU:bn 228:=aD .leaf Tryz.func228
def ig:bR 43:=aX .leaf Tryz.func43
def o8:bn 73:=aD .leaf Tryz.func73
def mD:bn 162:=aD .leaf Tryz.func162
def sS:bR 272:=aX .leaf Tryz.func272
def sC:bn 330:=aD .leaf Tryz.func330
end Go.Proofs.YtgllldjiaglkcaaGreatDoor
