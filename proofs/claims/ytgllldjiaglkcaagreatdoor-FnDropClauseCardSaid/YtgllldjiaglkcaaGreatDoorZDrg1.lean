/- Made by program: the shallow forms, computed. -/
import Derived.Test.YtgllldjiaglkcaaGreatDoorZDrgb
set_option maxRecDepth 100000
set_option maxHeartbeats 4000000
namespace Go.Proofs.YtgllldjiaglkcaaGreatDoor
open Go
attribute [local irreducible] Run CondV ai az sOp bN bJ bo dj dy bp Tryz.prog ar undef
def vU:bR 242:=aX (.seq none .leaf (.seq none .leaf (.seq none (.one (.loop [6] .leaf)) (.seq none .leaf (.seq none .leaf (.seq none .leaf (.seq none .leaf (.seq none (.seq none .leaf (.one (.loop [9,7] (.seq none .leaf (.seq (some [7]) .leaf .leaf))))) .leaf)))))))) Tryz.func242
def qf:wc 106:=j9 .leaf Tryz.func106
def ja:bn 41:=aD .leaf Tryz.func41
def FB:bn 140:=aD .leaf Tryz.func140
def iE:nn 69:=fe (.seq none .leaf (.seq none .leaf (.seq none (.seq none .leaf (.one (.loop [17] .leaf))) .leaf))) Tryz.func69
def qx:bn 120:=aD .leaf Tryz.func120
def Cz:bR 255:=aX (.seq none .leaf (.seq none .leaf (.seq (some [6]) .leaf (.seq none .leaf (.seq none .leaf (.seq none (.seq (some [33]) .leaf .leaf) (.seq (some [9]) .leaf (.seq none (.seq (some [54]) .leaf .leaf) (.seq (some [8]) .leaf .leaf))))))))) Tryz.func255
def gC:bR 104:=aX (.seq none .leaf (.seq none (.seq none .leaf (.one (.loop [8] .leaf))) .leaf)) Tryz.func104
def sW:nn 288:=fe .leaf Tryz.func288
def oH:bR 329:=aX (.seq none .leaf (.seq none (.seq (some [13]) .leaf .leaf) .leaf)) Tryz.func329
def sd:bn 42:=aD .leaf Tryz.func42
def oB:bn 164:=aD .leaf Tryz.func164
def iA:sY 257:=iB .leaf Tryz.func257
def fu:bR 44:=aX .leaf Tryz.func44
def qp:wc 118:=j9 .leaf Tryz.func118
def jQ:bn 220:=aD .leaf Tryz.func220
def r5:bn 309:=aD .leaf Tryz.func309
end Go.Proofs.YtgllldjiaglkcaaGreatDoor
