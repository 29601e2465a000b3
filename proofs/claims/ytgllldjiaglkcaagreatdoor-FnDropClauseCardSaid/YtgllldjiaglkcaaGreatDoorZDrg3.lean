/- Made by program: the shallow forms, computed. -/
import Derived.Test.YtgllldjiaglkcaaGreatDoorZDrgb
set_option maxRecDepth 100000
set_option maxHeartbeats 4000000
namespace Go.Proofs.YtgllldjiaglkcaaGreatDoor
open Go
attribute [local irreducible] Run CondV ai az sOp bN bJ bo dj dy bp Tryz.prog ar undef
def kO:bn 65:=aD (.seq none .leaf (.seq none .leaf (.seq none .leaf (.seq none .leaf (.seq none .leaf (.seq none .leaf (.seq none .leaf (.seq none .leaf (.seq none .leaf (.seq none .leaf (.seq none .leaf (.seq (some [8]) .leaf .leaf)))))))))))) Tryz.func65
def qm:bR 110:=aX (.seq none .leaf (.seq none .leaf (.seq (some []) (.seq none .leaf (.one (.seq none .leaf (.two .leaf (.seq none .leaf (.two .leaf (.seq none .leaf (.two (.one (.loop [] .leaf)) .leaf)))))))) .leaf))) Tryz.func110
def s8:nn 254:=fe (.seq none .leaf (.seq none (.seq (some [23]) .leaf .leaf) (.seq none .leaf (.seq none (.seq (some [65]) .leaf .leaf) (.seq none (.seq (some [83]) .leaf .leaf) (.seq none (.seq (some [106]) .leaf .leaf) .leaf)))))) Tryz.func254
def om:bR 11:=aX (.seq none .leaf (.seq none .leaf (.seq none (.seq none .leaf (.one (.loop [5] .leaf))) .leaf))) Tryz.func11
def qb:sY 98:=iB .leaf Tryz.func98
def mU:nn 99:=fe (.seq none .leaf (.seq none .leaf (.seq none .leaf (.seq none .leaf (.seq none (.one (.loop [9,10] .leaf)) .leaf))))) Tryz.func99
def mY:bR 9:=aX (.seq none .leaf (.seq none (.seq (some [16]) .leaf .leaf) .leaf)) Tryz.func9
def te:bn 82:=aD (.seq none .leaf (.seq none .leaf (.seq none (.seq none .leaf (.one (.loop [8,3] .leaf))) .leaf))) Tryz.func82
def lu:bn 13:=aD .leaf Tryz.func13
def ll:bn 169:=aD (.seq none .leaf (.seq none .leaf (.seq none .leaf (.seq none .leaf (.seq none .leaf (.seq (some [5]) (.seq (some [29]) .leaf .leaf) (.seq none (.seq (some [54]) .leaf .leaf) .leaf))))))) Tryz.func169
def jL:bR 200:=aX .leaf Tryz.func200
def nl:bn 150:=aD .leaf Tryz.func150
def mP:nn 175:=fe .leaf Tryz.func175
def z0:bR 307:=aX (.seq none .leaf (.seq none (.seq none .leaf (.one (.loop [5] .leaf))) .leaf)) Tryz.func307
def rO:bR 312:=aX (.seq none .leaf (.seq none .leaf (.seq none (.seq (some [15]) .leaf .leaf) .leaf))) Tryz.func312
def pg:bn 25:=aD .leaf Tryz.func25
def js:bR 66:=aX .leaf Tryz.func66
def oU:bn 203:=aD .leaf Tryz.func203
def vt:bR 310:=aX .leaf Tryz.func310
def qo:bR 111:=aX .leaf Tryz.func111
def wz:bn 194:=aD .leaf Tryz.func194
def wj:bn 276:=aD .leaf Tryz.func276
end Go.Proofs.YtgllldjiaglkcaaGreatDoor
