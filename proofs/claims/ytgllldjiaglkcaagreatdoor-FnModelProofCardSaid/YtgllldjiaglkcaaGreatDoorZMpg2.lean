/- Made by program: the shallow forms, computed. -/
import Derived.Test.YtgllldjiaglkcaaGreatDoorZMpgb
set_option maxRecDepth 100000
set_option maxHeartbeats 4000000
namespace Go.Proofs.YtgllldjiaglkcaaGreatDoor
open Go
attribute [local irreducible] Run CondV az aO sOp cK cB bC eY eM bM Tryz.prog aD undef
def D9:cc 90:=aY (.seq none .leaf (.seq none .leaf (.seq none .leaf (.seq none .leaf (.seq none .leaf (.seq none .leaf (.seq none (.seq none .leaf (.one (.loop [72] .leaf))) .leaf))))))) Tryz.func90
def DH:cc 168:=aY (.seq none .leaf (.seq none .leaf (.seq none .leaf (.seq none (.seq none .leaf (.one (.loop [7,6,5] (.seq none .leaf (.seq (some [6,5]) (.one (.seq (some [25]) .leaf .leaf)) .leaf))))) .leaf)))) Tryz.func168
def zz:Ld 289:=ry (.seq none .leaf (.seq none .leaf (.one (.loop [1,12] (.one (.seq none .leaf (.seq none .leaf (.seq none .leaf (.seq none (.seq (some [39]) .leaf .leaf) .leaf))))))))) Tryz.func289
def wo:cc 188:=aY (.seq none .leaf (.seq none .leaf (.seq none (.seq none .leaf (.one (.loop [6,5] .leaf))) .leaf))) Tryz.func188
def rI:bD 231:=aM (.seq none .leaf (.seq none (.seq (some [18]) .leaf .leaf) .leaf)) Tryz.func231
def jM:iI 297:=dN (.seq none .leaf (.seq none (.seq none .leaf (.one (.loop [13] .leaf))) .leaf)) Tryz.func297
def C8:bD 256:=aM (.seq none .leaf (.seq none .leaf (.seq none (.seq none .leaf (.one (.loop [4,3] (.seq none .leaf (.seq none (.one (.seq (some [3]) .leaf .leaf)) .leaf))))) .leaf))) Tryz.func256
def zW:bD 82:=aM (.seq none .leaf (.seq none .leaf (.seq none (.seq none .leaf (.one (.loop [8,3] .leaf))) .leaf))) Tryz.func82
def zG:cc 223:=aY (.seq none .leaf (.seq none .leaf (.seq none (.seq none .leaf (.one (.loop [6,5] (.seq none (.seq (some [16]) .leaf .leaf) .leaf)))) .leaf))) Tryz.func223
def tP:y9 64:=lC .leaf Tryz.func64
def uu:bD 51:=aM .leaf Tryz.func51
def lJ:iI 69:=dN (.seq none .leaf (.seq none .leaf (.seq none (.seq none .leaf (.one (.loop [17] .leaf))) .leaf))) Tryz.func69
def tz:cc 261:=aY .leaf Tryz.func261
def rP:bD 19:=aM .leaf Tryz.func19
def lF:bD 18:=aM .leaf Tryz.func18
def yI:Gp 100:=rv .leaf Tryz.func100
def z9:bD 167:=aM (.seq none .leaf (.seq none (.seq none .leaf (.one (.seq (some [5]) .leaf (.two .leaf (.seq (some [15]) .leaf (.two .leaf (.seq (some [18]) .leaf .leaf))))))) .leaf)) Tryz.func167
def zg:iI 288:=dN .leaf Tryz.func288
def Ah:cc 312:=aY (.seq none .leaf (.seq none .leaf (.seq none (.seq (some [15]) .leaf .leaf) .leaf))) Tryz.func312
def tp:bD 25:=aM .leaf Tryz.func25
def sR:bD 163:=aM .leaf Tryz.func163
def DF:bD 221:=aM .leaf Tryz.func221
def r5:cc 31:=aY .leaf Tryz.func31
def r6:bD 89:=aM .leaf Tryz.func89
def HH:bD 177:=aM .leaf Tryz.func177
def yS:cc 272:=aY .leaf Tryz.func272
def zw:bD 330:=aM .leaf Tryz.func330
end Go.Proofs.YtgllldjiaglkcaaGreatDoor
