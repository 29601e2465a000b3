/- Made by program: the shallow forms, computed. -/
import Derived.Test.YtgllldjiaglkcaaGreatDoorZMagb
set_option maxRecDepth 100000
set_option maxHeartbeats 4000000
namespace Go.Proofs.YtgllldjiaglkcaaGreatDoor
open Go
attribute [local irreducible] Run CondV aw aN sOp cN cU bE eZ eO bD Tryz.prog aF undef
def p7:iU 121:=dV (.seq none .leaf (.seq none .leaf (.seq none (.one (.seq (some [14]) .leaf (.two .leaf (.seq none .leaf (.two .leaf (.seq none .leaf (.two .leaf (.seq (some [48]) .leaf .leaf)))))))) (.seq none (.seq none .leaf (.one (.loop [80] .leaf))) .leaf)))) Tryz.func121
def D9:yN 226:=lG (.seq none .leaf (.seq none .leaf (.seq none .leaf (.seq none (.one (.loop [11] (.seq none .leaf (.one (.seq none .leaf (.seq none (.seq (some [48]) .leaf .leaf) .leaf)))))) .leaf)))) Tryz.func226
def rT:bY 174:=aZ (.seq none .leaf (.seq (some []) (.one (.loop [] .leaf)) .leaf)) Tryz.func174
def DU:bY 156:=aZ (.seq none .leaf (.seq none (.seq (some [13]) .leaf .leaf) (.seq none .leaf (.seq none .leaf (.seq none (.seq none .leaf (.one (.loop [6] .leaf))) .leaf))))) Tryz.func156
def zP:bY 267:=aZ (.seq none .leaf (.seq none .leaf (.seq none (.seq none .leaf (.one (.loop [6] (.seq none .leaf (.seq none (.one (.seq none .leaf (.seq (some []) .leaf .leaf))) .leaf))))) .leaf))) Tryz.func267
def oB:bB 107:=aL (.seq none .leaf (.seq none .leaf (.seq none .leaf (.seq none (.seq (some [23]) .leaf .leaf) (.seq none (.seq none .leaf (.one (.loop [6,4] .leaf))) .leaf))))) Tryz.func107
def Im:bY 186:=aZ (.seq none .leaf (.seq none .leaf (.seq none (.seq none .leaf (.one (.loop [13] .leaf))) .leaf))) Tryz.func186
def zK:bY 151:=aZ (.seq none .leaf (.seq (some [1]) (.seq (some [16]) .leaf .leaf) (.seq none (.seq none .leaf (.one (.loop [25,1] .leaf))) .leaf))) Tryz.func151
def jT:iU 297:=dV (.seq none .leaf (.seq none (.seq none .leaf (.one (.loop [13] .leaf))) .leaf)) Tryz.func297
def DH:bB 256:=aL (.seq none .leaf (.seq none .leaf (.seq none (.seq none .leaf (.one (.loop [4,3] (.seq none .leaf (.seq none (.one (.seq (some [3]) .leaf .leaf)) .leaf))))) .leaf))) Tryz.func256
def pj:bB 96:=aL (.seq none .leaf (.seq none (.seq none .leaf (.one (.loop [3] (.seq none (.seq (some [12]) .leaf .leaf) .leaf)))) .leaf)) Tryz.func96
def yi:bY 223:=aZ (.seq none .leaf (.seq none .leaf (.seq none (.seq none .leaf (.one (.loop [6,5] (.seq none (.seq (some [16]) .leaf .leaf) .leaf)))) .leaf))) Tryz.func223
def uA:bY 80:=aZ (.seq none .leaf (.seq none (.seq none .leaf (.one (.loop [8] .leaf))) .leaf)) Tryz.func80
def lD:bY 296:=aZ .leaf Tryz.func296
def vI:iU 268:=dV .leaf Tryz.func268
def zO:bY 233:=aZ .leaf Tryz.func233
def Gs:yN 12:=lG .leaf Tryz.func12
def kX:bB 61:=aL .leaf Tryz.func61
def yr:bY 222:=aZ (.seq none .leaf (.seq none (.seq (some [12]) .leaf .leaf) (.seq none (.seq none .leaf (.one (.loop [5] .leaf))) .leaf))) Tryz.func222
def rt:iU 175:=dV .leaf Tryz.func175
def DJ:bB 313:=aL (.seq none .leaf (.seq none .leaf (.seq none (.seq none .leaf (.one (.loop [4,3] (.seq none .leaf (.seq none (.one (.seq (some [3]) .leaf .leaf)) .leaf))))) .leaf))) Tryz.func313
def zX:DT 245:=oF .leaf Tryz.func245
def v6:bY 23:=aZ .leaf Tryz.func23
def zc:bB 47:=aL (.seq none .leaf (.seq (some [0]) .leaf .leaf)) Tryz.func47
def DL:bB 172:=aL .leaf Tryz.func172
def D5:bY 310:=aZ .leaf Tryz.func310
def FV:bB 145:=aL .leaf Tryz.func145
def z3:bY 272:=aZ .leaf Tryz.func272
end Go.Proofs.YtgllldjiaglkcaaGreatDoor
