/- Made by program: the shallow forms, computed. -/
import Derived.Test.YtgllldjiaglkcaaGreatDoorZMpgb
set_option maxRecDepth 100000
set_option maxHeartbeats 4000000
namespace Go.Proofs.YtgllldjiaglkcaaGreatDoor
open Go
attribute [local irreducible] Run CondV az aO sOp cK cB bC eY eM bM Tryz.prog aD undef
def pO:bD 65:=aM (.seq none .leaf (.seq none .leaf (.seq none .leaf (.seq none .leaf (.seq none .leaf (.seq none .leaf (.seq none .leaf (.seq none .leaf (.seq none .leaf (.seq none .leaf (.seq none .leaf (.seq (some [8]) .leaf .leaf)))))))))))) Tryz.func65
def zQ:cc 264:=aY .leaf Tryz.func264
def tN:iI 22:=dN (.seq none .leaf (.seq none (.seq (some [27]) .leaf .leaf) (.seq none .leaf (.seq none .leaf (.seq none (.one (.loop [] .leaf)) (.seq none .leaf (.seq none .leaf (.seq none (.seq none .leaf (.one (.loop [58,9] .leaf))) .leaf)))))))) Tryz.func22
def rD:cc 174:=aY (.seq none .leaf (.seq (some []) (.one (.loop [] .leaf)) .leaf)) Tryz.func174
def lW:Ld 237:=ry (.seq none .leaf (.seq none .leaf (.seq none .leaf (.seq none (.seq none .leaf (.one (.loop [11,0] (.seq none .leaf (.seq (some [0]) .leaf .leaf))))) .leaf)))) Tryz.func237
def vW:cc 110:=aY (.seq none .leaf (.seq none .leaf (.seq (some []) (.seq none .leaf (.one (.seq none .leaf (.two .leaf (.seq none .leaf (.two .leaf (.seq none .leaf (.two (.one (.loop [] .leaf)) .leaf)))))))) .leaf))) Tryz.func110
def yD:cc 267:=aY (.seq none .leaf (.seq none .leaf (.seq none (.seq none .leaf (.one (.loop [6] (.seq none .leaf (.seq none (.one (.seq none .leaf (.seq (some []) .leaf .leaf))) .leaf))))) .leaf))) Tryz.func267
def zJ:cc 271:=aY (.seq none .leaf (.seq none .leaf (.seq none (.seq none .leaf (.one (.loop [6] .leaf))) .leaf))) Tryz.func271
def p6:cc 50:=aY (.seq none .leaf (.seq none .leaf (.seq none (.seq none .leaf (.one (.loop [6,5] .leaf))) (.seq (some [5]) (.seq none .leaf (.one (.seq none .leaf (.two (.one (.loop [5] .leaf)) .leaf)))) .leaf)))) Tryz.func50
def wc:y9 98:=lC .leaf Tryz.func98
def vH:cc 131:=aY (.seq none .leaf (.seq none .leaf (.seq none (.seq none .leaf (.one (.loop [7,6] (.seq none .leaf (.seq none (.one (.seq none .leaf (.seq none (.seq (some [27]) .leaf .leaf) .leaf))) .leaf))))) .leaf))) Tryz.func131
def zU:bD 235:=aM (.seq none .leaf (.seq none (.seq none .leaf (.one (.loop [3] .leaf))) .leaf)) Tryz.func235
def KZ:iI 148:=dN (.seq none .leaf (.seq none .leaf (.seq none (.seq (some [19]) .leaf .leaf) (.seq none (.seq none .leaf (.one (.seq none .leaf (.two .leaf (.seq none .leaf (.two .leaf (.seq none .leaf (.two (.seq none (.seq (some [70]) .leaf .leaf) .leaf) .leaf)))))))) .leaf)))) Tryz.func148
def Ik:cc 236:=aY (.seq none .leaf (.seq none (.seq none .leaf (.one (.loop [5] .leaf))) .leaf)) Tryz.func236
def pw:bD 169:=aM (.seq none .leaf (.seq none .leaf (.seq none .leaf (.seq none .leaf (.seq none .leaf (.seq (some [5]) (.seq (some [29]) .leaf .leaf) (.seq none (.seq (some [54]) .leaf .leaf) .leaf))))))) Tryz.func169
def vZ:iI 268:=dN .leaf Tryz.func268
def yR:cc 233:=aY .leaf Tryz.func233
def mV:bD 230:=aM .leaf Tryz.func230
def vK:bD 120:=aM .leaf Tryz.func120
def sF:bD 101:=aM (.seq none .leaf (.seq none (.seq none .leaf (.one (.loop [6] (.seq none .leaf (.seq none .leaf (.seq none (.one (.seq none .leaf (.seq (some [18]) .leaf .leaf))) .leaf)))))) .leaf)) Tryz.func101
def rJ:iI 175:=dN .leaf Tryz.func175
def zt:bD 225:=aM (.seq none .leaf (.seq none (.seq none .leaf (.one (.seq (some [4]) .leaf (.two .leaf (.seq (some [14]) .leaf (.two .leaf (.seq (some [17]) .leaf .leaf))))))) .leaf)) Tryz.func225
def zF:Gp 245:=rv .leaf Tryz.func245
def za:cc 239:=aY .leaf Tryz.func239
def vU:cc 144:=aY .leaf Tryz.func144
def p7:iI 215:=dN .leaf Tryz.func215
def wz:bD 311:=aM (.seq none .leaf (.seq none (.seq (some [8]) .leaf .leaf) .leaf)) Tryz.func311
def HM:bD 75:=aM .leaf Tryz.func75
def rn:bD 162:=aM .leaf Tryz.func162
def C3:iI 227:=dN .leaf Tryz.func227
def DM:bD 328:=aM .leaf Tryz.func328
end Go.Proofs.YtgllldjiaglkcaaGreatDoor
