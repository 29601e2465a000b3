/- Made by program: the shallow forms, computed. -/
import Derived.Test.YtgllldjiaglkcaaGreatDoorZMpgb
set_option maxRecDepth 100000
set_option maxHeartbeats 4000000
namespace Go.Proofs.YtgllldjiaglkcaaGreatDoor
open Go
attribute [local irreducible] Run CondV az aO sOp cK cB bC eY eM bM Tryz.prog aD undef
def ro:Ld 138:=ry (.seq none .leaf (.seq none .leaf (.seq none (.seq none .leaf (.one (.loop [30] (.seq none .leaf (.seq none .leaf (.seq none (.one (.seq none .leaf (.seq none .leaf (.seq none .leaf (.seq none .leaf (.seq none .leaf (.seq none .leaf (.seq (some []) .leaf (.seq none .leaf (.seq none .leaf (.seq none (.seq none .leaf (.one (.loop [120,17] .leaf))) .leaf))))))))))) .leaf)))))) .leaf))) Tryz.func138
def CB:y9 226:=lC (.seq none .leaf (.seq none .leaf (.seq none .leaf (.seq none (.one (.loop [11] (.seq none .leaf (.one (.seq none .leaf (.seq none (.seq (some [48]) .leaf .leaf) .leaf)))))) .leaf)))) Tryz.func226
def oj:bD 97:=aM (.seq none .leaf (.seq none .leaf (.seq none (.seq none .leaf (.one (.loop [4] .leaf))) .leaf))) Tryz.func97
def uL:cc 300:=aY (.seq none .leaf (.seq none .leaf (.seq none .leaf (.seq none .leaf (.seq none .leaf (.seq none (.seq none .leaf (.one (.loop [5] .leaf))) .leaf)))))) Tryz.func300
def Ab:iI 67:=dN (.seq none .leaf (.seq none .leaf (.seq none (.seq none .leaf (.one (.loop [8] (.seq none .leaf (.seq (some []) .leaf .leaf))))) .leaf))) Tryz.func67
def wk:cc 71:=aY (.seq none .leaf (.seq none .leaf (.seq (some []) (.seq none .leaf (.one (.seq none .leaf (.two .leaf (.seq none .leaf (.two .leaf (.seq none .leaf (.two .leaf (.seq none .leaf (.two (.one (.loop [] .leaf)) (.seq none .leaf (.two (.seq none .leaf (.one (.loop [6] .leaf))) .leaf)))))))))))) .leaf))) Tryz.func71
def Ad:iI 254:=dN (.seq none .leaf (.seq none (.seq (some [23]) .leaf .leaf) (.seq none .leaf (.seq none (.seq (some [65]) .leaf .leaf) (.seq none (.seq (some [83]) .leaf .leaf) (.seq none (.seq (some [106]) .leaf .leaf) .leaf)))))) Tryz.func254
def vF:cc 240:=aY (.seq none .leaf (.seq none .leaf (.seq (some [6]) .leaf (.seq none .leaf (.seq none (.one (.loop [6] (.seq none (.seq (some [25]) .leaf .leaf) .leaf))) (.seq none .leaf (.seq none (.seq (some [50]) .leaf .leaf) (.seq (some [8]) .leaf .leaf)))))))) Tryz.func240
def uq:bD 187:=aM (.seq none .leaf (.seq none (.seq (some [16]) .leaf .leaf) (.seq none .leaf (.seq none (.seq none .leaf (.one (.loop [4,3] .leaf))) (.seq none .leaf (.seq none (.seq none .leaf (.one (.loop [6] .leaf))) .leaf)))))) Tryz.func187
def ru:iI 99:=dN (.seq none .leaf (.seq none .leaf (.seq none .leaf (.seq none .leaf (.seq none (.one (.loop [9,10] .leaf)) .leaf))))) Tryz.func99
def Ia:Ld 40:=ry (.seq none .leaf (.seq none .leaf (.seq none .leaf (.seq none (.seq none .leaf (.one (.loop [34] .leaf))) .leaf)))) Tryz.func40
def wx:Gp 142:=rv .leaf Tryz.func142
def JT:bD 295:=aM .leaf Tryz.func295
def Dv:bD 258:=aM .leaf Tryz.func258
def qj:cc 294:=aY .leaf Tryz.func294
def qm:bD 262:=aM .leaf Tryz.func262
def nW:cc 141:=aY .leaf Tryz.func141
def wg:cc 319:=aY .leaf Tryz.func319
def zr:cc 222:=aY (.seq none .leaf (.seq none (.seq (some [12]) .leaf .leaf) (.seq none (.seq none .leaf (.one (.loop [5] .leaf))) .leaf))) Tryz.func222
def oq:bD 315:=aM .leaf Tryz.func315
def tC:cc 26:=aY (.seq none .leaf (.seq none (.seq none .leaf (.one (.seq (some [6]) .leaf (.two .leaf (.seq (some [18]) .leaf (.two .leaf (.seq (some [23]) .leaf .leaf))))))) .leaf)) Tryz.func26
def GH:cc 307:=aY (.seq none .leaf (.seq none (.seq none .leaf (.one (.loop [5] .leaf))) .leaf)) Tryz.func307
def pt:bD 158:=aM (.seq none .leaf (.seq none (.seq (some [15]) .leaf .leaf) .leaf)) Tryz.func158
def DO:bD 149:=aM .leaf Tryz.func149
def mO:cc 66:=aY .leaf Tryz.func66
def sO:bD 203:=aM .leaf Tryz.func203
def Ig:bD 303:=aM .leaf Tryz.func303
def eO:cc 46:=aY .leaf Tryz.func46
def v9:Gp 118:=rv .leaf Tryz.func118
def jm:cc 214:=aY .leaf Tryz.func214
def sT:bD 286:=aM .leaf Tryz.func286
end Go.Proofs.YtgllldjiaglkcaaGreatDoor
