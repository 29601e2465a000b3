/- Made by program: the shallow forms, computed. -/
import Derived.Test.YtgllldjiaglkcaaGreatDoorZMpgb
set_option maxRecDepth 100000
set_option maxHeartbeats 4000000
namespace Go.Proofs.YtgllldjiaglkcaaGreatDoor
open Go
attribute [local irreducible] Run CondV az aO sOp cK cB bC eY eM bM Tryz.prog aD undef
def qd:iI 121:=dN (.seq none .leaf (.seq none .leaf (.seq none (.one (.seq (some [14]) .leaf (.two .leaf (.seq none .leaf (.two .leaf (.seq none .leaf (.two .leaf (.seq (some [48]) .leaf .leaf)))))))) (.seq none (.seq none .leaf (.one (.loop [80] .leaf))) .leaf)))) Tryz.func121
def zA:iI 219:=dN (.seq none .leaf (.seq none .leaf (.seq none (.seq (some [57]) .leaf .leaf) (.seq none (.seq none .leaf (.one (.loop [7] .leaf))) .leaf)))) Tryz.func219
def oA:bD 143:=aM (.seq none .leaf (.seq none .leaf (.seq none (.seq none .leaf (.one (.loop [4] .leaf))) .leaf))) Tryz.func143
def g6:iI 263:=dN (.seq none .leaf (.seq none .leaf (.seq none .leaf (.seq none (.one (.loop [10,9] .leaf)) .leaf)))) Tryz.func263
def C0:cc 156:=aY (.seq none .leaf (.seq none (.seq (some [13]) .leaf .leaf) (.seq none .leaf (.seq none .leaf (.seq none (.seq none .leaf (.one (.loop [6] .leaf))) .leaf))))) Tryz.func156
def uo:bD 216:=aM (.seq none .leaf (.seq none .leaf (.seq none (.seq none .leaf (.one (.loop [9,4] (.seq none .leaf (.seq none .leaf (.seq (some [4]) .leaf .leaf)))))) .leaf))) Tryz.func216
def lT:Ld 232:=ry (.seq none .leaf (.seq none .leaf (.seq none .leaf (.one (.loop [26] (.seq none .leaf (.seq none .leaf (.seq (some []) .leaf .leaf)))))))) Tryz.func232
def D5:cc 183:=aY (.seq none .leaf (.seq none (.seq none .leaf (.two (.seq none (.seq none .leaf (.one (.loop [5] .leaf))) .leaf) .leaf)) (.seq none (.seq none .leaf (.one (.loop [6,0] .leaf))) .leaf))) Tryz.func183
def rm:cc 54:=aY (.seq none .leaf (.seq none .leaf (.seq none (.seq none .leaf (.one (.loop [10,5] (.seq none .leaf (.seq none .leaf (.seq (some [5]) .leaf .leaf)))))) .leaf))) Tryz.func54
def yU:cc 170:=aY (.seq none .leaf (.seq none .leaf (.seq none (.one (.loop [1,6] .leaf)) .leaf))) Tryz.func170
def rF:cc 63:=aY (.seq none .leaf (.seq none (.seq (some [14]) .leaf .leaf) (.seq (some [1]) .leaf .leaf))) Tryz.func63
def rE:bD 68:=aM (.seq none .leaf (.seq none .leaf (.seq none .leaf (.seq none (.seq none .leaf (.one (.loop [11,4] .leaf))) .leaf)))) Tryz.func68
def CV:bD 77:=aM (.seq none .leaf (.seq none .leaf (.seq none (.seq none .leaf (.one (.loop [8,3] .leaf))) .leaf))) Tryz.func77
def ul:cc 80:=aY (.seq none .leaf (.seq none (.seq none .leaf (.one (.loop [8] .leaf))) .leaf)) Tryz.func80
def lB:cc 296:=aY .leaf Tryz.func296
def p5:bD 185:=aM .leaf Tryz.func185
def oy:cc 200:=aY .leaf Tryz.func200
def DJ:cc 318:=aY .leaf Tryz.func318
def jP:cc 116:=aY .leaf Tryz.func116
def rp:bD 150:=aM .leaf Tryz.func150
def jN:cc 104:=aY (.seq none .leaf (.seq none (.seq none .leaf (.one (.loop [8] .leaf))) .leaf)) Tryz.func104
def wF:bD 190:=aM .leaf Tryz.func190
def lI:bD 93:=aM .leaf Tryz.func93
def sE:cc 329:=aY (.seq none .leaf (.seq none (.seq (some [13]) .leaf .leaf) .leaf)) Tryz.func329
def y5:bD 74:=aM .leaf Tryz.func74
def Dl:iI 204:=dN .leaf Tryz.func204
def DP:cc 310:=aY .leaf Tryz.func310
def tG:bD 73:=aM .leaf Tryz.func73
def HX:bD 145:=aM .leaf Tryz.func145
def ol:bD 220:=aM .leaf Tryz.func220
def Av:bD 309:=aM .leaf Tryz.func309
end Go.Proofs.YtgllldjiaglkcaaGreatDoor
