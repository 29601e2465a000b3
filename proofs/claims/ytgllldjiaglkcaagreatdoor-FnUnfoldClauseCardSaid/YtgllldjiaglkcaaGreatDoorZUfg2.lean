/- Made by program: the shallow forms, computed. -/
import Derived.Test.YtgllldjiaglkcaaGreatDoorZUfgb
set_option maxRecDepth 100000
set_option maxHeartbeats 4000000
namespace Go.Proofs.YtgllldjiaglkcaaGreatDoor
open Go
attribute [local irreducible] Run CondV aq aK sOp c9 cR cd eR ff cm Tryz.prog ao undef
def Gc:cC 58:=bm (.seq none .leaf (.seq none .leaf (.seq none (.seq none .leaf (.one (.loop [6,5] (.seq none .leaf (.seq (some [5]) .leaf .leaf))))) .leaf))) Tryz.func58
def nw:cC 16:=bm (.seq none .leaf (.seq none .leaf (.seq none .leaf (.seq none .leaf (.seq none (.seq none .leaf (.one (.loop [8,6] (.seq none .leaf (.seq (some [6]) .leaf .leaf))))) .leaf))))) Tryz.func16
def mX:cC 15:=bm (.seq none .leaf (.seq none .leaf (.seq none .leaf (.seq none (.seq none .leaf (.one (.loop [31,6] (.seq none .leaf (.seq none .leaf (.seq (some [6]) (.one (.seq none .leaf (.seq none .leaf (.seq none (.seq (some [52]) .leaf .leaf) .leaf)))) .leaf)))))) .leaf)))) Tryz.func15
def ud:cC 53:=bm (.seq none .leaf (.seq none (.seq (some [31]) .leaf .leaf) .leaf)) Tryz.func53
def vN:cC 71:=bm (.seq none .leaf (.seq none .leaf (.seq (some []) (.seq none .leaf (.one (.seq none .leaf (.two .leaf (.seq none .leaf (.two .leaf (.seq none .leaf (.two .leaf (.seq none .leaf (.two (.one (.loop [] .leaf)) (.seq none .leaf (.two (.seq none .leaf (.one (.loop [6] .leaf))) .leaf)))))))))))) .leaf))) Tryz.func71
def zQ:R4 289:=JO (.seq none .leaf (.seq none .leaf (.one (.loop [1,12] (.one (.seq none .leaf (.seq none .leaf (.seq none .leaf (.seq none (.seq (some [39]) .leaf .leaf) .leaf))))))))) Tryz.func289
def zE:cC 271:=bm (.seq none .leaf (.seq none .leaf (.seq none (.seq none .leaf (.one (.loop [6] .leaf))) .leaf))) Tryz.func271
def nU:cC 166:=bm (.seq none .leaf (.seq none .leaf (.seq none (.seq none .leaf (.one (.loop [13,6] .leaf))) .leaf))) Tryz.func166
def rp:bR 68:=aO (.seq none .leaf (.seq none .leaf (.seq none .leaf (.seq none (.seq none .leaf (.one (.loop [11,4] .leaf))) .leaf)))) Tryz.func68
def rx:bR 36:=aO (.seq none .leaf (.seq none .leaf (.seq none (.seq none .leaf (.one (.loop [8,3] .leaf))) .leaf))) Tryz.func36
def ry:bR 113:=aO .leaf Tryz.func113
def IO:bR 55:=aO .leaf Tryz.func55
def tR:bR 51:=aO .leaf Tryz.func51
def uG:bR 176:=aO .leaf Tryz.func176
def mZ:yc 229:=lK .leaf Tryz.func229
def yC:BV 100:=nV .leaf Tryz.func100
def F9:cC 307:=bm (.seq none .leaf (.seq none (.seq none .leaf (.one (.loop [5] .leaf))) .leaf)) Tryz.func307
def yy:BV 245:=nV .leaf Tryz.func245
def fG:cC 105:=bm (.seq none .leaf (.seq none (.seq none .leaf (.one (.loop [8] .leaf))) .leaf)) Tryz.func105
def yz:bR 47:=aO (.seq none .leaf (.seq (some [0]) .leaf .leaf)) Tryz.func47
def xU:bR 165:=aO .leaf Tryz.func165
def vz:bR 274:=aO .leaf Tryz.func274
def tE:bR 73:=aO .leaf Tryz.func73
def rV:bR 162:=aO .leaf Tryz.func162
def z8:BV 273:=nV .leaf Tryz.func273
end Go.Proofs.YtgllldjiaglkcaaGreatDoor
