/- Made by program: the shallow forms, computed. -/
import Derived.Test.YtgllldjiaglkcaaGreatDoorZUfgb
set_option maxRecDepth 100000
set_option maxHeartbeats 4000000
namespace Go.Proofs.YtgllldjiaglkcaaGreatDoor
open Go
attribute [local irreducible] Run CondV aq aK sOp c9 cS cd eR fk co Tryz.prog ao undef
def Ga:cC 58:=bm (.seq none .leaf (.seq none .leaf (.seq none (.seq none .leaf (.one (.loop [6,5] (.seq none .leaf (.seq (some [5]) .leaf .leaf))))) .leaf))) Tryz.func58
def nV:cC 16:=bm (.seq none .leaf (.seq none .leaf (.seq none .leaf (.seq none .leaf (.seq none (.seq none .leaf (.one (.loop [8,6] (.seq none .leaf (.seq (some [6]) .leaf .leaf))))) .leaf))))) Tryz.func16
def nJ:cC 15:=bm (.seq none .leaf (.seq none .leaf (.seq none .leaf (.seq none (.seq none .leaf (.one (.loop [31,6] (.seq none .leaf (.seq none .leaf (.seq (some [6]) (.one (.seq none .leaf (.seq none .leaf (.seq none (.seq (some [52]) .leaf .leaf) .leaf)))) .leaf)))))) .leaf)))) Tryz.func15
def tO:cC 53:=bm (.seq none .leaf (.seq none (.seq (some [31]) .leaf .leaf) .leaf)) Tryz.func53
def wd:cC 71:=bm (.seq none .leaf (.seq none .leaf (.seq (some []) (.seq none .leaf (.one (.seq none .leaf (.two .leaf (.seq none .leaf (.two .leaf (.seq none .leaf (.two .leaf (.seq none .leaf (.two (.one (.loop [] .leaf)) (.seq none .leaf (.two (.seq none .leaf (.one (.loop [6] .leaf))) .leaf)))))))))))) .leaf))) Tryz.func71
def zx:RD 289:=Jr (.seq none .leaf (.seq none .leaf (.one (.loop [1,12] (.one (.seq none .leaf (.seq none .leaf (.seq none .leaf (.seq none (.seq (some [39]) .leaf .leaf) .leaf))))))))) Tryz.func289
def yF:cC 271:=bm (.seq none .leaf (.seq none .leaf (.seq none (.seq none .leaf (.one (.loop [6] .leaf))) .leaf))) Tryz.func271
def nw:cC 166:=bm (.seq none .leaf (.seq none .leaf (.seq none (.seq none .leaf (.one (.loop [13,6] .leaf))) .leaf))) Tryz.func166
def rN:bQ 68:=aO (.seq none .leaf (.seq none .leaf (.seq none .leaf (.seq none (.seq none .leaf (.one (.loop [11,4] .leaf))) .leaf)))) Tryz.func68
def rD:bQ 36:=aO (.seq none .leaf (.seq none .leaf (.seq none (.seq none .leaf (.one (.loop [8,3] .leaf))) .leaf))) Tryz.func36
def rO:bQ 113:=aO .leaf Tryz.func113
def JV:bQ 55:=aO .leaf Tryz.func55
def sK:bQ 51:=aO .leaf Tryz.func51
def s7:bQ 176:=aO .leaf Tryz.func176
def nn:yB 229:=lE .leaf Tryz.func229
def yq:CW 100:=nY .leaf Tryz.func100
def Fz:cC 307:=bm (.seq none .leaf (.seq none (.seq none .leaf (.one (.loop [5] .leaf))) .leaf)) Tryz.func307
def zP:CW 245:=nY .leaf Tryz.func245
def fG:cC 105:=bm (.seq none .leaf (.seq none (.seq none .leaf (.one (.loop [8] .leaf))) .leaf)) Tryz.func105
def zI:bQ 47:=aO (.seq none .leaf (.seq (some [0]) .leaf .leaf)) Tryz.func47
def zW:bQ 165:=aO .leaf Tryz.func165
def vN:bQ 274:=aO .leaf Tryz.func274
def sY:bQ 73:=aO .leaf Tryz.func73
def r5:bQ 162:=aO .leaf Tryz.func162
def zd:CW 273:=nY .leaf Tryz.func273
end Go.Proofs.YtgllldjiaglkcaaGreatDoor
