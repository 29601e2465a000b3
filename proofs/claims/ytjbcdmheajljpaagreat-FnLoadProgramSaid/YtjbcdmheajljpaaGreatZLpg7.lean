/- Made by program: the shallow forms, computed. -/
import Derived.Test.YtjbcdmheajljpaaGreatZLpgb
set_option maxRecDepth 100000
set_option maxHeartbeats 4000000
namespace Go.Proofs.YtjbcdmheajljpaaGreat
open Go
attribute [local irreducible] Run CondV aC aU sOp dh bR bI eN fa bO Tryz.prog aE undef
def vE:cR 146:=bm (.seq none .leaf (.seq none .leaf (.seq none (.seq none .leaf (.one (.loop [7,6] (.seq none .leaf (.seq none (.one (.seq none .leaf (.seq (some [8]) .leaf .leaf))) .leaf))))) (.seq none .leaf (.seq none .leaf (.seq none .leaf (.seq none (.seq none .leaf (.one (.loop [10] (.seq none .leaf (.seq (some []) .leaf .leaf))))) .leaf))))))) Tryz.func146
def mB:cR 110:=bm (.seq none .leaf (.seq none .leaf (.seq none (.seq none .leaf (.one (.loop [18] (.seq none .leaf (.seq none .leaf (.seq (some []) .leaf .leaf)))))) (.seq none .leaf (.seq (some [9]) .leaf .leaf))))) Tryz.func110
def lF:bS 97:=aQ (.seq none .leaf (.seq none .leaf (.seq none (.seq none .leaf (.one (.loop [4] .leaf))) .leaf))) Tryz.func97
def yx:cR 121:=bm (.seq none .leaf (.seq none .leaf (.seq none (.seq none .leaf (.one (.loop [7,6] (.seq none .leaf (.seq (some [6]) (.one (.seq none .leaf (.one (.seq none .leaf (.two .leaf (.seq (some [45]) .leaf .leaf)))))) .leaf))))) .leaf))) Tryz.func121
def xN:cR 136:=bm (.seq none .leaf (.seq none .leaf (.seq none .leaf (.seq none (.seq none .leaf (.one (.loop [7,6,5] (.seq none .leaf (.seq (some [6,5]) (.one (.seq (some [25]) .leaf .leaf)) .leaf))))) .leaf)))) Tryz.func136
def lp:cR 144:=bm (.seq none .leaf (.seq none .leaf (.seq none (.seq none .leaf (.one (.loop [18] (.seq none .leaf (.seq none .leaf (.seq (some []) .leaf .leaf)))))) (.seq none .leaf (.seq none .leaf (.seq none (.seq none .leaf (.one (.loop [47] (.seq none .leaf (.seq none .leaf (.seq (some []) .leaf .leaf)))))) .leaf)))))) Tryz.func144
def ni:cR 76:=bm (.seq none .leaf (.seq none .leaf (.seq none (.seq none .leaf (.one (.loop [6,5] .leaf))) (.seq (some [5]) (.seq none .leaf (.one (.seq none .leaf (.two (.one (.loop [5] .leaf)) .leaf)))) .leaf)))) Tryz.func76
def qd:bS 26:=aQ .leaf Tryz.func26
def oi:cR 16:=bm .leaf Tryz.func16
def oU:cR 85:=bm (.seq none .leaf (.seq none (.seq none .leaf (.one (.loop [8] .leaf))) .leaf)) Tryz.func85
def kL:bS 8:=aQ .leaf Tryz.func8
def rt:bS 78:=aQ .leaf Tryz.func78
def qc:bS 101:=aQ (.seq none .leaf (.seq none (.seq none .leaf (.one (.loop [6] (.seq none .leaf (.seq none .leaf (.seq none (.one (.seq none .leaf (.seq (some [18]) .leaf .leaf))) .leaf)))))) .leaf)) Tryz.func101
def iS:cR 77:=bm (.seq none .leaf (.seq none (.seq none .leaf (.one (.loop [8] .leaf))) .leaf)) Tryz.func77
def jV:bS 35:=aQ .leaf Tryz.func35
def fl:cR 142:=bm (.seq none .leaf (.seq none (.seq none .leaf (.one (.loop [8] .leaf))) .leaf)) Tryz.func142
def pI:cR 46:=bm .leaf Tryz.func46
def vK:bS 103:=aQ .leaf Tryz.func103
def yO:cR 180:=bm .leaf Tryz.func180
def rJ:cR 51:=bm .leaf Tryz.func51
def eF:cR 104:=bm .leaf Tryz.func104
def um:z6 150:=oD .leaf Tryz.func150
def uA:bS 188:=aQ .leaf Tryz.func188
end Go.Proofs.YtjbcdmheajljpaaGreat
