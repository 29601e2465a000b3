/- Made by program: the shallow forms, computed. -/
import Derived.Test.YtjbcdmheajljpaaGreatZLpgb
set_option maxRecDepth 100000
set_option maxHeartbeats 4000000
namespace Go.Proofs.YtjbcdmheajljpaaGreat
open Go
attribute [local irreducible] Run CondV aC aU sOp dh bR bI eN fa bO Tryz.prog aE undef
def lw:cR 39:=bm (.seq none .leaf (.seq none .leaf (.seq none (.seq none .leaf (.one (.loop [7,6] (.seq none .leaf (.seq (some [7,6]) (.one (.seq none .leaf (.seq none .leaf (.one (.seq none .leaf (.two .leaf (.seq none .leaf (.two .leaf (.seq (some [76]) .leaf (.two (.seq none .leaf (.seq none .leaf (.seq none (.seq none .leaf (.one (.loop [88] .leaf))) .leaf))) (.seq none .leaf (.seq (some [13]) (.seq (some [33]) .leaf .leaf) .leaf)))))))))))) .leaf))))) .leaf))) Tryz.func39
def yZ:GJ 154:=xU (.seq none .leaf (.seq none .leaf (.seq none .leaf (.seq none (.one (.loop [11] (.seq none .leaf (.one (.seq none .leaf (.seq none (.seq (some [48]) .leaf .leaf) .leaf)))))) .leaf)))) Tryz.func154
def yb:cR 74:=bm (.seq none .leaf (.seq none .leaf (.seq none (.seq none .leaf (.one (.loop [6,5] (.seq none .leaf (.seq (some [5]) (.one (.seq none .leaf (.one (.seq none .leaf (.two .leaf (.seq (some [39]) .leaf .leaf)))))) .leaf))))) (.seq none (.seq none .leaf (.one (.loop [8,5] .leaf))) .leaf)))) Tryz.func74
def yc:cR 58:=bm (.seq none .leaf (.seq none (.seq (some [13]) .leaf .leaf) (.seq none .leaf (.seq none .leaf (.seq none (.seq none .leaf (.one (.loop [6] .leaf))) .leaf))))) Tryz.func58
def yY:bS 178:=aQ (.seq none .leaf (.seq none .leaf (.seq none (.one (.loop [3] .leaf)) .leaf))) Tryz.func178
def m8:cR 42:=bm (.seq none .leaf (.seq none .leaf (.seq none (.seq none .leaf (.one (.loop [13] .leaf))) .leaf))) Tryz.func42
def nZ:cR 107:=bm .leaf Tryz.func107
def xV:bS 164:=aQ (.seq none .leaf (.seq none .leaf (.seq none (.seq none .leaf (.one (.loop [4,3] (.seq none .leaf (.seq none (.one (.seq (some [3]) .leaf .leaf)) .leaf))))) .leaf))) Tryz.func164
def s5:bS 65:=aQ (.seq none .leaf (.seq none .leaf (.seq none (.seq none .leaf (.one (.loop [8,3] .leaf))) .leaf))) Tryz.func65
def jX:bS 7:=aQ .leaf Tryz.func7
def xH:bS 114:=aQ (.seq none .leaf (.seq none (.seq none .leaf (.one (.loop [3] (.seq none .leaf (.seq none (.one (.seq (some [19]) .leaf .leaf)) .leaf))))) .leaf)) Tryz.func114
def m0:bS 13:=aQ .leaf Tryz.func13
def ju:bS 11:=aQ .leaf Tryz.func11
def qp:cR 141:=bm (.seq none .leaf (.seq none (.seq none .leaf (.one (.seq (some [6]) .leaf (.two .leaf (.seq (some [18]) .leaf (.two .leaf (.seq (some [23]) .leaf .leaf))))))) .leaf)) Tryz.func141
def u7:lE 168:=fB .leaf Tryz.func168
def y5:lE 36:=fB .leaf Tryz.func36
def r2:cR 43:=bm .leaf Tryz.func43
def vp:bS 72:=aQ .leaf Tryz.func72
def jU:GJ 166:=xU .leaf Tryz.func166
def rQ:z6 37:=oD .leaf Tryz.func37
def DX:bS 102:=aQ .leaf Tryz.func102
def AL:bS 143:=aQ .leaf Tryz.func143
def xw:bS 186:=aQ .leaf Tryz.func186
end Go.Proofs.YtjbcdmheajljpaaGreat
