/- Made by program: the shallow forms, computed. -/
import Derived.Test.YtjbcdmheajljpaaGreatZLpgb
set_option maxRecDepth 100000
set_option maxHeartbeats 4000000
namespace Go.Proofs.YtjbcdmheajljpaaGreat
open Go
attribute [local irreducible] Run CondV aC aU sOp dh bR bI eN fa bO Tryz.prog aE undef
def ov:lE 15:=fB (.seq none .leaf (.seq none (.seq (some [26]) .leaf .leaf) (.seq none .leaf (.seq none .leaf (.seq none (.seq none .leaf (.one (.loop [36] .leaf))) (.seq none .leaf (.seq none (.seq (some [70]) .leaf .leaf) (.seq none .leaf (.seq none (.seq none .leaf (.one (.loop [77,13] .leaf))) (.seq none .leaf (.seq none .leaf (.seq none (.seq (some [115]) .leaf .leaf) .leaf)))))))))))) Tryz.func15
def iF:cR 124:=bm (.seq none .leaf (.seq none .leaf (.seq none (.seq none .leaf (.one (.loop [13,6] (.seq none .leaf (.seq none .leaf (.seq (some [6]) .leaf .leaf)))))) .leaf))) Tryz.func124
def yW:bS 173:=aQ (.seq none .leaf (.seq none (.one (.seq none .leaf (.two .leaf (.seq none .leaf (.two (.seq none .leaf (.seq none .leaf (.seq (some [4]) .leaf .leaf))) (.seq (some [37]) .leaf .leaf)))))) .leaf)) Tryz.func173
def jB:GJ 81:=xU (.seq none .leaf (.seq none .leaf (.seq none .leaf (.seq none (.seq (some [30]) .leaf .leaf) (.seq none .leaf (.seq none (.seq none .leaf (.one (.loop [42] .leaf))) .leaf)))))) Tryz.func81
def ro:cR 59:=bm (.seq none .leaf (.seq none .leaf (.seq (some []) (.seq none .leaf (.one (.seq none .leaf (.two .leaf (.seq none .leaf (.two .leaf (.seq none .leaf (.two .leaf (.seq none .leaf (.two (.one (.loop [] .leaf)) (.seq none .leaf (.two (.seq none .leaf (.one (.loop [6] .leaf))) .leaf)))))))))))) .leaf))) Tryz.func59
def xt:bS 175:=aQ (.seq none .leaf (.seq (some [4]) .leaf (.seq (some [0]) .leaf (.seq none (.seq (some [38]) .leaf .leaf) (.seq none .leaf (.seq none (.seq none .leaf (.one (.loop [6,5] (.seq none .leaf (.seq none (.one (.seq none (.seq (some [54]) .leaf .leaf) .leaf)) .leaf))))) (.seq (some [5]) .leaf .leaf))))))) Tryz.func175
def rB:bS 30:=aQ .leaf Tryz.func30
def ug:cR 126:=bm (.seq none .leaf (.seq (some [1]) (.seq (some [16]) .leaf .leaf) (.seq none (.seq none .leaf (.one (.loop [25,1] .leaf))) .leaf))) Tryz.func126
def y6:lE 120:=fB .leaf Tryz.func120
def vN:cR 113:=bm (.seq none .leaf (.seq none .leaf (.seq none (.seq none .leaf (.one (.loop [6,5] (.seq none (.seq (some [16]) .leaf .leaf) .leaf)))) .leaf))) Tryz.func113
def qw:bS 56:=aQ .leaf Tryz.func56
def iR:bS 31:=aQ .leaf Tryz.func31
def lV:GJ 161:=xU .leaf Tryz.func161
def pg:cR 115:=bm (.seq none .leaf (.seq none (.seq none .leaf (.one (.seq (some [6]) .leaf (.two .leaf (.seq (some [18]) .leaf (.two .leaf (.seq (some [23]) .leaf .leaf))))))) .leaf)) Tryz.func115
def BU:bS 145:=aQ .leaf Tryz.func145
def xT:bS 160:=aQ .leaf Tryz.func160
def rI:cR 57:=bm .leaf Tryz.func57
def p5:bS 106:=aQ .leaf Tryz.func106
def rP:bS 181:=aQ (.seq none .leaf (.seq none (.seq (some [8]) .leaf .leaf) .leaf)) Tryz.func181
def pw:bS 61:=aQ .leaf Tryz.func61
def lO:bS 105:=aQ .leaf Tryz.func105
def yM:lE 155:=fB .leaf Tryz.func155
end Go.Proofs.YtjbcdmheajljpaaGreat
