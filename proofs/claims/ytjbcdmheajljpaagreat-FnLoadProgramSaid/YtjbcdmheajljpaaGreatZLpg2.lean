/- Made by program: the shallow forms, computed. -/
import Derived.Test.YtjbcdmheajljpaaGreatZLpgb
set_option maxRecDepth 100000
set_option maxHeartbeats 4000000
namespace Go.Proofs.YtjbcdmheajljpaaGreat
open Go
attribute [local irreducible] Run CondV aC aU sOp dh bR bI eN fa bO Tryz.prog aE undef
def kU:lE 80:=fB (.seq none .leaf (.seq none .leaf (.seq (some []) .leaf .leaf))) Tryz.func80
def AH:lE 119:=fB (.seq none .leaf (.seq none (.one (.seq none .leaf (.two .leaf (.seq (some [18]) .leaf .leaf)))) .leaf)) Tryz.func119
def uD:cR 83:=bm (.seq none .leaf (.seq none .leaf (.seq none .leaf (.seq none .leaf (.seq none (.seq none .leaf (.one (.loop [20] .leaf))) .leaf))))) Tryz.func83
def rW:cR 170:=bm (.seq none .leaf (.seq none .leaf (.seq (some [6]) .leaf (.seq none .leaf (.seq none (.one (.loop [6] (.seq none (.seq (some [25]) .leaf .leaf) .leaf))) (.seq none .leaf (.seq none (.seq (some [50]) .leaf .leaf) (.seq (some [8]) .leaf .leaf)))))))) Tryz.func170
def rE:bS 27:=aQ .leaf Tryz.func27
def vd:z6 75:=oD (.seq none .leaf (.seq none .leaf (.seq none (.seq none .leaf (.one (.loop [2] .leaf))) .leaf))) Tryz.func75
def jZ:bS 38:=aQ .leaf Tryz.func38
def mP:bS 109:=aQ .leaf Tryz.func109
def jW:lE 44:=fB (.seq none .leaf (.seq none .leaf (.seq none (.seq none .leaf (.one (.loop [17] .leaf))) .leaf))) Tryz.func44
def uK:cR 112:=bm (.seq none .leaf (.seq none (.seq (some [12]) .leaf .leaf) (.seq none (.seq none .leaf (.one (.loop [5] .leaf))) .leaf))) Tryz.func112
def ob:lE 147:=fB .leaf Tryz.func147
def vP:bS 140:=aQ (.seq none .leaf (.seq none (.seq none .leaf (.one (.seq (some [5]) .leaf (.two .leaf (.seq (some [15]) .leaf (.two .leaf (.seq (some [18]) .leaf .leaf))))))) .leaf)) Tryz.func140
def lG:cR 165:=bm (.seq none .leaf (.seq none (.seq none .leaf (.one (.loop [8] .leaf))) .leaf)) Tryz.func165
def uq:bS 20:=aQ (.seq none .leaf (.seq (some [0]) .leaf .leaf)) Tryz.func20
def vt:bS 62:=aQ .leaf Tryz.func62
def qb:bS 138:=aQ .leaf Tryz.func138
def rR:bS 189:=aQ .leaf Tryz.func189
def tX:z6 98:=oD .leaf Tryz.func98
def BA:bS 130:=aQ .leaf Tryz.func130
def un:bS 179:=aQ .leaf Tryz.func179
end Go.Proofs.YtjbcdmheajljpaaGreat
