/- Made by program: the shallow forms, computed. -/
import Derived.Test.YtjbcdmheajljpaaGreatZLpgb
set_option maxRecDepth 100000
set_option maxHeartbeats 4000000
namespace Go.Proofs.YtjbcdmheajljpaaGreat
open Go
attribute [local irreducible] Run CondV aC aU sOp dh bR bI eN fa bO Tryz.prog aE undef
def kW:bS 4:=aQ (.seq none .leaf (.seq none .leaf (.seq none .leaf (.seq none .leaf (.seq none .leaf (.seq none (.seq (some [49]) .leaf .leaf) (.seq none (.seq none .leaf (.one (.loop [8] (.seq none .leaf (.seq none (.one (.seq none .leaf (.seq none .leaf (.seq none .leaf (.seq (some [142]) .leaf .leaf))))) .leaf))))) .leaf))))))) Tryz.func4
def ly:bS 55:=aQ (.seq none .leaf (.seq none .leaf (.seq none (.seq none .leaf (.one (.loop [4] .leaf))) .leaf))) Tryz.func55
def oh:cR 125:=bm (.seq none .leaf (.seq (some []) (.one (.loop [] .leaf)) .leaf)) Tryz.func125
def rK:cR 24:=bm (.seq none .leaf (.seq none .leaf (.seq (some []) (.seq none .leaf (.one (.seq none .leaf (.two .leaf (.seq none .leaf (.two .leaf (.seq none .leaf (.two (.one (.loop [] .leaf)) .leaf)))))))) .leaf))) Tryz.func24
def lI:bS 99:=aQ (.seq none .leaf (.seq none .leaf (.seq none .leaf (.seq none (.seq (some [23]) .leaf .leaf) (.seq none (.seq none .leaf (.one (.loop [6,4] .leaf))) .leaf))))) Tryz.func99
def xS:cR 118:=bm .leaf Tryz.func118
def oA:bS 41:=aQ (.seq none .leaf (.seq none .leaf (.seq none .leaf (.seq none (.seq none .leaf (.one (.loop [11,4] .leaf))) .leaf)))) Tryz.func41
def mJ:bS 29:=aQ (.seq none .leaf (.seq none (.seq none .leaf (.one (.loop [3] (.seq none (.seq (some [12]) .leaf .leaf) .leaf)))) .leaf)) Tryz.func29
def xx:bS 82:=aQ (.seq none .leaf (.seq none .leaf (.seq none (.seq none .leaf (.one (.loop [8,3] .leaf))) .leaf))) Tryz.func82
def mE:bS 137:=aQ (.seq none .leaf (.seq none .leaf (.seq none .leaf (.seq none .leaf (.seq none .leaf (.seq (some [5]) (.seq (some [29]) .leaf .leaf) (.seq none (.seq (some [54]) .leaf .leaf) .leaf))))))) Tryz.func137
def qm:bS 66:=aQ .leaf Tryz.func66
def p8:z6 67:=oD .leaf Tryz.func67
def yt:bS 183:=aQ (.seq none .leaf (.seq none .leaf (.seq none (.seq none .leaf (.one (.loop [4,3] (.seq none .leaf (.seq none (.one (.seq (some [3]) .leaf .leaf)) .leaf))))) .leaf))) Tryz.func183
def mx:bS 25:=aQ .leaf Tryz.func25
def qr:cR 187:=bm (.seq none .leaf (.seq none (.seq (some [13]) .leaf .leaf) .leaf)) Tryz.func187
def yh:bS 60:=aQ .leaf Tryz.func60
def xO:bS 111:=aQ .leaf Tryz.func111
def BD:bS 185:=aQ .leaf Tryz.func185
def n4:bS 63:=aQ .leaf Tryz.func63
def Bw:bS 117:=aQ .leaf Tryz.func117
def jq:cR 158:=bm .leaf Tryz.func158
end Go.Proofs.YtjbcdmheajljpaaGreat
