/- Made by program: the shallow forms, computed. -/
import Derived.Test.YtjbcdmheajljpaaGreatZRcgb
set_option maxRecDepth 100000
set_option maxHeartbeats 4000000
namespace Go.Proofs.YtjbcdmheajljpaaGreat
open Go
attribute [local irreducible] Run CondV aI bg sOp el cr cf fY gn co Tryz.prog aF undef
def rx:dc 22:=bv (.seq none .leaf (.seq none .leaf (.seq none (.seq (some [24]) .leaf .leaf) .leaf))) Tryz.func22
def pK:cB 29:=bd (.seq none .leaf (.seq none (.seq none .leaf (.one (.loop [3] (.seq none (.seq (some [12]) .leaf .leaf) .leaf)))) .leaf)) Tryz.func29
def Em:cB 96:=bd (.seq none .leaf (.seq none (.seq none .leaf (.one (.loop [3] .leaf))) .leaf)) Tryz.func96
def Ok:cB 64:=bd .leaf Tryz.func64
def nS:dc 84:=bv .leaf Tryz.func84
def ti:BU 67:=nR .leaf Tryz.func67
def tx:dc 141:=bv (.seq none .leaf (.seq none (.seq none .leaf (.one (.seq (some [6]) .leaf (.two .leaf (.seq (some [18]) .leaf (.two .leaf (.seq (some [23]) .leaf .leaf))))))) .leaf)) Tryz.func141
def xP:dc 182:=bv (.seq none .leaf (.seq none .leaf (.seq none (.seq (some [15]) .leaf .leaf) .leaf))) Tryz.func182
def CE:cB 60:=bd .leaf Tryz.func60
def rT:cB 138:=bd .leaf Tryz.func138
def vi:BU 37:=nR .leaf Tryz.func37
def rr:cB 63:=bd .leaf Tryz.func63
def Bt:cB 123:=bd .leaf Tryz.func123
def Cs:cB 177:=bd .leaf Tryz.func177
end Go.Proofs.YtjbcdmheajljpaaGreat
