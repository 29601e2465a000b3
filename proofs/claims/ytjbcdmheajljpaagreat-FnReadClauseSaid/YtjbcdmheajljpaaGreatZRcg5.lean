/- Made by program: the shallow forms, computed. -/
import Derived.Test.YtjbcdmheajljpaaGreatZRcgb
set_option maxRecDepth 100000
set_option maxHeartbeats 4000000
namespace Go.Proofs.YtjbcdmheajljpaaGreat
open Go
attribute [local irreducible] Run CondV aI bg sOp el cr cf fY gn co Tryz.prog aF undef
def uG:dc 135:=bv (.seq none .leaf (.seq none .leaf (.seq none (.seq none .leaf (.one (.loop [6] (.seq none (.seq (some [23]) .leaf .leaf) (.seq (some []) .leaf .leaf))))) (.seq none (.seq none .leaf (.one (.loop [7] .leaf))) .leaf)))) Tryz.func135
def xE:dc 146:=bv (.seq none .leaf (.seq none .leaf (.seq none (.seq none .leaf (.one (.loop [7,6] (.seq none .leaf (.seq none (.one (.seq none .leaf (.seq (some [8]) .leaf .leaf))) .leaf))))) (.seq none .leaf (.seq none .leaf (.seq none .leaf (.seq none (.seq none .leaf (.one (.loop [10] (.seq none .leaf (.seq (some []) .leaf .leaf))))) .leaf))))))) Tryz.func146
def C0:H4 154:=vg (.seq none .leaf (.seq none .leaf (.seq none .leaf (.seq none (.one (.loop [11] (.seq none .leaf (.one (.seq none .leaf (.seq none (.seq (some [48]) .leaf .leaf) .leaf)))))) .leaf)))) Tryz.func154
def kG:dc 108:=bv .leaf Tryz.func108
def uV:cB 21:=bd (.seq none .leaf (.seq none .leaf (.seq none .leaf (.seq none .leaf (.seq none (.seq none .leaf (.one (.loop [5] .leaf))) .leaf))))) Tryz.func21
def uD:dc 24:=bv (.seq none .leaf (.seq none .leaf (.seq (some []) (.seq none .leaf (.one (.seq none .leaf (.two .leaf (.seq none .leaf (.two .leaf (.seq none .leaf (.two (.one (.loop [] .leaf)) .leaf)))))))) .leaf))) Tryz.func24
def xJ:Xb 172:=Xa (.seq none .leaf (.seq none .leaf (.one (.loop [1,12] (.one (.seq none .leaf (.seq none .leaf (.seq none .leaf (.seq none (.seq (some [39]) .leaf .leaf) .leaf))))))))) Tryz.func172
def xB:dc 174:=bv (.seq none .leaf (.seq none .leaf (.seq none (.seq none .leaf (.one (.loop [6] .leaf))) .leaf))) Tryz.func174
def qV:dc 107:=bv .leaf Tryz.func107
def rV:cB 49:=bd (.seq none .leaf (.seq none .leaf (.seq none (.seq none .leaf (.one (.loop [4,3] (.seq none .leaf (.seq (some [3]) (.one (.seq (some [21]) .leaf .leaf)) .leaf))))) .leaf))) Tryz.func49
def Ce:dc 53:=bv (.seq none .leaf (.seq none .leaf (.seq none (.seq none .leaf (.one (.loop [7,6] .leaf))) .leaf))) Tryz.func53
def ml:cB 7:=bd .leaf Tryz.func7
def mQ:cB 28:=bd .leaf Tryz.func28
def pj:cB 137:=bd (.seq none .leaf (.seq none .leaf (.seq none .leaf (.seq none .leaf (.seq none .leaf (.seq (some [5]) (.seq (some [29]) .leaf .leaf) (.seq none (.seq (some [54]) .leaf .leaf) .leaf))))))) Tryz.func137
def nO:dc 148:=bv .leaf Tryz.func148
def nM:H4 161:=vg .leaf Tryz.func161
def oR:cB 25:=bd .leaf Tryz.func25
def xH:BU 159:=nR .leaf Tryz.func159
def vt:dc 43:=bv .leaf Tryz.func43
def yk:cB 103:=bd .leaf Tryz.func103
def uK:cB 181:=bd (.seq none .leaf (.seq none (.seq (some [8]) .leaf .leaf) .leaf)) Tryz.func181
def fU:dc 104:=bv .leaf Tryz.func104
def BE:jn 155:=eX .leaf Tryz.func155
end Go.Proofs.YtjbcdmheajljpaaGreat
