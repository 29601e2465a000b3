/- Made by program: the shallow forms, computed. -/
import Derived.Test.YtjbcdmheajljpaaGreatZRcgb
set_option maxRecDepth 100000
set_option maxHeartbeats 4000000
namespace Go.Proofs.YtjbcdmheajljpaaGreat
open Go
attribute [local irreducible] Run CondV aI bg sOp el cr cf fY gn co Tryz.prog aF undef
def CO:dc 171:=bv (.seq none .leaf (.seq none .leaf (.seq none (.one (.loop [6] .leaf)) (.seq none .leaf (.seq none .leaf (.seq none .leaf (.seq none .leaf (.seq none (.seq none .leaf (.one (.loop [9,7] (.seq none .leaf (.seq (some [7]) .leaf .leaf))))) .leaf)))))))) Tryz.func171
def Bp:cB 173:=bd (.seq none .leaf (.seq none (.one (.seq none .leaf (.two .leaf (.seq none .leaf (.two (.seq none .leaf (.seq none .leaf (.seq (some [4]) .leaf .leaf))) (.seq (some [37]) .leaf .leaf)))))) .leaf)) Tryz.func173
def nX:jn 132:=eX (.seq none .leaf (.seq none .leaf (.seq none .leaf (.seq none .leaf (.seq none .leaf (.seq none (.seq none .leaf (.one (.loop [10,9] (.seq none (.seq (some [36]) .leaf .leaf) .leaf)))) .leaf)))))) Tryz.func132
def Bg:dc 50:=bv (.seq none .leaf (.seq none (.seq (some [14]) .leaf .leaf) (.seq (some []) .leaf .leaf))) Tryz.func50
def Ca:jn 92:=eX (.seq none .leaf (.seq none .leaf (.seq none (.seq none .leaf (.one (.loop [9,8] (.seq none .leaf (.seq (some [8]) (.one (.seq none (.seq (some [28]) .leaf .leaf) (.seq none .leaf (.seq none .leaf (.seq none .leaf (.one (.seq none .leaf (.two .leaf (.seq (some [51]) .leaf .leaf))))))))) .leaf))))) .leaf))) Tryz.func92
def uE:dc 170:=bv (.seq none .leaf (.seq none .leaf (.seq (some [6]) .leaf (.seq none .leaf (.seq none (.one (.loop [6] (.seq none (.seq (some [25]) .leaf .leaf) .leaf))) (.seq none .leaf (.seq none (.seq (some [50]) .leaf .leaf) (.seq (some [8]) .leaf .leaf)))))))) Tryz.func170
def uR:dc 47:=bv (.seq none .leaf (.seq none .leaf (.seq none (.seq (some [17]) .leaf .leaf) (.seq none .leaf (.seq (some [5]) .leaf .leaf))))) Tryz.func47
def rC:cB 48:=bd (.seq none .leaf (.seq none .leaf (.seq none (.seq none .leaf (.one (.loop [4,3] (.seq none .leaf (.seq none (.one (.seq none (.seq (some [20]) .leaf .leaf) .leaf)) .leaf))))) .leaf))) Tryz.func48
def rn:cB 41:=bd (.seq none .leaf (.seq none .leaf (.seq none .leaf (.seq none (.seq none .leaf (.one (.loop [11,4] .leaf))) .leaf)))) Tryz.func41
def Bu:jn 120:=eX .leaf Tryz.func120
def zn:dc 113:=bv (.seq none .leaf (.seq none .leaf (.seq none (.seq none .leaf (.one (.loop [6,5] (.seq none (.seq (some [16]) .leaf .leaf) .leaf)))) .leaf))) Tryz.func113
def nz:cB 9:=bd .leaf Tryz.func9
def uF:cB 78:=bd .leaf Tryz.func78
def BA:cB 151:=bd (.seq none .leaf (.seq none .leaf (.seq none .leaf (.seq none .leaf (.seq none (.one (.loop [0,3] .leaf)) .leaf))))) Tryz.func151
def wY:cB 116:=bd (.seq none .leaf (.seq none (.seq none .leaf (.one (.seq (some [4]) .leaf (.two .leaf (.seq (some [14]) .leaf (.two .leaf (.seq (some [17]) .leaf .leaf))))))) .leaf)) Tryz.func116
def tp:dc 187:=bv (.seq none .leaf (.seq none (.seq (some [13]) .leaf .leaf) .leaf)) Tryz.func187
def sr:cB 70:=bd .leaf Tryz.func70
def od:cB 157:=bd .leaf Tryz.func157
def r7:cB 61:=bd .leaf Tryz.func61
def E6:cB 90:=bd .leaf Tryz.func90
def EO:cB 130:=bd .leaf Tryz.func130
def Cc:cB 186:=bd .leaf Tryz.func186
end Go.Proofs.YtjbcdmheajljpaaGreat
