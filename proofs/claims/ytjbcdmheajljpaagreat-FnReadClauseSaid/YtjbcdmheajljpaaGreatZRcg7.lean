/- Made by program: the shallow forms, computed. -/
import Derived.Test.YtjbcdmheajljpaaGreatZRcgb
set_option maxRecDepth 100000
set_option maxHeartbeats 4000000
namespace Go.Proofs.YtjbcdmheajljpaaGreat
open Go
attribute [local irreducible] Run CondV aI bg sOp el cr cf fY gn co Tryz.prog aF undef
def rm:jn 19:=eX (.seq none .leaf (.seq none .leaf (.seq none (.seq (some [37]) .leaf .leaf) (.seq none .leaf (.seq none .leaf (.seq none .leaf (.seq none (.seq none .leaf (.one (.loop [12] .leaf))) (.seq none (.one (.loop [11] (.seq none (.seq (some [83]) .leaf .leaf) (.one (.seq none .leaf (.seq none .leaf (.seq none .leaf (.one (.seq none .leaf (.two .leaf (.seq none .leaf (.two .leaf (.seq (some [114]) .leaf (.two (.seq none (.seq (some [124]) .leaf .leaf) .leaf) .leaf)))))))))))))) (.seq none (.seq (some [151]) .leaf .leaf) (.seq none .leaf (.seq none .leaf (.seq none .leaf (.seq none .leaf (.seq none (.seq (some [180]) .leaf .leaf) .leaf)))))))))))))) Tryz.func19
def oo:dc 39:=bv (.seq none .leaf (.seq none .leaf (.seq none (.seq none .leaf (.one (.loop [7,6] (.seq none .leaf (.seq (some [7,6]) (.one (.seq none .leaf (.seq none .leaf (.one (.seq none .leaf (.two .leaf (.seq none .leaf (.two .leaf (.seq (some [76]) .leaf (.two (.seq none .leaf (.seq none .leaf (.seq none (.seq none .leaf (.one (.loop [88] .leaf))) .leaf))) (.seq none .leaf (.seq (some [13]) (.seq (some [33]) .leaf .leaf) .leaf)))))))))))) .leaf))))) .leaf))) Tryz.func39
def nQ:cB 97:=bd (.seq none .leaf (.seq none .leaf (.seq none (.seq none .leaf (.one (.loop [4] .leaf))) .leaf))) Tryz.func97
def rc:dc 125:=bv (.seq none .leaf (.seq (some []) (.one (.loop [] .leaf)) .leaf)) Tryz.func125
def oa:dc 58:=bv (.seq none .leaf (.seq none (.seq (some [13]) .leaf .leaf) (.seq none .leaf (.seq none .leaf (.seq none (.seq none .leaf (.one (.loop [6] .leaf))) .leaf))))) Tryz.func58
def zk:dc 73:=bv (.seq none .leaf (.seq none (.seq none .leaf (.one (.loop [5] (.seq none .leaf (.seq (some []) (.one (.seq none .leaf (.seq none .leaf (.seq none (.seq none .leaf (.one (.loop [7] .leaf))) (.seq none .leaf (.seq (some [8]) .leaf .leaf)))))) .leaf))))) .leaf)) Tryz.func73
def md:cB 18:=bd (.seq none .leaf (.seq none .leaf (.seq none .leaf (.seq none .leaf (.seq (some [7]) .leaf .leaf))))) Tryz.func18
def nY:dc 144:=bv (.seq none .leaf (.seq none .leaf (.seq none (.seq none .leaf (.one (.loop [18] (.seq none .leaf (.seq none .leaf (.seq (some []) .leaf .leaf)))))) (.seq none .leaf (.seq none .leaf (.seq none (.seq none .leaf (.one (.loop [47] (.seq none .leaf (.seq none .leaf (.seq (some []) .leaf .leaf)))))) .leaf)))))) Tryz.func144
def uJ:cB 27:=bd .leaf Tryz.func27
def tj:cB 26:=bd .leaf Tryz.func26
def xA:BU 75:=nR (.seq none .leaf (.seq none .leaf (.seq none (.seq none .leaf (.one (.loop [2] .leaf))) .leaf))) Tryz.func75
def rh:dc 16:=bv .leaf Tryz.func16
def zr:BU 129:=nR .leaf Tryz.func129
def lJ:cB 45:=bd .leaf Tryz.func45
def Bn:jn 91:=eX .leaf Tryz.func91
def H0:dc 163:=bv (.seq none .leaf (.seq none .leaf (.seq (some [6]) .leaf (.seq none .leaf (.seq none .leaf (.seq none (.seq (some [33]) .leaf .leaf) (.seq (some [9]) .leaf (.seq none (.seq (some [54]) .leaf .leaf) (.seq (some [8]) .leaf .leaf))))))))) Tryz.func163
def Ex:cB 145:=bd .leaf Tryz.func145
def ou:dc 165:=bv (.seq none .leaf (.seq none (.seq none .leaf (.one (.loop [8] .leaf))) .leaf)) Tryz.func165
def sw:dc 46:=bv .leaf Tryz.func46
def rR:cB 106:=bd .leaf Tryz.func106
def D6:cB 185:=bd .leaf Tryz.func185
def nW:cB 105:=bd .leaf Tryz.func105
def lH:dc 158:=bv .leaf Tryz.func158
end Go.Proofs.YtjbcdmheajljpaaGreat
