/- Made by program: the shallow forms, computed. -/
import Derived.Test.YtgllldjiaglkcaaGreatDoorZMpgb
set_option maxRecDepth 100000
set_option maxHeartbeats 4000000
namespace Go.Proofs.YtgllldjiaglkcaaGreatDoor
open Go
attribute [local irreducible] Run CondV az aO sOp cK cB bC eY eM bM Tryz.prog aD undef
def CY:cc 242:=aY (.seq none .leaf (.seq none .leaf (.seq none (.one (.loop [6] .leaf)) (.seq none .leaf (.seq none .leaf (.seq none .leaf (.seq none .leaf (.seq none (.seq none .leaf (.one (.loop [9,7] (.seq none .leaf (.seq (some [7]) .leaf .leaf))))) .leaf)))))))) Tryz.func242
def DX:cc 266:=aY (.seq none .leaf (.seq none .leaf (.seq none (.one (.loop [5] .leaf)) .leaf))) Tryz.func266
def pI:bD 135:=aM (.seq none .leaf (.seq none (.one (.loop [] .leaf)) .leaf)) Tryz.func135
def DV:bD 308:=aM (.seq none .leaf (.seq none .leaf (.seq none (.one (.loop [3] .leaf)) .leaf))) Tryz.func308
def l0:cc 78:=aY (.seq none .leaf (.seq none .leaf (.seq none .leaf (.seq none .leaf (.seq none (.seq none .leaf (.one (.loop [20] .leaf))) .leaf))))) Tryz.func78
def yk:cc 21:=aY (.seq none .leaf (.seq none .leaf (.seq none (.seq none .leaf (.one (.loop [5] .leaf))) .leaf))) Tryz.func21
def Dp:bD 244:=aM (.seq none .leaf (.seq none .leaf (.seq none .leaf (.seq none .leaf (.seq none (.seq none .leaf (.one (.loop [4,3] (.seq none .leaf (.seq none (.one (.seq (some [3]) .leaf .leaf)) .leaf))))) (.seq (some [3]) .leaf .leaf)))))) Tryz.func244
def HS:bD 193:=aM (.seq none .leaf (.seq none (.one (.seq none .leaf (.two .leaf (.seq none .leaf (.two .leaf (.seq (some [18]) .leaf .leaf)))))) (.seq none .leaf (.seq none .leaf (.seq none .leaf (.seq none .leaf (.seq none .leaf (.seq (some [7]) .leaf .leaf)))))))) Tryz.func193
def od:cc 166:=aY (.seq none .leaf (.seq none .leaf (.seq none (.seq none .leaf (.one (.loop [13,6] .leaf))) .leaf))) Tryz.func166
def pz:bD 96:=aM (.seq none .leaf (.seq none (.seq none .leaf (.one (.loop [3] (.seq none (.seq (some [12]) .leaf .leaf) .leaf)))) .leaf)) Tryz.func96
def rC:bD 70:=aM (.seq none .leaf (.seq none .leaf (.seq none .leaf (.seq (some [4]) .leaf .leaf)))) Tryz.func70
def Db:bD 293:=aM (.seq none .leaf (.seq none .leaf (.seq none (.seq none .leaf (.one (.loop [8] .leaf))) .leaf))) Tryz.func293
def CW:bD 224:=aM (.seq none .leaf (.seq none (.seq none .leaf (.one (.loop [3] (.seq none .leaf (.seq none (.one (.seq (some [19]) .leaf .leaf)) .leaf))))) .leaf)) Tryz.func224
def HE:bD 136:=aM .leaf Tryz.func136
def rr:cc 192:=aY (.seq none (.seq none .leaf (.one (.loop [13] .leaf))) .leaf) Tryz.func192
def FE:y9 12:=lC .leaf Tryz.func12
def rV:bD 20:=aM .leaf Tryz.func20
def sX:bD 314:=aM .leaf Tryz.func314
def D3:bD 313:=aM (.seq none .leaf (.seq none .leaf (.seq none (.seq none .leaf (.one (.loop [4,3] (.seq none .leaf (.seq none (.one (.seq (some [3]) .leaf .leaf)) .leaf))))) .leaf))) Tryz.func313
def v7:bD 189:=aM .leaf Tryz.func189
def n9:cc 103:=aY (.seq none .leaf (.seq none (.seq none .leaf (.one (.loop [8] .leaf))) .leaf)) Tryz.func103
def fQ:cc 105:=aY (.seq none .leaf (.seq none (.seq none .leaf (.one (.loop [8] .leaf))) .leaf)) Tryz.func105
def sU:cc 52:=aY .leaf Tryz.func52
def C2:bD 172:=aM .leaf Tryz.func172
def vI:bD 274:=aM .leaf Tryz.func274
def iM:cc 44:=aY .leaf Tryz.func44
def z2:Gp 112:=rv .leaf Tryz.func112
def Hg:bD 213:=aM .leaf Tryz.func213
def CJ:bD 276:=aM .leaf Tryz.func276
end Go.Proofs.YtgllldjiaglkcaaGreatDoor
