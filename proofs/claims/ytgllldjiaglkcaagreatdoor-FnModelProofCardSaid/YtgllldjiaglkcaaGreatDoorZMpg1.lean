/- Made by program: the shallow forms, computed. -/
import Derived.Test.YtgllldjiaglkcaaGreatDoorZMpgb
set_option maxRecDepth 100000
set_option maxHeartbeats 4000000
namespace Go.Proofs.YtgllldjiaglkcaaGreatDoor
open Go
attribute [local irreducible] Run CondV az aO sOp cK cB bC eY eM bM Tryz.prog aD undef
def r7:cc 49:=aY (.seq none .leaf (.seq none .leaf (.seq none (.seq (some [24]) .leaf .leaf) .leaf))) Tryz.func49
def DW:bD 317:=aM (.seq none .leaf (.seq none (.seq (some [11]) .leaf .leaf) .leaf)) Tryz.func317
def Pj:y9 133:=lC (.seq none .leaf (.seq none (.seq none .leaf (.one (.loop [9,3] .leaf))) .leaf)) Tryz.func133
def C4:cc 234:=aY .leaf Tryz.func234
def Lf:bD 55:=aM .leaf Tryz.func55
def oe:bD 37:=aM (.seq none .leaf (.seq none (.seq none .leaf (.one (.loop [3] (.seq none (.seq (some [11]) .leaf .leaf) .leaf)))) .leaf)) Tryz.func37
def rO:bD 84:=aM .leaf Tryz.func84
def kS:bD 61:=aM .leaf Tryz.func61
def oh:cc 115:=aY .leaf Tryz.func115
def KP:cc 255:=aY (.seq none .leaf (.seq none .leaf (.seq (some [6]) .leaf (.seq none .leaf (.seq none .leaf (.seq none (.seq (some [33]) .leaf .leaf) (.seq (some [9]) .leaf (.seq none (.seq (some [54]) .leaf .leaf) (.seq (some [8]) .leaf .leaf))))))))) Tryz.func255
def sy:iI 157:=dN (.seq none .leaf (.seq none .leaf (.seq none (.seq (some [37]) .leaf .leaf) .leaf))) Tryz.func157
def sz:cc 217:=aY (.seq none .leaf (.seq none (.seq none .leaf (.one (.seq (some [6]) .leaf (.two .leaf (.seq (some [18]) .leaf (.two .leaf (.seq (some [23]) .leaf .leaf))))))) .leaf)) Tryz.func217
def pT:bD 94:=aM .leaf Tryz.func94
def CM:iI 34:=dN .leaf Tryz.func34
def yA:bD 42:=aM .leaf Tryz.func42
def tR:bD 164:=aM .leaf Tryz.func164
def ow:bD 228:=aM .leaf Tryz.func228
def oI:bD 33:=aM .leaf Tryz.func33
def K8:bD 102:=aM .leaf Tryz.func102
def sh_i_holds:bD 191:=aM .leaf Tryz.func191
def Az:Gp 273:=rv .leaf Tryz.func273
end Go.Proofs.YtgllldjiaglkcaaGreatDoor
