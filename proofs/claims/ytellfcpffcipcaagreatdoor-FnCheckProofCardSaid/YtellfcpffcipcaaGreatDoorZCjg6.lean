/- Made by program: the shallow forms, computed. -/
import Derived.Test.YtellfcpffcipcaaGreatDoorZCjgb
set_option maxRecDepth 100000
set_option maxHeartbeats 4000000
namespace Go.Proofs.YtellfcpffcipcaaGreatDoor
open Go
attribute [local irreducible] Run CondV aF aT sOp dH bZ bY fT gX ce Tryz.prog aC undef
def Io:cQ 106:=bl (.seq none .leaf (.seq none .leaf (.seq none (.seq none .leaf (.one (.loop [6,5] (.seq none .leaf (.seq (some [5]) .leaf .leaf))))) .leaf))) Tryz.func106
def yw:cQ 108:=bl (.seq none .leaf (.seq none .leaf (.seq none (.seq none .leaf (.one (.loop [6] (.seq none (.seq (some [23]) .leaf .leaf) (.seq (some []) .leaf .leaf))))) (.seq none (.seq none .leaf (.one (.loop [7] .leaf))) .leaf)))) Tryz.func108
def BW:iR 28:=dR (.seq none .leaf (.seq none .leaf (.seq none (.one (.loop [2] (.seq none (.seq (some [28]) .leaf .leaf) (.one (.seq none .leaf (.seq none .leaf (.seq none .leaf (.seq (some []) .leaf .leaf)))))))) .leaf))) Tryz.func28
def AG:iR 88:=dR (.seq none .leaf (.seq none .leaf (.seq none (.seq (some [57]) .leaf .leaf) (.seq none (.seq none .leaf (.one (.loop [7] .leaf))) .leaf)))) Tryz.func88
def yP:cQ 128:=bl (.seq none .leaf (.seq none (.seq (some [33]) .leaf .leaf) (.seq none (.seq none .leaf (.one (.loop [5] .leaf))) .leaf))) Tryz.func128
def rl:bX 96:=aR (.seq none .leaf (.seq none (.one (.loop [] .leaf)) .leaf)) Tryz.func96
def BZ:iR 140:=dR (.seq none .leaf (.seq none (.seq (some [23]) .leaf .leaf) (.seq none .leaf (.seq none (.seq (some [65]) .leaf .leaf) (.seq none (.seq (some [83]) .leaf .leaf) (.seq none (.seq (some [106]) .leaf .leaf) .leaf)))))) Tryz.func140
def r8:cQ 12:=bl (.seq none .leaf (.seq none .leaf (.seq none (.seq none .leaf (.one (.loop [6,5] .leaf))) (.seq (some [5]) (.seq none .leaf (.one (.seq none .leaf (.two (.one (.loop [5] .leaf)) .leaf)))) .leaf)))) Tryz.func12
def Aj:cQ 138:=bl (.seq none .leaf (.seq none .leaf (.seq none (.one (.loop [1,6] .leaf)) .leaf))) Tryz.func138
def IO:WU 26:=LY (.seq none .leaf (.seq none .leaf (.seq none .leaf (.seq none (.seq none .leaf (.one (.loop [34] .leaf))) .leaf)))) Tryz.func26
def uV:cQ 170:=bl (.seq none .leaf (.seq none (.seq none .leaf (.one (.loop [8] .leaf))) .leaf)) Tryz.func170
def H9:bX 130:=aR .leaf Tryz.func130
def pI:cQ 169:=bl .leaf Tryz.func169
def Fk:bX 59:=aR .leaf Tryz.func59
def A5:Jx 54:=ub .leaf Tryz.func54
def lT:cQ 49:=bl (.seq none .leaf (.seq none (.seq none .leaf (.one (.loop [8] .leaf))) .leaf)) Tryz.func49
def Ik:cQ 198:=bl (.seq none .leaf (.seq none (.seq none .leaf (.one (.loop [5] .leaf))) .leaf)) Tryz.func198
def Fv:bX 154:=aR .leaf Tryz.func154
def Ff:iR 74:=dR .leaf Tryz.func74
def CW:bX 21:=aR .leaf Tryz.func21
def rO:iR 76:=dR .leaf Tryz.func76
def pW:bX 139:=aR .leaf Tryz.func139
def xX:bX 204:=aR (.seq none .leaf (.seq none (.seq (some [8]) .leaf .leaf) .leaf)) Tryz.func204
def Hz:bX 41:=aR .leaf Tryz.func41
def yc:Jx 77:=ub .leaf Tryz.func77
def CK:cQ 191:=bl .leaf Tryz.func191
def HM:bX 215:=aR .leaf Tryz.func215
end Go.Proofs.YtellfcpffcipcaaGreatDoor
