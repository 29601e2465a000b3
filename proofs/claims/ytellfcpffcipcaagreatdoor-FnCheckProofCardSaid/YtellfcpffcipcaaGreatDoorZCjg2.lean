/- Made by program: the shallow forms, computed. -/
import Derived.Test.YtellfcpffcipcaaGreatDoorZCjgb
set_option maxRecDepth 100000
set_option maxHeartbeats 4000000
namespace Go.Proofs.YtellfcpffcipcaaGreatDoor
open Go
attribute [local irreducible] Run CondV aF aT sOp dH bZ bY fT gX ce Tryz.prog aC undef
def EY:cQ 16:=bl (.seq none .leaf (.seq none .leaf (.seq none .leaf (.seq none .leaf (.seq none .leaf (.seq none .leaf (.seq none (.seq none .leaf (.one (.loop [72] .leaf))) .leaf))))))) Tryz.func16
def zf:iR 147:=dR (.seq none .leaf (.seq none (.seq none .leaf (.one (.loop [10] .leaf))) .leaf)) Tryz.func147
def pT:bX 31:=aR (.seq none .leaf (.seq none .leaf (.seq none (.seq none .leaf (.one (.loop [4] .leaf))) .leaf))) Tryz.func31
def FM:cQ 34:=bl (.seq none .leaf (.seq none (.seq (some [13]) .leaf .leaf) (.seq none .leaf (.seq none .leaf (.seq none (.seq none .leaf (.one (.loop [6] .leaf))) .leaf))))) Tryz.func34
def EA:cQ 98:=bl (.seq none .leaf (.seq none .leaf (.seq none .leaf (.seq none (.seq none .leaf (.one (.loop [7,6,5] (.seq none .leaf (.seq (some [6,5]) (.one (.seq (some [25]) .leaf .leaf)) .leaf))))) .leaf)))) Tryz.func98
def Ge:cQ 109:=bl (.seq none .leaf (.seq none (.seq none .leaf (.two (.seq none (.seq none .leaf (.one (.loop [5] .leaf))) .leaf) .leaf)) (.seq none (.seq none .leaf (.one (.loop [6,0] .leaf))) .leaf))) Tryz.func109
def qx:cQ 95:=bl (.seq none .leaf (.seq none .leaf (.seq none (.seq none .leaf (.one (.loop [13,6] .leaf))) .leaf))) Tryz.func95
def Cs:cQ 44:=bl (.seq none .leaf (.seq none .leaf (.seq none (.seq none .leaf (.one (.loop [6,5] (.seq none (.seq (some [16]) .leaf .leaf) .leaf)))) .leaf))) Tryz.func44
def Aw:bX 27:=aR .leaf Tryz.func27
def rL:bX 7:=aR .leaf Tryz.func7
def pL:bX 17:=aR (.seq none .leaf (.seq none (.seq none .leaf (.one (.loop [3] (.seq none (.seq (some [11]) .leaf .leaf) .leaf)))) .leaf)) Tryz.func17
def Jg:yC 8:=lQ .leaf Tryz.func8
def Fr:bX 221:=aR (.seq none .leaf (.seq none .leaf (.seq none .leaf (.seq none .leaf (.seq none (.one (.loop [0,3] .leaf)) .leaf))))) Tryz.func221
def wv:cQ 86:=bl (.seq none .leaf (.seq none (.seq none .leaf (.one (.seq (some [6]) .leaf (.two .leaf (.seq (some [18]) .leaf (.two .leaf (.seq (some [23]) .leaf .leaf))))))) .leaf)) Tryz.func86
def Fl:bX 208:=aR (.seq none .leaf (.seq none .leaf (.seq none (.seq none .leaf (.one (.loop [4,3] .leaf))) .leaf))) Tryz.func208
def IX:bX 160:=aR .leaf Tryz.func160
def FZ:bX 82:=aR .leaf Tryz.func82
def wI:cQ 32:=bl .leaf Tryz.func32
def yS:cQ 81:=bl .leaf Tryz.func81
def EL:bX 148:=aR .leaf Tryz.func148
def JL:bX 210:=aR .leaf Tryz.func210
def Mm:bX 47:=aR .leaf Tryz.func47
def ID:bX 89:=aR .leaf Tryz.func89
def Ba:Jx 192:=ub .leaf Tryz.func192
end Go.Proofs.YtellfcpffcipcaaGreatDoor
