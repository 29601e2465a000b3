/- Made by program: the shallow forms, computed. -/
import Derived.Test.YtgllldjiaglkcaaGreatDoorZMagb
set_option maxRecDepth 100000
set_option maxHeartbeats 4000000
namespace Go.Proofs.YtgllldjiaglkcaaGreatDoor
open Go
attribute [local irreducible] Run CondV aw aN sOp cN cU bE eZ eO bD Tryz.prog aF undef
def pQ:bB 65:=aL (.seq none .leaf (.seq none .leaf (.seq none .leaf (.seq none .leaf (.seq none .leaf (.seq none .leaf (.seq none .leaf (.seq none .leaf (.seq none .leaf (.seq none .leaf (.seq none .leaf (.seq (some [8]) .leaf .leaf)))))))))))) Tryz.func65
def ow:bB 143:=aL (.seq none .leaf (.seq none .leaf (.seq none (.seq none .leaf (.one (.loop [4] .leaf))) .leaf))) Tryz.func143
def gU:iU 263:=dV (.seq none .leaf (.seq none .leaf (.seq none .leaf (.seq none (.one (.loop [10,9] .leaf)) .leaf)))) Tryz.func263
def pX:bY 76:=aZ .leaf Tryz.func76
def DQ:bY 168:=aZ (.seq none .leaf (.seq none .leaf (.seq none .leaf (.seq none (.seq none .leaf (.one (.loop [7,6,5] (.seq none .leaf (.seq (some [6,5]) (.one (.seq (some [25]) .leaf .leaf)) .leaf))))) .leaf)))) Tryz.func168
def AB:bY 21:=aZ (.seq none .leaf (.seq none .leaf (.seq none (.seq none .leaf (.one (.loop [5] .leaf))) .leaf))) Tryz.func21
def rq:bY 54:=aZ (.seq none .leaf (.seq none .leaf (.seq none (.seq none .leaf (.one (.loop [10,5] (.seq none .leaf (.seq none .leaf (.seq (some [5]) .leaf .leaf)))))) .leaf))) Tryz.func54
def ym:bY 170:=aZ (.seq none .leaf (.seq none .leaf (.seq none (.one (.loop [1,6] .leaf)) .leaf))) Tryz.func170
def GH:KY 40:=r3 (.seq none .leaf (.seq none .leaf (.seq none .leaf (.seq none (.seq none .leaf (.one (.loop [34] .leaf))) .leaf)))) Tryz.func40
def rH:bY 63:=aZ (.seq none .leaf (.seq none (.seq (some [14]) .leaf .leaf) (.seq (some [1]) .leaf .leaf))) Tryz.func63
def wz:DT 142:=oF .leaf Tryz.func142
def GX:bY 236:=aZ (.seq none .leaf (.seq none (.seq none .leaf (.one (.loop [5] .leaf))) .leaf)) Tryz.func236
def sJ:yN 64:=lG .leaf Tryz.func64
def sK:bB 51:=aL .leaf Tryz.func51
def nL:bB 37:=aL (.seq none .leaf (.seq none (.seq none .leaf (.one (.loop [3] (.seq none (.seq (some [11]) .leaf .leaf) .leaf)))) .leaf)) Tryz.func37
def nz:bY 200:=aZ .leaf Tryz.func200
def ry:bB 84:=aL .leaf Tryz.func84
def sd:bB 19:=aL .leaf Tryz.func19
def lI:bB 18:=aL .leaf Tryz.func18
def ul:bB 101:=aL (.seq none .leaf (.seq none (.seq none .leaf (.one (.loop [6] (.seq none .leaf (.seq none .leaf (.seq none (.one (.seq none .leaf (.seq (some [18]) .leaf .leaf))) .leaf)))))) .leaf)) Tryz.func101
def uS:bY 26:=aZ (.seq none .leaf (.seq none (.seq none .leaf (.one (.seq (some [6]) .leaf (.two .leaf (.seq (some [18]) .leaf (.two .leaf (.seq (some [23]) .leaf .leaf))))))) .leaf)) Tryz.func26
def nY:bY 103:=aZ (.seq none .leaf (.seq none (.seq none .leaf (.one (.loop [8] .leaf))) .leaf)) Tryz.func103
def fI:bY 105:=aZ (.seq none .leaf (.seq none (.seq none .leaf (.one (.loop [8] .leaf))) .leaf)) Tryz.func105
def ml:bY 66:=aZ .leaf Tryz.func66
def DM:iU 204:=dV .leaf Tryz.func204
def nQ:bB 33:=aL .leaf Tryz.func33
def HT:bB 75:=aL .leaf Tryz.func75
def sh_i_holds:bB 191:=aL .leaf Tryz.func191
def CW:bB 276:=aL .leaf Tryz.func276
end Go.Proofs.YtgllldjiaglkcaaGreatDoor
