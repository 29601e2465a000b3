/- Made by program: the shallow forms, computed. -/
import Derived.Test.YtgllldjiaglkcaaGreatDoorZMagb
set_option maxRecDepth 100000
set_option maxHeartbeats 4000000
namespace Go.Proofs.YtgllldjiaglkcaaGreatDoor
open Go
attribute [local irreducible] Run CondV aw aN sOp cN cU bE eZ eO bD Tryz.prog aF undef
def D1:bY 242:=aZ (.seq none .leaf (.seq none .leaf (.seq none (.one (.loop [6] .leaf)) (.seq none .leaf (.seq none .leaf (.seq none .leaf (.seq none .leaf (.seq none (.seq none .leaf (.one (.loop [9,7] (.seq none .leaf (.seq (some [7]) .leaf .leaf))))) .leaf)))))))) Tryz.func242
def C8:bB 308:=aL (.seq none .leaf (.seq none .leaf (.seq none (.one (.loop [3] .leaf)) .leaf))) Tryz.func308
def DA:bB 270:=aL (.seq none .leaf (.seq (some [4]) .leaf (.seq (some [0]) .leaf (.seq none (.seq (some [38]) .leaf .leaf) (.seq none .leaf (.seq none (.seq none .leaf (.one (.loop [6,5] (.seq none .leaf (.seq none (.one (.seq none (.seq (some [54]) .leaf .leaf) .leaf)) .leaf))))) (.seq (some [5]) .leaf .leaf))))))) Tryz.func270
def wn:bY 188:=aZ (.seq none .leaf (.seq none .leaf (.seq none (.seq none .leaf (.one (.loop [6,5] .leaf))) .leaf))) Tryz.func188
def wD:yN 98:=lG .leaf Tryz.func98
def rD:iU 99:=dV (.seq none .leaf (.seq none .leaf (.seq none .leaf (.seq none .leaf (.seq none (.one (.loop [9,10] .leaf)) .leaf))))) Tryz.func99
def rG:bY 86:=aZ .leaf Tryz.func86
def zW:bB 235:=aL (.seq none .leaf (.seq none (.seq none .leaf (.one (.loop [3] .leaf))) .leaf)) Tryz.func235
def KD:iU 148:=dV (.seq none .leaf (.seq none .leaf (.seq none (.seq (some [19]) .leaf .leaf) (.seq none (.seq none .leaf (.one (.seq none .leaf (.two .leaf (.seq none .leaf (.two .leaf (.seq none .leaf (.two (.seq none (.seq (some [70]) .leaf .leaf) .leaf) .leaf)))))))) .leaf)))) Tryz.func148
def mX:bY 173:=aZ (.seq none .leaf (.seq none (.seq none .leaf (.one (.loop [8] .leaf))) .leaf)) Tryz.func173
def Ps:bB 140:=aL .leaf Tryz.func140
def rM:bY 62:=aZ .leaf Tryz.func62
def lF:iU 69:=dV (.seq none .leaf (.seq none .leaf (.seq none (.seq none .leaf (.one (.loop [17] .leaf))) .leaf))) Tryz.func69
def wl:DT 146:=oF .leaf Tryz.func146
def wx:bY 319:=aZ .leaf Tryz.func319
def vN:bB 120:=aL .leaf Tryz.func120
def nV:bB 315:=aL .leaf Tryz.func315
def DO:bB 302:=aL (.seq none .leaf (.seq none .leaf (.seq none .leaf (.seq none .leaf (.seq none (.one (.loop [0,3] .leaf)) .leaf))))) Tryz.func302
def vQ:bB 189:=aL .leaf Tryz.func189
def Ad:bY 312:=aZ (.seq none .leaf (.seq none .leaf (.seq none (.seq (some [15]) .leaf .leaf) .leaf))) Tryz.func312
def sM:bY 52:=aZ .leaf Tryz.func52
def uq:bB 203:=aL .leaf Tryz.func203
def wk:bB 311:=aL (.seq none .leaf (.seq none (.seq (some [8]) .leaf .leaf) .leaf)) Tryz.func311
def rr:bB 162:=aL .leaf Tryz.func162
def Ac:DT 273:=oF .leaf Tryz.func273
end Go.Proofs.YtgllldjiaglkcaaGreatDoor
