/- Made by program: the shallow forms, computed. -/
import Derived.Test.YtgllldjiaglkcaaGreatDoorZMagb
set_option maxRecDepth 100000
set_option maxHeartbeats 4000000
namespace Go.Proofs.YtgllldjiaglkcaaGreatDoor
open Go
attribute [local irreducible] Run CondV aw aN sOp cN cU bE eZ eO bD Tryz.prog aF undef
def r6:KY 138:=r3 (.seq none .leaf (.seq none .leaf (.seq none (.seq none .leaf (.one (.loop [30] (.seq none .leaf (.seq none .leaf (.seq none (.one (.seq none .leaf (.seq none .leaf (.seq none .leaf (.seq none .leaf (.seq none .leaf (.seq none .leaf (.seq (some []) .leaf (.seq none .leaf (.seq none .leaf (.seq none (.seq none .leaf (.one (.loop [120,17] .leaf))) .leaf))))))))))) .leaf)))))) .leaf))) Tryz.func138
def nX:bB 97:=aL (.seq none .leaf (.seq none .leaf (.seq none (.seq none .leaf (.one (.loop [4] .leaf))) .leaf))) Tryz.func97
def lm:yN 139:=lG (.seq none .leaf (.seq none .leaf (.seq none .leaf (.seq none (.seq (some [30]) .leaf .leaf) (.seq none .leaf (.seq none (.seq none .leaf (.one (.loop [42] .leaf))) .leaf)))))) Tryz.func139
def pB:iU 265:=dV .leaf Tryz.func265
def vK:bY 71:=aZ (.seq none .leaf (.seq none .leaf (.seq (some []) (.seq none .leaf (.one (.seq none .leaf (.two .leaf (.seq none .leaf (.two .leaf (.seq none .leaf (.two .leaf (.seq none .leaf (.two (.one (.loop [] .leaf)) (.seq none .leaf (.two (.seq none .leaf (.one (.loop [6] .leaf))) .leaf)))))))))))) .leaf))) Tryz.func71
def DZ:bY 183:=aZ (.seq none .leaf (.seq none (.seq none .leaf (.two (.seq none (.seq none .leaf (.one (.loop [5] .leaf))) .leaf) .leaf)) (.seq none (.seq none .leaf (.one (.loop [6,0] .leaf))) .leaf))) Tryz.func183
def ru:bB 231:=aL (.seq none .leaf (.seq none (.seq (some [18]) .leaf .leaf) .leaf)) Tryz.func231
def m8:iU 79:=dV .leaf Tryz.func79
def kZ:bY 83:=aZ (.seq none .leaf (.seq none .leaf (.seq none .leaf (.seq none (.seq none .leaf (.one (.loop [6,5] (.seq none .leaf (.seq (some [5]) .leaf .leaf))))) .leaf)))) Tryz.func83
def pR:bB 130:=aL (.seq none .leaf (.seq none (.seq none .leaf (.one (.loop [3] (.seq none (.seq (some [11]) .leaf .leaf) .leaf)))) .leaf)) Tryz.func130
def rA:bB 70:=aL (.seq none .leaf (.seq none .leaf (.seq none .leaf (.seq (some [4]) .leaf .leaf)))) Tryz.func70
def Ks:bB 295:=aL .leaf Tryz.func295
def C3:bB 258:=aL .leaf Tryz.func258
def De:bB 224:=aL (.seq none .leaf (.seq none (.seq none .leaf (.one (.loop [3] (.seq none .leaf (.seq none (.one (.seq (some [19]) .leaf .leaf)) .leaf))))) .leaf)) Tryz.func224
def rQ:bB 202:=aL .leaf Tryz.func202
def we:bY 29:=aZ .leaf Tryz.func29
def wa:bB 291:=aL .leaf Tryz.func291
def oq:bY 260:=aZ .leaf Tryz.func260
def v8:bB 81:=aL .leaf Tryz.func81
def KC:bY 255:=aZ (.seq none .leaf (.seq none .leaf (.seq (some [6]) .leaf (.seq none .leaf (.seq none .leaf (.seq none (.seq (some [33]) .leaf .leaf) (.seq (some [9]) .leaf (.seq none (.seq (some [54]) .leaf .leaf) (.seq (some [8]) .leaf .leaf))))))))) Tryz.func255
def tE:bY 217:=aZ (.seq none .leaf (.seq none (.seq none .leaf (.one (.seq (some [6]) .leaf (.two .leaf (.seq (some [18]) .leaf (.two .leaf (.seq (some [23]) .leaf .leaf))))))) .leaf)) Tryz.func217
def pl:bB 94:=aL .leaf Tryz.func94
def DV:iU 34:=dV .leaf Tryz.func34
def zJ:bB 42:=aL .leaf Tryz.func42
def zz:bB 165:=aL .leaf Tryz.func165
def HR:bB 303:=aL .leaf Tryz.func303
def wh:DT 118:=oF .leaf Tryz.func118
def Dq:iU 227:=dV .leaf Tryz.func227
def Ah:bB 330:=aL .leaf Tryz.func330
end Go.Proofs.YtgllldjiaglkcaaGreatDoor
