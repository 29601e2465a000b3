/- Made by program: the shallow forms, computed. -/
import Derived.Test.YtgllldjiaglkcaaGreatDoorZMagb
set_option maxRecDepth 100000
set_option maxHeartbeats 4000000
namespace Go.Proofs.YtgllldjiaglkcaaGreatDoor
open Go
attribute [local irreducible] Run CondV aw aN sOp cN cU bE eZ eO bD Tryz.prog aF undef
def lL:bY 6:=aZ (.seq none .leaf (.seq none (.seq (some [27]) .leaf .leaf) (.seq none .leaf (.seq none .leaf (.seq none .leaf (.seq none .leaf (.seq none (.seq (some [75]) .leaf .leaf) (.seq none .leaf (.seq none .leaf (.seq none (.seq none .leaf (.one (.loop [15,14] (.seq none .leaf (.seq none (.one (.seq none .leaf (.seq none (.seq (some [117]) .leaf .leaf) .leaf))) .leaf))))) (.seq none .leaf (.seq none (.seq none .leaf (.one (.loop [19] (.seq none (.seq (some [134]) .leaf .leaf) .leaf)))) .leaf)))))))))))) Tryz.func6
def yz:bY 264:=aZ .leaf Tryz.func264
def uJ:bY 300:=aZ (.seq none .leaf (.seq none .leaf (.seq none .leaf (.seq none .leaf (.seq none .leaf (.seq none (.seq none .leaf (.one (.loop [5] .leaf))) .leaf)))))) Tryz.func300
def zY:iU 201:=dV (.seq none .leaf (.seq none (.seq (some [23]) .leaf .leaf) (.seq none (.seq (some [34]) .leaf .leaf) (.seq none (.seq (some [57]) .leaf .leaf) (.seq none (.seq (some [73]) .leaf .leaf) (.seq none .leaf (.seq none (.seq (some [95]) .leaf .leaf) .leaf))))))) Tryz.func201
def ig:bY 78:=aZ (.seq none .leaf (.seq none .leaf (.seq none .leaf (.seq none .leaf (.seq none (.seq none .leaf (.one (.loop [20] .leaf))) .leaf))))) Tryz.func78
def As:KY 289:=r3 (.seq none .leaf (.seq none .leaf (.one (.loop [1,12] (.one (.seq none .leaf (.seq none .leaf (.seq none .leaf (.seq none (.seq (some [39]) .leaf .leaf) .leaf))))))))) Tryz.func289
def og:bB 244:=aL (.seq none .leaf (.seq none .leaf (.seq none .leaf (.seq none .leaf (.seq none (.seq none .leaf (.one (.loop [4,3] (.seq none .leaf (.seq none (.one (.seq (some [3]) .leaf .leaf)) .leaf))))) (.seq (some [3]) .leaf .leaf)))))) Tryz.func244
def uc:bB 147:=aL (.seq none .leaf (.seq none .leaf (.seq none (.seq (some [24]) .leaf .leaf) .leaf))) Tryz.func147
def pi:bY 27:=aZ (.seq none .leaf (.seq none .leaf (.seq none .leaf (.seq none .leaf (.seq none (.seq none .leaf (.one (.loop [18,7] .leaf))) .leaf))))) Tryz.func27
def rZ:bB 68:=aL (.seq none .leaf (.seq none .leaf (.seq none .leaf (.seq none (.seq none .leaf (.one (.loop [11,4] .leaf))) .leaf)))) Tryz.func68
def yn:bB 132:=aL (.seq none .leaf (.seq none .leaf (.seq none (.seq none .leaf (.one (.loop [4,3] .leaf))) .leaf))) Tryz.func132
def CB:bB 77:=aL (.seq none .leaf (.seq none .leaf (.seq none (.seq none .leaf (.one (.loop [8,3] .leaf))) .leaf))) Tryz.func77
def Dy:bB 293:=aL (.seq none .leaf (.seq none .leaf (.seq none (.seq none .leaf (.one (.loop [8] .leaf))) .leaf))) Tryz.func293
def p5:bB 169:=aL (.seq none .leaf (.seq none .leaf (.seq none .leaf (.seq none .leaf (.seq none .leaf (.seq (some [5]) (.seq (some [29]) .leaf .leaf) (.seq none (.seq (some [54]) .leaf .leaf) .leaf))))))) Tryz.func169
def pe:bB 185:=aL .leaf Tryz.func185
def r7:bY 85:=aZ .leaf Tryz.func85
def ou:bB 259:=aL .leaf Tryz.func259
def D0:bY 318:=aZ .leaf Tryz.func318
def jS:bY 116:=aZ .leaf Tryz.func116
def yX:DT 100:=oF .leaf Tryz.func100
def zG:bB 167:=aL (.seq none .leaf (.seq none (.seq none .leaf (.one (.seq (some [5]) .leaf (.two .leaf (.seq (some [15]) .leaf (.two .leaf (.seq (some [18]) .leaf .leaf))))))) .leaf)) Tryz.func167
def zU:iU 288:=dV .leaf Tryz.func288
def yp:bY 239:=aZ .leaf Tryz.func239
def ww:bY 144:=aZ .leaf Tryz.func144
def nu:bB 228:=aL .leaf Tryz.func228
def iJ:bY 44:=aZ .leaf Tryz.func44
def wm:bY 111:=aZ .leaf Tryz.func111
def GZ:bB 213:=aL .leaf Tryz.func213
def zf:bB 309:=aL .leaf Tryz.func309
end Go.Proofs.YtgllldjiaglkcaaGreatDoor
