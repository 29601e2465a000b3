/- Made by program: the shallow forms, computed. -/
import Derived.Test.YtgllldjiaglkcaaGreatDoorZMagb
set_option maxRecDepth 100000
set_option maxHeartbeats 4000000
namespace Go.Proofs.YtgllldjiaglkcaaGreatDoor
open Go
attribute [local irreducible] Run CondV aw aN sOp cN cU bE eZ eO bD Tryz.prog aF undef
def r4:bY 134:=aZ (.seq none .leaf (.seq none .leaf (.seq none .leaf (.seq none .leaf (.seq none (.one (.seq (some [115]) .leaf (.two .leaf (.seq (some [128]) .leaf .leaf)))) .leaf))))) Tryz.func134
def wI:bY 252:=aZ (.seq none .leaf (.seq none (.seq (some [33]) .leaf .leaf) (.seq none (.seq none .leaf (.one (.loop [5] .leaf))) .leaf))) Tryz.func252
def DC:bY 266:=aZ (.seq none .leaf (.seq none .leaf (.seq none (.one (.loop [5] .leaf)) .leaf))) Tryz.func266
def pH:bB 135:=aL (.seq none .leaf (.seq none (.one (.loop [] .leaf)) .leaf)) Tryz.func135
def l4:KY 232:=r3 (.seq none .leaf (.seq none .leaf (.seq none .leaf (.one (.loop [26] (.seq none .leaf (.seq none .leaf (.seq (some []) .leaf .leaf)))))))) Tryz.func232
def wj:bY 240:=aZ (.seq none .leaf (.seq none .leaf (.seq (some [6]) .leaf (.seq none .leaf (.seq none (.one (.loop [6] (.seq none (.seq (some [25]) .leaf .leaf) .leaf))) (.seq none .leaf (.seq none (.seq (some [50]) .leaf .leaf) (.seq (some [8]) .leaf .leaf)))))))) Tryz.func240
def s5:bB 187:=aL (.seq none .leaf (.seq none (.seq (some [16]) .leaf .leaf) (.seq none .leaf (.seq none (.seq none .leaf (.one (.loop [4,3] .leaf))) (.seq none .leaf (.seq none (.seq none .leaf (.one (.loop [6] .leaf))) .leaf)))))) Tryz.func187
def HF:bB 193:=aL (.seq none .leaf (.seq none (.one (.seq none .leaf (.two .leaf (.seq none .leaf (.two .leaf (.seq (some [18]) .leaf .leaf)))))) (.seq none .leaf (.seq none .leaf (.seq none .leaf (.seq none .leaf (.seq none .leaf (.seq (some [7]) .leaf .leaf)))))))) Tryz.func193
def Dk:iU 243:=dV (.seq none .leaf (.seq none .leaf (.seq none (.one (.loop [1,8] .leaf)) .leaf))) Tryz.func243
def Dx:bY 129:=aZ (.seq none .leaf (.seq none .leaf (.seq none .leaf (.seq none .leaf (.seq (some [8,7]) (.one (.loop [8,7] .leaf)) .leaf))))) Tryz.func129
def zd:bB 82:=aL (.seq none .leaf (.seq none .leaf (.seq none (.seq none .leaf (.one (.loop [8,3] .leaf))) .leaf))) Tryz.func82
def OV:yN 133:=lG (.seq none .leaf (.seq none (.seq none .leaf (.one (.loop [9,3] .leaf))) .leaf)) Tryz.func133
def nG:bB 24:=aL .leaf Tryz.func24
def Kb:bB 55:=aL .leaf Tryz.func55
def pK:bB 262:=aL .leaf Tryz.func262
def nC:bY 141:=aZ .leaf Tryz.func141
def mB:bB 230:=aL .leaf Tryz.func230
def rJ:bB 152:=aL .leaf Tryz.func152
def nP:bY 115:=aZ .leaf Tryz.func115
def n9:yN 229:=lG .leaf Tryz.func229
def wt:bB 190:=aL .leaf Tryz.func190
def lJ:bB 93:=aL .leaf Tryz.func93
def tP:bY 329:=aZ (.seq none .leaf (.seq none (.seq (some [13]) .leaf .leaf) .leaf)) Tryz.func329
def sW:bB 163:=aL .leaf Tryz.func163
def lH:yN 257:=lG .leaf Tryz.func257
def eR:bY 46:=aZ .leaf Tryz.func46
def zF:DT 112:=oF .leaf Tryz.func112
def od:bB 220:=aL .leaf Tryz.func220
def Db:bB 328:=aL .leaf Tryz.func328
end Go.Proofs.YtgllldjiaglkcaaGreatDoor
