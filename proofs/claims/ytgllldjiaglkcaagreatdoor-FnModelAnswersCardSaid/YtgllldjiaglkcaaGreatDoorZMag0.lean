/- Made by program: the shallow forms, computed. -/
import Derived.Test.YtgllldjiaglkcaaGreatDoorZMagb
set_option maxRecDepth 100000
set_option maxHeartbeats 4000000
namespace Go.Proofs.YtgllldjiaglkcaaGreatDoor
open Go
attribute [local irreducible] Run CondV aw aN sOp cN cU bE eZ eO bD Tryz.prog aF undef
def rS:bY 49:=aZ (.seq none .leaf (.seq none .leaf (.seq none (.seq (some [24]) .leaf .leaf) .leaf))) Tryz.func49
def HY:bY 307:=aZ (.seq none .leaf (.seq none (.seq none .leaf (.one (.loop [5] .leaf))) .leaf)) Tryz.func307
def GW:bB 253:=aL .leaf Tryz.func253
def tw:bB 25:=aL .leaf Tryz.func25
def sU:bB 164:=aL .leaf Tryz.func164
def wA:bB 274:=aL .leaf Tryz.func274
def uM:bB 73:=aL .leaf Tryz.func73
def Ht:bB 177:=aL .leaf Tryz.func177
def FY:bB 275:=aL .leaf Tryz.func275
end Go.Proofs.YtgllldjiaglkcaaGreatDoor
