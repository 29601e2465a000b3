/- Made by program: the shallow forms, computed. -/
import Derived.Test.YtgllldjiaglkcaaGreatDoorZUfgb
set_option maxRecDepth 100000
set_option maxHeartbeats 4000000
namespace Go.Proofs.YtgllldjiaglkcaaGreatDoor
open Go
attribute [local irreducible] Run CondV aq aK sOp c9 cR cd eR ff cm Tryz.prog ao undef
def rJ:cC 49:=bm (.seq none .leaf (.seq none .leaf (.seq none (.seq (some [24]) .leaf .leaf) .leaf))) Tryz.func49
def sh_i_holds:bR 191:=aO .leaf Tryz.func191
def C4:bR 276:=aO .leaf Tryz.func276
end Go.Proofs.YtgllldjiaglkcaaGreatDoor
