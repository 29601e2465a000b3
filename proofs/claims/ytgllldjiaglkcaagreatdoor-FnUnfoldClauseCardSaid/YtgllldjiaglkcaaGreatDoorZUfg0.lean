/- Made by program: the shallow forms, computed. -/
import Derived.Test.YtgllldjiaglkcaaGreatDoorZUfgb
set_option maxRecDepth 100000
set_option maxHeartbeats 4000000
namespace Go.Proofs.YtgllldjiaglkcaaGreatDoor
open Go
attribute [local irreducible] Run CondV aq aK sOp c9 cS cd eR fk co Tryz.prog ao undef
def rE:cC 49:=bm (.seq none .leaf (.seq none .leaf (.seq none (.seq (some [24]) .leaf .leaf) .leaf))) Tryz.func49
def sh_i_holds:bQ 191:=aO .leaf Tryz.func191
def C0:bQ 276:=aO .leaf Tryz.func276
end Go.Proofs.YtgllldjiaglkcaaGreatDoor
