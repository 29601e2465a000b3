/- Made by program: the shallow forms, computed. -/
import Derived.Test.YtgllldjiaglkcaaGreatDoorZMpgb
set_option maxRecDepth 100000
set_option maxHeartbeats 4000000
namespace Go.Proofs.YtgllldjiaglkcaaGreatDoor
open Go
attribute [local irreducible] Run CondV az aO sOp cK cB bC eY eM bM Tryz.prog aD undef
def ov:cc 5:=aY (.seq none .leaf (.seq none (.seq (some [22]) .leaf .leaf) (.seq none .leaf (.seq none .leaf (.seq none .leaf (.seq none (.seq (some [52]) .leaf .leaf) .leaf)))))) Tryz.func5
end Go.Proofs.YtgllldjiaglkcaaGreatDoor
