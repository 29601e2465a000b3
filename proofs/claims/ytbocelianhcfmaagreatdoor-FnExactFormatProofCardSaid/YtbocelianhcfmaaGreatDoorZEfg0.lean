/- Made by program: the shallow forms, computed. -/
import Derived.Test.YtbocelianhcfmaaGreatDoorZEfgb
set_option maxRecDepth 100000
set_option maxHeartbeats 4000000
namespace Go.Proofs.YtbocelianhcfmaaGreatDoor
open Go
attribute [local irreducible] Run CondV ah ax sOp a7 dw aI bi bB aO Tryz.prog df undef
def dg:kI 69:=ed (.seq none .leaf (.seq none .leaf (.seq none .leaf (.seq (some [8]) .leaf (.seq none .leaf (.seq (some [10]) .leaf (.seq none (.seq (some [69]) .leaf .leaf) .leaf))))))) Tryz.func69
end Go.Proofs.YtbocelianhcfmaaGreatDoor
