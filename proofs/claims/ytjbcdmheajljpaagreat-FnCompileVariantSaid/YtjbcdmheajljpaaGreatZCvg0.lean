/- Made by program: the shallow forms, computed. -/
import Derived.Test.YtjbcdmheajljpaaGreatZCvgb
set_option maxRecDepth 100000
set_option maxHeartbeats 4000000
namespace Go.Proofs.YtjbcdmheajljpaaGreat
open Go
attribute [local irreducible] Run CondV aw aI sOp cw bP be dt dX bn Tryz.prog aB undef
def kN:cC 22:=a6 (.seq none .leaf (.seq none .leaf (.seq none (.seq (some [24]) .leaf .leaf) .leaf))) Tryz.func22
end Go.Proofs.YtjbcdmheajljpaaGreat
