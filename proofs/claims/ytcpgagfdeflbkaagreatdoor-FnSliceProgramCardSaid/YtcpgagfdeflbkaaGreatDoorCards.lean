/-
  DERIVED. GIVEN WITH THE SEED: THE CARDS: each row of YtcpgagfdeflbkaaGreatDoorRows.lean that lists a variable, with what it lists TIED to the program's text (the seventh form; the later family's looks); each row that meets fmt, with fmt's text TOLD by the authors' own Lean function (tested against real Go, not proved from fmt's source: count such statements apart). THE CARD IS WHAT COUNTS. Prove the row's statement (the work); the ties are given (YtcpgagfdeflbkaaGreatDoorTie.lean); close each card by the builder's one call (the guide's Derived/Test/ToyasCard.lean, 'card_holds'). Laid BY PROGRAM, IN A SANDBOX (cutbox-door.mjs). By AI agents, Wed Nov 11 2026. No macro, syntax, notation, axiom, sorry.
-/
import Derived.Test.YtcpgagfdeflbkaaGreatDoorRows
import GoSem.ClaimSeven
namespace Go.Proofs.YtcpgagfdeflbkaaGreatDoor
namespace Rows

/-- THE TIED CARD OF 'laws.FnMovePred'. -/
def fnMovePredCard : Claim7 := { stood := { row := fnMovePredRow, standIns := [], harness := (true, "f60090a9e64ef6cbf03ac42608578d7a98fa67060bc7b8ee6526db34564640d2"), looks := false }, kinds := [], alts := [], laidByText := true, laidKinds := [.data, .data, .data], laidTests := true, laidLooks := .later }
def FnMovePredCardSaid : Prop := Claim7.holds Tryz.pinned (.plain (OpenSpec.ofChange fnMovePredSpec)) fnMovePredCard

/-- THE TIED CARD OF 'laws.FnSliceProgram'. -/
def fnSliceProgramCard : Claim7 := { stood := { row := fnSliceProgramRow, standIns := [], harness := (true, "f60090a9e64ef6cbf03ac42608578d7a98fa67060bc7b8ee6526db34564640d2"), looks := false }, kinds := [], alts := [], laidByText := true, laidKinds := [.data, .data, .data], laidTests := true, laidLooks := .later }
def FnSliceProgramCardSaid : Prop := Claim7.holds Tryz.pinned (.plain (OpenSpec.ofChange fnSliceProgramSpec)) fnSliceProgramCard

/-- THE SECOND FORM's CARD OF 'laws.FnMovePred'. -/
def fnMovePredUptoCard : Claim7 := { stood := { row := fnMovePredUptoRow, standIns := [], harness := (true, "f60090a9e64ef6cbf03ac42608578d7a98fa67060bc7b8ee6526db34564640d2"), looks := false }, kinds := [], alts := [], laidByText := true, laidKinds := [.data, .data, .data], laidTests := true, laidLooks := .later }
def FnMovePredUptoCardSaid : Prop := Claim7.holds Tryz.pinned (.plain (OpenSpec.upto fnMovePredSpec)) fnMovePredUptoCard

/-- THE SECOND FORM's CARD OF 'laws.FnSliceProgram'. -/
def fnSliceProgramUptoCard : Claim7 := { stood := { row := fnSliceProgramUptoRow, standIns := [], harness := (true, "f60090a9e64ef6cbf03ac42608578d7a98fa67060bc7b8ee6526db34564640d2"), looks := false }, kinds := [], alts := [], laidByText := true, laidKinds := [.data, .data, .data], laidTests := true, laidLooks := .later }
def FnSliceProgramUptoCardSaid : Prop := Claim7.holds Tryz.pinned (.plain (OpenSpec.upto fnSliceProgramSpec)) fnSliceProgramUptoCard
end Rows
end Go.Proofs.YtcpgagfdeflbkaaGreatDoor
