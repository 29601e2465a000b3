/-
  DERIVED. GIVEN WITH THE SEED: THE CARDS: each row of YtellfcpffcipcaaGreatDoorRows.lean that lists a variable, with what it lists TIED to the program's text (the seventh form; the later family's looks); each row that meets fmt, with fmt's text TOLD by the authors' own Lean function (tested against real Go, not proved from fmt's source: count such statements apart). THE CARD IS WHAT COUNTS. Prove the row's statement (the work); the ties are given (YtellfcpffcipcaaGreatDoorTie.lean); close each card by the builder's one call (the guide's Derived/Test/ToyasCard.lean, 'card_holds'). Laid BY PROGRAM, IN A SANDBOX (cutbox-door.mjs). By AI agents, Wed Nov 11 2026. No macro, syntax, notation, axiom, sorry.
-/
import Derived.Test.YtellfcpffcipcaaGreatDoorRows
import GoSem.ClaimSeven
namespace Go.Proofs.YtellfcpffcipcaaGreatDoor
namespace Rows

/-- THE TIED CARD OF 'laws.FnCheckProof'. -/
def fnCheckProofCard : Claim7 := { stood := { row := fnCheckProofRow, standIns := [], harness := (true, "3ae5bef38938d9d721003c60dfc545748934b5a49cfa1724a16858fbe6a42747"), looks := false }, kinds := [], alts := [], laidByText := true, laidKinds := [.data, .data, .data], laidTests := true, laidLooks := .later }
def FnCheckProofCardSaid : Prop := Claim7.holds Tryz.pinned (.plain (OpenSpec.ofChange fnCheckProofSpec)) fnCheckProofCard

/-- THE SECOND FORM's CARD OF 'laws.FnCheckProof'. -/
def fnCheckProofUptoCard : Claim7 := { stood := { row := fnCheckProofUptoRow, standIns := [], harness := (true, "3ae5bef38938d9d721003c60dfc545748934b5a49cfa1724a16858fbe6a42747"), looks := false }, kinds := [], alts := [], laidByText := true, laidKinds := [.data, .data, .data], laidTests := true, laidLooks := .later }
def FnCheckProofUptoCardSaid : Prop := Claim7.holds Tryz.pinned (.plain (OpenSpec.upto fnCheckProofSpec)) fnCheckProofUptoCard
end Rows
end Go.Proofs.YtellfcpffcipcaaGreatDoor
