/-
  DERIVED. GIVEN WITH THE SEED: THE CARDS: each row of YtgllldjiaglkcaaGreatDoorRows.lean that lists a variable, with what it lists TIED to the program's text (the seventh form; the later family's looks); each row that meets fmt, with fmt's text TOLD by the authors' own Lean function (tested against real Go, not proved from fmt's source: count such statements apart). THE CARD IS WHAT COUNTS. Prove the row's statement (the work); the ties are given (YtgllldjiaglkcaaGreatDoorTie.lean); close each card by the builder's one call (the guide's Derived/Test/ToyasCard.lean, 'card_holds'). Laid BY PROGRAM, IN A SANDBOX (cutbox-door.mjs). By AI agents, Wed Nov 11 2026. No macro, syntax, notation, axiom, sorry.
-/
import Derived.Test.YtgllldjiaglkcaaGreatDoorRows
import GoSem.ClaimSeven
namespace Go.Proofs.YtgllldjiaglkcaaGreatDoor
namespace Rows

/-- THE TIED CARD OF 'laws.FnDropClause'. -/
def fnDropClauseCard : Claim7 := { stood := { row := fnDropClauseRow, standIns := [], harness := (true, "8533f74383fbf7ac0ad998a1f858b9e4fbc3bbf805cd8165529bf09a3818c48e"), looks := true }, kinds := [], alts := [], laidByText := true, laidKinds := [.data, .data, .data], laidTests := true, laidLooks := .later }
def FnDropClauseCardSaid : Prop := Claim7.holds Tryz.pinned (.plain (OpenSpec.ofChange fnDropClauseSpec)) fnDropClauseCard

/-- THE TIED CARD OF 'laws.FnUnfoldClause'. -/
def fnUnfoldClauseCard : Claim7 := { stood := { row := fnUnfoldClauseRow, standIns := [], harness := (true, "8533f74383fbf7ac0ad998a1f858b9e4fbc3bbf805cd8165529bf09a3818c48e"), looks := true }, kinds := [], alts := [], laidByText := true, laidKinds := [.data, .data, .data], laidTests := true, laidLooks := .later }
def FnUnfoldClauseCardSaid : Prop := Claim7.holds Tryz.pinned (.plain (OpenSpec.ofChange fnUnfoldClauseSpec)) fnUnfoldClauseCard

/-- THE TIED CARD OF 'laws.FnModelProof'. -/
def fnModelProofCard : Claim7 := { stood := { row := fnModelProofRow, standIns := [], harness := (true, "8533f74383fbf7ac0ad998a1f858b9e4fbc3bbf805cd8165529bf09a3818c48e"), looks := true }, kinds := [], alts := [], laidByText := true, laidKinds := [.data, .data, .data], laidTests := true, laidLooks := .later }
def FnModelProofCardSaid : Prop := Claim7.holds Tryz.pinned (.plain (OpenSpec.ofChange fnModelProofSpec)) fnModelProofCard

/-- THE TIED CARD OF 'laws.FnModelAnswers'. -/
def fnModelAnswersCard : Claim7 := { stood := { row := fnModelAnswersRow, standIns := [], harness := (true, "8533f74383fbf7ac0ad998a1f858b9e4fbc3bbf805cd8165529bf09a3818c48e"), looks := true }, kinds := [], alts := [], laidByText := true, laidKinds := [.data, .data, .data], laidTests := true, laidLooks := .later }
def FnModelAnswersCardSaid : Prop := Claim7.holds Tryz.pinned (.plain (OpenSpec.ofChange fnModelAnswersSpec)) fnModelAnswersCard

/-- THE TIED CARD OF 'laws.FnCheckProof'. -/
def fnCheckProofCard : Claim7 := { stood := { row := fnCheckProofRow, standIns := [], harness := (true, "8533f74383fbf7ac0ad998a1f858b9e4fbc3bbf805cd8165529bf09a3818c48e"), looks := true }, kinds := [], alts := [], laidByText := true, laidKinds := [.data, .data, .data], laidTests := true, laidLooks := .later }
def FnCheckProofCardSaid : Prop := Claim7.holds Tryz.pinned (.plain (OpenSpec.ofChange fnCheckProofSpec)) fnCheckProofCard

/-- THE SECOND FORM's CARD OF 'laws.FnDropClause'. -/
def fnDropClauseUptoCard : Claim7 := { stood := { row := fnDropClauseUptoRow, standIns := [], harness := (true, "8533f74383fbf7ac0ad998a1f858b9e4fbc3bbf805cd8165529bf09a3818c48e"), looks := true }, kinds := [], alts := [], laidByText := true, laidKinds := [.data, .data, .data], laidTests := true, laidLooks := .later }
def FnDropClauseUptoCardSaid : Prop := Claim7.holds Tryz.pinned (.plain (OpenSpec.upto fnDropClauseSpec)) fnDropClauseUptoCard

/-- THE SECOND FORM's CARD OF 'laws.FnUnfoldClause'. -/
def fnUnfoldClauseUptoCard : Claim7 := { stood := { row := fnUnfoldClauseUptoRow, standIns := [], harness := (true, "8533f74383fbf7ac0ad998a1f858b9e4fbc3bbf805cd8165529bf09a3818c48e"), looks := true }, kinds := [], alts := [], laidByText := true, laidKinds := [.data, .data, .data], laidTests := true, laidLooks := .later }
def FnUnfoldClauseUptoCardSaid : Prop := Claim7.holds Tryz.pinned (.plain (OpenSpec.upto fnUnfoldClauseSpec)) fnUnfoldClauseUptoCard

/-- THE SECOND FORM's CARD OF 'laws.FnModelProof'. -/
def fnModelProofUptoCard : Claim7 := { stood := { row := fnModelProofUptoRow, standIns := [], harness := (true, "8533f74383fbf7ac0ad998a1f858b9e4fbc3bbf805cd8165529bf09a3818c48e"), looks := true }, kinds := [], alts := [], laidByText := true, laidKinds := [.data, .data, .data], laidTests := true, laidLooks := .later }
def FnModelProofUptoCardSaid : Prop := Claim7.holds Tryz.pinned (.plain (OpenSpec.upto fnModelProofSpec)) fnModelProofUptoCard

/-- THE SECOND FORM's CARD OF 'laws.FnModelAnswers'. -/
def fnModelAnswersUptoCard : Claim7 := { stood := { row := fnModelAnswersUptoRow, standIns := [], harness := (true, "8533f74383fbf7ac0ad998a1f858b9e4fbc3bbf805cd8165529bf09a3818c48e"), looks := true }, kinds := [], alts := [], laidByText := true, laidKinds := [.data, .data, .data], laidTests := true, laidLooks := .later }
def FnModelAnswersUptoCardSaid : Prop := Claim7.holds Tryz.pinned (.plain (OpenSpec.upto fnModelAnswersSpec)) fnModelAnswersUptoCard

/-- THE SECOND FORM's CARD OF 'laws.FnCheckProof'. -/
def fnCheckProofUptoCard : Claim7 := { stood := { row := fnCheckProofUptoRow, standIns := [], harness := (true, "8533f74383fbf7ac0ad998a1f858b9e4fbc3bbf805cd8165529bf09a3818c48e"), looks := true }, kinds := [], alts := [], laidByText := true, laidKinds := [.data, .data, .data], laidTests := true, laidLooks := .later }
def FnCheckProofUptoCardSaid : Prop := Claim7.holds Tryz.pinned (.plain (OpenSpec.upto fnCheckProofSpec)) fnCheckProofUptoCard
end Rows
end Go.Proofs.YtgllldjiaglkcaaGreatDoor
