/-
  DERIVED. GIVEN WITH THE SEED: THE CARDS: each row of YtbocelianhcfmaaGreatDoorRows.lean that lists a variable, with what it lists TIED to the program's text (the seventh form; the later family's looks); each row that meets fmt, with fmt's text TOLD by the authors' own Lean function (tested against real Go, not proved from fmt's source: count such statements apart). THE CARD IS WHAT COUNTS. Prove the row's statement (the work); the ties are given (YtbocelianhcfmaaGreatDoorTie.lean); close each card by the builder's one call (the guide's Derived/Test/ToyasCard.lean, 'card_holds'). Laid BY PROGRAM, IN A SANDBOX (cutbox-door.mjs). By AI agents, Wed Nov 11 2026. No macro, syntax, notation, axiom, sorry.
-/
import Derived.Test.YtbocelianhcfmaaGreatDoorRows
import GoSem.ClaimSeven
namespace Go.Proofs.YtbocelianhcfmaaGreatDoor
namespace Rows

/-- THE TIED CARD OF 'laws.FnExactFormatProof'. -/
def fnExactFormatProofCard : Claim7 := { stood := { row := fnExactFormatProofRow, standIns := [], harness := (true, "a29f2c54040bd961c742d08943ac07b9de2aefde54ad65b735ec2a15742fabb1"), looks := false }, kinds := [], alts := [], laidByText := true, laidKinds := [.data, .data, .data], laidTests := true, laidLooks := .later }
def FnExactFormatProofCardSaid : Prop := Claim7.holds Tryz.pinned (.plain (OpenSpec.ofChange fnExactFormatProofSpec)) fnExactFormatProofCard

/-- THE TIED CARD OF 'laws.FnFormatProof'. -/
def fnFormatProofCard : Claim7 := { stood := { row := fnFormatProofRow, standIns := [], harness := (true, "a29f2c54040bd961c742d08943ac07b9de2aefde54ad65b735ec2a15742fabb1"), looks := false }, kinds := [], alts := [], laidByText := true, laidKinds := [.data, .data, .data], laidTests := true, laidLooks := .later }
def FnFormatProofCardSaid : Prop := Claim7.holds Tryz.pinned (.plain (OpenSpec.ofChange fnFormatProofSpec)) fnFormatProofCard

/-- THE TIED CARD OF 'laws.FnProofSame'. -/
def fnProofSameCard : Claim7 := { stood := { row := fnProofSameRow, standIns := [], harness := (true, "a29f2c54040bd961c742d08943ac07b9de2aefde54ad65b735ec2a15742fabb1"), looks := false }, kinds := [], alts := [], laidByText := true, laidKinds := [.data, .data, .data], laidTests := true, laidLooks := .later }
def FnProofSameCardSaid : Prop := Claim7.holds Tryz.pinned (.plain (OpenSpec.ofChange fnProofSameSpec)) fnProofSameCard

/-- THE SECOND FORM's CARD OF 'laws.FnExactFormatProof'. -/
def fnExactFormatProofUptoCard : Claim7 := { stood := { row := fnExactFormatProofUptoRow, standIns := [], harness := (true, "a29f2c54040bd961c742d08943ac07b9de2aefde54ad65b735ec2a15742fabb1"), looks := false }, kinds := [], alts := [], laidByText := true, laidKinds := [.data, .data, .data], laidTests := true, laidLooks := .later }
def FnExactFormatProofUptoCardSaid : Prop := Claim7.holds Tryz.pinned (.plain (OpenSpec.upto fnExactFormatProofSpec)) fnExactFormatProofUptoCard

/-- THE SECOND FORM's CARD OF 'laws.FnFormatProof'. -/
def fnFormatProofUptoCard : Claim7 := { stood := { row := fnFormatProofUptoRow, standIns := [], harness := (true, "a29f2c54040bd961c742d08943ac07b9de2aefde54ad65b735ec2a15742fabb1"), looks := false }, kinds := [], alts := [], laidByText := true, laidKinds := [.data, .data, .data], laidTests := true, laidLooks := .later }
def FnFormatProofUptoCardSaid : Prop := Claim7.holds Tryz.pinned (.plain (OpenSpec.upto fnFormatProofSpec)) fnFormatProofUptoCard

/-- THE SECOND FORM's CARD OF 'laws.FnProofSame'. -/
def fnProofSameUptoCard : Claim7 := { stood := { row := fnProofSameUptoRow, standIns := [], harness := (true, "a29f2c54040bd961c742d08943ac07b9de2aefde54ad65b735ec2a15742fabb1"), looks := false }, kinds := [], alts := [], laidByText := true, laidKinds := [.data, .data, .data], laidTests := true, laidLooks := .later }
def FnProofSameUptoCardSaid : Prop := Claim7.holds Tryz.pinned (.plain (OpenSpec.upto fnProofSameSpec)) fnProofSameUptoCard
end Rows
end Go.Proofs.YtbocelianhcfmaaGreatDoor
