/-
  NARROWER THAN 'FOR EVERY INPUT', by the rows' own cells (each row's printed sentence says how): FnExactFactsFor: loops · FnExactCanUnfold: loops · FnExactSubsumedClause: loops · FnExactFlatProgram: loops · FnExactRecursivePred: loops · FnExactPredsOf: loops · FnExactRenumberClause: loops · FnExactDropClause: loops · FnExactMovePred: loops · FnExactCallsOf: loops · FnExactReachOf: loops · FnExactSliceProgram: loops.
  DERIVED. THE GIVEN ROWS OF THIS SEAT. 12 by the template 'for every input the law returns true; each argument reads behind the call as it read before'; 0 by the template 'total and deterministic' (their statements: YtnoieadimkgjcaaTotals.lean).
  GIVEN WITH THE SEED: the statements are not yours to turn. If you find one false, say at which input.
  Laid BY PROGRAM, IN A SANDBOX (cutbox-rows.mjs): the forced cells as the released guide's own fill.sh prints them over the translation d0b8eea2d089feed… (all of the seat's roots in one cut). By AI agents, Wed Nov 11 2026. No macro, syntax, notation, axiom, sorry.
-/
import Derived.Test.YtnoieadimkgjcaaChecked
import GoSem.Claim
import GoSem.ClaimJoined
import GoSem.ClaimMapViews
import Derived.JoinedTies
import Derived.KernelRfl
namespace Go.Proofs.Ytnoieadimkgjcaa
/- THE CELL 'sum', in the pinned program and in every row, IS THE sha256 OF THE DUMP (.gsa) THAT YtnoieadimkgjcaaProg.lean LOADS. Nothing in Lean hashes anything: it is a label: what it is worth is what the hold of that sum in a sandbox is worth. -/
noncomputable def Try.pinned : Pinned := { name := "ytnoieadimkgjcaa", sum := "d0b8eea2d089feed15077caf85b99b1c4892091bb109f0275e07e0d9191b34eb", checked := Try.checked }
namespace Rows
def none {H : Type} : Left H := { results := [], args := [] }

/-- 'laws.FnExactFactsFor': WHATEVER THE INPUT: true; the input reads as it did. -/
def fnExactFactsForSpec : ChangeSpec := { name := "fnExactFactsFor", fn := fun _ => fun
  | [d1, d2] => { results := [.lit (.bool true)], args := [d1, d2] }
  | _ => none }
def fnExactFactsForRow : OpenClaim := { program := "ytnoieadimkgjcaa", sum := "d0b8eea2d089feed15077caf85b99b1c4892091bb109f0275e07e0d9191b34eb", func := "loop.example/prologserver/laws.FnExactFactsFor", spec := "fnExactFactsFor", unfollowed := true, recurses := true, loops := true, apart := false }
def FnExactFactsForSaid : Prop := fnExactFactsForRow.holds Try.pinned (OpenSpec.ofChange fnExactFactsForSpec)

/-- ITS FALSE NEIGHBOUR: 'it returns false'. Refute it at one input. -/
def fnExactFactsForWrong : ChangeSpec := { name := "fnExactFactsFor", fn := fun _ => fun
  | [d1, d2] => { results := [.lit (.bool false)], args := [d1, d2] }
  | _ => none }
def FnExactFactsForWrongFalsely : Prop := fnExactFactsForRow.holds Try.pinned (OpenSpec.ofChange fnExactFactsForWrong)

/-- 'laws.FnExactCanUnfold': WHATEVER THE INPUT: true; the input reads as it did. -/
def fnExactCanUnfoldSpec : ChangeSpec := { name := "fnExactCanUnfold", fn := fun _ => fun
  | [d1, d2] => { results := [.lit (.bool true)], args := [d1, d2] }
  | _ => none }
def fnExactCanUnfoldRow : OpenClaim := { program := "ytnoieadimkgjcaa", sum := "d0b8eea2d089feed15077caf85b99b1c4892091bb109f0275e07e0d9191b34eb", func := "loop.example/prologserver/laws.FnExactCanUnfold", spec := "fnExactCanUnfold", unfollowed := true, recurses := true, loops := true, apart := false }
def FnExactCanUnfoldSaid : Prop := fnExactCanUnfoldRow.holds Try.pinned (OpenSpec.ofChange fnExactCanUnfoldSpec)

/-- ITS FALSE NEIGHBOUR: 'it returns false'. Refute it at one input. -/
def fnExactCanUnfoldWrong : ChangeSpec := { name := "fnExactCanUnfold", fn := fun _ => fun
  | [d1, d2] => { results := [.lit (.bool false)], args := [d1, d2] }
  | _ => none }
def FnExactCanUnfoldWrongFalsely : Prop := fnExactCanUnfoldRow.holds Try.pinned (OpenSpec.ofChange fnExactCanUnfoldWrong)

/-- 'laws.FnExactSubsumedClause': WHATEVER THE INPUT: true; the input reads as it did. -/
def fnExactSubsumedClauseSpec : ChangeSpec := { name := "fnExactSubsumedClause", fn := fun _ => fun
  | [d1, d2] => { results := [.lit (.bool true)], args := [d1, d2] }
  | _ => none }
def fnExactSubsumedClauseRow : OpenClaim := { program := "ytnoieadimkgjcaa", sum := "d0b8eea2d089feed15077caf85b99b1c4892091bb109f0275e07e0d9191b34eb", func := "loop.example/prologserver/laws.FnExactSubsumedClause", spec := "fnExactSubsumedClause", unfollowed := true, recurses := true, loops := true, apart := false }
def FnExactSubsumedClauseSaid : Prop := fnExactSubsumedClauseRow.holds Try.pinned (OpenSpec.ofChange fnExactSubsumedClauseSpec)

/-- ITS FALSE NEIGHBOUR: 'it returns false'. Refute it at one input. -/
def fnExactSubsumedClauseWrong : ChangeSpec := { name := "fnExactSubsumedClause", fn := fun _ => fun
  | [d1, d2] => { results := [.lit (.bool false)], args := [d1, d2] }
  | _ => none }
def FnExactSubsumedClauseWrongFalsely : Prop := fnExactSubsumedClauseRow.holds Try.pinned (OpenSpec.ofChange fnExactSubsumedClauseWrong)

/-- 'laws.FnExactFlatProgram': WHATEVER THE INPUT: true; the input reads as it did. -/
def fnExactFlatProgramSpec : ChangeSpec := { name := "fnExactFlatProgram", fn := fun _ => fun
  | [d] => { results := [.lit (.bool true)], args := [d] }
  | _ => none }
def fnExactFlatProgramRow : OpenClaim := { program := "ytnoieadimkgjcaa", sum := "d0b8eea2d089feed15077caf85b99b1c4892091bb109f0275e07e0d9191b34eb", func := "loop.example/prologserver/laws.FnExactFlatProgram", spec := "fnExactFlatProgram", unfollowed := true, recurses := true, loops := true, apart := false }
def FnExactFlatProgramSaid : Prop := fnExactFlatProgramRow.holds Try.pinned (OpenSpec.ofChange fnExactFlatProgramSpec)

/-- ITS FALSE NEIGHBOUR: 'it returns false'. Refute it at one input. -/
def fnExactFlatProgramWrong : ChangeSpec := { name := "fnExactFlatProgram", fn := fun _ => fun
  | [d] => { results := [.lit (.bool false)], args := [d] }
  | _ => none }
def FnExactFlatProgramWrongFalsely : Prop := fnExactFlatProgramRow.holds Try.pinned (OpenSpec.ofChange fnExactFlatProgramWrong)

/-- 'laws.FnExactRecursivePred': WHATEVER THE INPUT: true; the input reads as it did. -/
def fnExactRecursivePredSpec : ChangeSpec := { name := "fnExactRecursivePred", fn := fun _ => fun
  | [d1, d2] => { results := [.lit (.bool true)], args := [d1, d2] }
  | _ => none }
def fnExactRecursivePredRow : OpenClaim := { program := "ytnoieadimkgjcaa", sum := "d0b8eea2d089feed15077caf85b99b1c4892091bb109f0275e07e0d9191b34eb", func := "loop.example/prologserver/laws.FnExactRecursivePred", spec := "fnExactRecursivePred", unfollowed := true, recurses := true, loops := true, apart := false }
def FnExactRecursivePredSaid : Prop := fnExactRecursivePredRow.holds Try.pinned (OpenSpec.ofChange fnExactRecursivePredSpec)

/-- ITS FALSE NEIGHBOUR: 'it returns false'. Refute it at one input. -/
def fnExactRecursivePredWrong : ChangeSpec := { name := "fnExactRecursivePred", fn := fun _ => fun
  | [d1, d2] => { results := [.lit (.bool false)], args := [d1, d2] }
  | _ => none }
def FnExactRecursivePredWrongFalsely : Prop := fnExactRecursivePredRow.holds Try.pinned (OpenSpec.ofChange fnExactRecursivePredWrong)

/-- 'laws.FnExactPredsOf': WHATEVER THE INPUT: true; the input reads as it did. -/
def fnExactPredsOfSpec : ChangeSpec := { name := "fnExactPredsOf", fn := fun _ => fun
  | [d] => { results := [.lit (.bool true)], args := [d] }
  | _ => none }
def fnExactPredsOfRow : OpenClaim := { program := "ytnoieadimkgjcaa", sum := "d0b8eea2d089feed15077caf85b99b1c4892091bb109f0275e07e0d9191b34eb", func := "loop.example/prologserver/laws.FnExactPredsOf", spec := "fnExactPredsOf", unfollowed := true, recurses := true, loops := true, apart := false }
def FnExactPredsOfSaid : Prop := fnExactPredsOfRow.holds Try.pinned (OpenSpec.ofChange fnExactPredsOfSpec)

/-- ITS FALSE NEIGHBOUR: 'it returns false'. Refute it at one input. -/
def fnExactPredsOfWrong : ChangeSpec := { name := "fnExactPredsOf", fn := fun _ => fun
  | [d] => { results := [.lit (.bool false)], args := [d] }
  | _ => none }
def FnExactPredsOfWrongFalsely : Prop := fnExactPredsOfRow.holds Try.pinned (OpenSpec.ofChange fnExactPredsOfWrong)

/-- 'laws.FnExactRenumberClause': WHATEVER THE INPUT: true; the input reads as it did. -/
def fnExactRenumberClauseSpec : ChangeSpec := { name := "fnExactRenumberClause", fn := fun _ => fun
  | [d] => { results := [.lit (.bool true)], args := [d] }
  | _ => none }
def fnExactRenumberClauseRow : OpenClaim := { program := "ytnoieadimkgjcaa", sum := "d0b8eea2d089feed15077caf85b99b1c4892091bb109f0275e07e0d9191b34eb", func := "loop.example/prologserver/laws.FnExactRenumberClause", spec := "fnExactRenumberClause", unfollowed := true, recurses := true, loops := true, apart := false }
def FnExactRenumberClauseSaid : Prop := fnExactRenumberClauseRow.holds Try.pinned (OpenSpec.ofChange fnExactRenumberClauseSpec)

/-- ITS FALSE NEIGHBOUR: 'it returns false'. Refute it at one input. -/
def fnExactRenumberClauseWrong : ChangeSpec := { name := "fnExactRenumberClause", fn := fun _ => fun
  | [d] => { results := [.lit (.bool false)], args := [d] }
  | _ => none }
def FnExactRenumberClauseWrongFalsely : Prop := fnExactRenumberClauseRow.holds Try.pinned (OpenSpec.ofChange fnExactRenumberClauseWrong)

/-- 'laws.FnExactDropClause': WHATEVER THE INPUT: true; the input reads as it did. -/
def fnExactDropClauseSpec : ChangeSpec := { name := "fnExactDropClause", fn := fun _ => fun
  | [d1, d2] => { results := [.lit (.bool true)], args := [d1, d2] }
  | _ => none }
def fnExactDropClauseRow : OpenClaim := { program := "ytnoieadimkgjcaa", sum := "d0b8eea2d089feed15077caf85b99b1c4892091bb109f0275e07e0d9191b34eb", func := "loop.example/prologserver/laws.FnExactDropClause", spec := "fnExactDropClause", unfollowed := true, recurses := true, loops := true, apart := false }
def FnExactDropClauseSaid : Prop := fnExactDropClauseRow.holds Try.pinned (OpenSpec.ofChange fnExactDropClauseSpec)

/-- ITS FALSE NEIGHBOUR: 'it returns false'. Refute it at one input. -/
def fnExactDropClauseWrong : ChangeSpec := { name := "fnExactDropClause", fn := fun _ => fun
  | [d1, d2] => { results := [.lit (.bool false)], args := [d1, d2] }
  | _ => none }
def FnExactDropClauseWrongFalsely : Prop := fnExactDropClauseRow.holds Try.pinned (OpenSpec.ofChange fnExactDropClauseWrong)

/-- 'laws.FnExactMovePred': WHATEVER THE INPUT: true; the input reads as it did. -/
def fnExactMovePredSpec : ChangeSpec := { name := "fnExactMovePred", fn := fun _ => fun
  | [d1, d2] => { results := [.lit (.bool true)], args := [d1, d2] }
  | _ => none }
def fnExactMovePredRow : OpenClaim := { program := "ytnoieadimkgjcaa", sum := "d0b8eea2d089feed15077caf85b99b1c4892091bb109f0275e07e0d9191b34eb", func := "loop.example/prologserver/laws.FnExactMovePred", spec := "fnExactMovePred", unfollowed := true, recurses := true, loops := true, apart := false }
def FnExactMovePredSaid : Prop := fnExactMovePredRow.holds Try.pinned (OpenSpec.ofChange fnExactMovePredSpec)

/-- ITS FALSE NEIGHBOUR: 'it returns false'. Refute it at one input. -/
def fnExactMovePredWrong : ChangeSpec := { name := "fnExactMovePred", fn := fun _ => fun
  | [d1, d2] => { results := [.lit (.bool false)], args := [d1, d2] }
  | _ => none }
def FnExactMovePredWrongFalsely : Prop := fnExactMovePredRow.holds Try.pinned (OpenSpec.ofChange fnExactMovePredWrong)

/-- 'laws.FnExactCallsOf': WHATEVER THE INPUT: true; the input reads as it did. -/
def fnExactCallsOfSpec : ChangeSpec := { name := "fnExactCallsOf", fn := fun _ => fun
  | [d1, d2] => { results := [.lit (.bool true)], args := [d1, d2] }
  | _ => none }
def fnExactCallsOfRow : OpenClaim := { program := "ytnoieadimkgjcaa", sum := "d0b8eea2d089feed15077caf85b99b1c4892091bb109f0275e07e0d9191b34eb", func := "loop.example/prologserver/laws.FnExactCallsOf", spec := "fnExactCallsOf", unfollowed := true, recurses := true, loops := true, apart := false }
def FnExactCallsOfSaid : Prop := fnExactCallsOfRow.holds Try.pinned (OpenSpec.ofChange fnExactCallsOfSpec)

/-- ITS FALSE NEIGHBOUR: 'it returns false'. Refute it at one input. -/
def fnExactCallsOfWrong : ChangeSpec := { name := "fnExactCallsOf", fn := fun _ => fun
  | [d1, d2] => { results := [.lit (.bool false)], args := [d1, d2] }
  | _ => none }
def FnExactCallsOfWrongFalsely : Prop := fnExactCallsOfRow.holds Try.pinned (OpenSpec.ofChange fnExactCallsOfWrong)

/-- 'laws.FnExactReachOf': WHATEVER THE INPUT: true; the input reads as it did. -/
def fnExactReachOfSpec : ChangeSpec := { name := "fnExactReachOf", fn := fun _ => fun
  | [d1, d2] => { results := [.lit (.bool true)], args := [d1, d2] }
  | _ => none }
def fnExactReachOfRow : OpenClaim := { program := "ytnoieadimkgjcaa", sum := "d0b8eea2d089feed15077caf85b99b1c4892091bb109f0275e07e0d9191b34eb", func := "loop.example/prologserver/laws.FnExactReachOf", spec := "fnExactReachOf", unfollowed := true, recurses := true, loops := true, apart := false }
def FnExactReachOfSaid : Prop := fnExactReachOfRow.holds Try.pinned (OpenSpec.ofChange fnExactReachOfSpec)

/-- ITS FALSE NEIGHBOUR: 'it returns false'. Refute it at one input. -/
def fnExactReachOfWrong : ChangeSpec := { name := "fnExactReachOf", fn := fun _ => fun
  | [d1, d2] => { results := [.lit (.bool false)], args := [d1, d2] }
  | _ => none }
def FnExactReachOfWrongFalsely : Prop := fnExactReachOfRow.holds Try.pinned (OpenSpec.ofChange fnExactReachOfWrong)

/-- 'laws.FnExactSliceProgram': WHATEVER THE INPUT: true; the input reads as it did. -/
def fnExactSliceProgramSpec : ChangeSpec := { name := "fnExactSliceProgram", fn := fun _ => fun
  | [d1, d2] => { results := [.lit (.bool true)], args := [d1, d2] }
  | _ => none }
def fnExactSliceProgramRow : OpenClaim := { program := "ytnoieadimkgjcaa", sum := "d0b8eea2d089feed15077caf85b99b1c4892091bb109f0275e07e0d9191b34eb", func := "loop.example/prologserver/laws.FnExactSliceProgram", spec := "fnExactSliceProgram", unfollowed := true, recurses := true, loops := true, apart := false }
def FnExactSliceProgramSaid : Prop := fnExactSliceProgramRow.holds Try.pinned (OpenSpec.ofChange fnExactSliceProgramSpec)

/-- ITS FALSE NEIGHBOUR: 'it returns false'. Refute it at one input. -/
def fnExactSliceProgramWrong : ChangeSpec := { name := "fnExactSliceProgram", fn := fun _ => fun
  | [d1, d2] => { results := [.lit (.bool false)], args := [d1, d2] }
  | _ => none }
def FnExactSliceProgramWrongFalsely : Prop := fnExactSliceProgramRow.holds Try.pinned (OpenSpec.ofChange fnExactSliceProgramWrong)

/- THE SECOND FORM. 'bulk': how many values and letters a reading holds, each counted each time it is reached (what is shared counts as often as it is met; a slice's spare places count too). A statement '..UptoSaid' is the law's where the arguments, and the package variables that the reading takes, are together of bulk at most 1048576: NARROWER than '..Said'. Prove '..Said' where nothing that the law and all that it calls make is longer than what came in: it says more and counts as full. Else prove '..UptoSaid'. A law counts once. -/
mutual
def uptoBulk {H : Type} : DataW H → Nat
  | .lit (.string bytes) => bytes.length + 1
  | .lit _ => 1
  | .nil => 1
  | .ptr d => uptoBulk d + 1
  | .slice elems spare => uptoBulkAll elems + uptoBulkAll spare + 1
  | .agg parts => uptoBulkAll parts + 1
  | .iface _ d => uptoBulk d + 1
  | .map entries => uptoBulkEntries entries + 1
  | .held _ => 1
def uptoBulkAll {H : Type} : List (DataW H) → Nat
  | [] => 0
  | d :: r => uptoBulk d + uptoBulkAll r
def uptoBulkEntries {H : Type} : List (Lit × DataW H) → Nat
  | [] => 0
  | x :: r => uptoBulkEntry x + uptoBulkEntries r
def uptoBulkEntry {H : Type} : Lit × DataW H → Nat
  | (.string bytes, d) => bytes.length + uptoBulk d + 1
  | (_, d) => uptoBulk d + 1
 end
def uptoSmall : (H : Type) → List (DataW H) → Bool := fun _ ds => decide (uptoBulkAll ds ≤ 1048576)
def OpenSpec.upto (s : _root_.Go.ChangeSpec) : _root_.Go.OpenSpec := { _root_.Go.OpenSpec.ofChange s with cond := some uptoSmall }

/-- 'laws.FnExactFactsFor', WHERE WHAT IT READS IS OF BULK AT MOST 1048576: true; the input reads as it did. -/
def fnExactFactsForUptoRow : OpenClaim := { program := "ytnoieadimkgjcaa", sum := "d0b8eea2d089feed15077caf85b99b1c4892091bb109f0275e07e0d9191b34eb", func := "loop.example/prologserver/laws.FnExactFactsFor", spec := "fnExactFactsFor", unfollowed := true, recurses := true, loops := true, apart := false, narrowed := true }
def FnExactFactsForUptoSaid : Prop := fnExactFactsForUptoRow.holds Try.pinned (OpenSpec.upto fnExactFactsForSpec)

/-- 'laws.FnExactCanUnfold', WHERE WHAT IT READS IS OF BULK AT MOST 1048576: true; the input reads as it did. -/
def fnExactCanUnfoldUptoRow : OpenClaim := { program := "ytnoieadimkgjcaa", sum := "d0b8eea2d089feed15077caf85b99b1c4892091bb109f0275e07e0d9191b34eb", func := "loop.example/prologserver/laws.FnExactCanUnfold", spec := "fnExactCanUnfold", unfollowed := true, recurses := true, loops := true, apart := false, narrowed := true }
def FnExactCanUnfoldUptoSaid : Prop := fnExactCanUnfoldUptoRow.holds Try.pinned (OpenSpec.upto fnExactCanUnfoldSpec)

/-- 'laws.FnExactSubsumedClause', WHERE WHAT IT READS IS OF BULK AT MOST 1048576: true; the input reads as it did. -/
def fnExactSubsumedClauseUptoRow : OpenClaim := { program := "ytnoieadimkgjcaa", sum := "d0b8eea2d089feed15077caf85b99b1c4892091bb109f0275e07e0d9191b34eb", func := "loop.example/prologserver/laws.FnExactSubsumedClause", spec := "fnExactSubsumedClause", unfollowed := true, recurses := true, loops := true, apart := false, narrowed := true }
def FnExactSubsumedClauseUptoSaid : Prop := fnExactSubsumedClauseUptoRow.holds Try.pinned (OpenSpec.upto fnExactSubsumedClauseSpec)

/-- 'laws.FnExactFlatProgram', WHERE WHAT IT READS IS OF BULK AT MOST 1048576: true; the input reads as it did. -/
def fnExactFlatProgramUptoRow : OpenClaim := { program := "ytnoieadimkgjcaa", sum := "d0b8eea2d089feed15077caf85b99b1c4892091bb109f0275e07e0d9191b34eb", func := "loop.example/prologserver/laws.FnExactFlatProgram", spec := "fnExactFlatProgram", unfollowed := true, recurses := true, loops := true, apart := false, narrowed := true }
def FnExactFlatProgramUptoSaid : Prop := fnExactFlatProgramUptoRow.holds Try.pinned (OpenSpec.upto fnExactFlatProgramSpec)

/-- 'laws.FnExactRecursivePred', WHERE WHAT IT READS IS OF BULK AT MOST 1048576: true; the input reads as it did. -/
def fnExactRecursivePredUptoRow : OpenClaim := { program := "ytnoieadimkgjcaa", sum := "d0b8eea2d089feed15077caf85b99b1c4892091bb109f0275e07e0d9191b34eb", func := "loop.example/prologserver/laws.FnExactRecursivePred", spec := "fnExactRecursivePred", unfollowed := true, recurses := true, loops := true, apart := false, narrowed := true }
def FnExactRecursivePredUptoSaid : Prop := fnExactRecursivePredUptoRow.holds Try.pinned (OpenSpec.upto fnExactRecursivePredSpec)

/-- 'laws.FnExactPredsOf', WHERE WHAT IT READS IS OF BULK AT MOST 1048576: true; the input reads as it did. -/
def fnExactPredsOfUptoRow : OpenClaim := { program := "ytnoieadimkgjcaa", sum := "d0b8eea2d089feed15077caf85b99b1c4892091bb109f0275e07e0d9191b34eb", func := "loop.example/prologserver/laws.FnExactPredsOf", spec := "fnExactPredsOf", unfollowed := true, recurses := true, loops := true, apart := false, narrowed := true }
def FnExactPredsOfUptoSaid : Prop := fnExactPredsOfUptoRow.holds Try.pinned (OpenSpec.upto fnExactPredsOfSpec)

/-- 'laws.FnExactRenumberClause', WHERE WHAT IT READS IS OF BULK AT MOST 1048576: true; the input reads as it did. -/
def fnExactRenumberClauseUptoRow : OpenClaim := { program := "ytnoieadimkgjcaa", sum := "d0b8eea2d089feed15077caf85b99b1c4892091bb109f0275e07e0d9191b34eb", func := "loop.example/prologserver/laws.FnExactRenumberClause", spec := "fnExactRenumberClause", unfollowed := true, recurses := true, loops := true, apart := false, narrowed := true }
def FnExactRenumberClauseUptoSaid : Prop := fnExactRenumberClauseUptoRow.holds Try.pinned (OpenSpec.upto fnExactRenumberClauseSpec)

/-- 'laws.FnExactDropClause', WHERE WHAT IT READS IS OF BULK AT MOST 1048576: true; the input reads as it did. -/
def fnExactDropClauseUptoRow : OpenClaim := { program := "ytnoieadimkgjcaa", sum := "d0b8eea2d089feed15077caf85b99b1c4892091bb109f0275e07e0d9191b34eb", func := "loop.example/prologserver/laws.FnExactDropClause", spec := "fnExactDropClause", unfollowed := true, recurses := true, loops := true, apart := false, narrowed := true }
def FnExactDropClauseUptoSaid : Prop := fnExactDropClauseUptoRow.holds Try.pinned (OpenSpec.upto fnExactDropClauseSpec)

/-- 'laws.FnExactMovePred', WHERE WHAT IT READS IS OF BULK AT MOST 1048576: true; the input reads as it did. -/
def fnExactMovePredUptoRow : OpenClaim := { program := "ytnoieadimkgjcaa", sum := "d0b8eea2d089feed15077caf85b99b1c4892091bb109f0275e07e0d9191b34eb", func := "loop.example/prologserver/laws.FnExactMovePred", spec := "fnExactMovePred", unfollowed := true, recurses := true, loops := true, apart := false, narrowed := true }
def FnExactMovePredUptoSaid : Prop := fnExactMovePredUptoRow.holds Try.pinned (OpenSpec.upto fnExactMovePredSpec)

/-- 'laws.FnExactCallsOf', WHERE WHAT IT READS IS OF BULK AT MOST 1048576: true; the input reads as it did. -/
def fnExactCallsOfUptoRow : OpenClaim := { program := "ytnoieadimkgjcaa", sum := "d0b8eea2d089feed15077caf85b99b1c4892091bb109f0275e07e0d9191b34eb", func := "loop.example/prologserver/laws.FnExactCallsOf", spec := "fnExactCallsOf", unfollowed := true, recurses := true, loops := true, apart := false, narrowed := true }
def FnExactCallsOfUptoSaid : Prop := fnExactCallsOfUptoRow.holds Try.pinned (OpenSpec.upto fnExactCallsOfSpec)

/-- 'laws.FnExactReachOf', WHERE WHAT IT READS IS OF BULK AT MOST 1048576: true; the input reads as it did. -/
def fnExactReachOfUptoRow : OpenClaim := { program := "ytnoieadimkgjcaa", sum := "d0b8eea2d089feed15077caf85b99b1c4892091bb109f0275e07e0d9191b34eb", func := "loop.example/prologserver/laws.FnExactReachOf", spec := "fnExactReachOf", unfollowed := true, recurses := true, loops := true, apart := false, narrowed := true }
def FnExactReachOfUptoSaid : Prop := fnExactReachOfUptoRow.holds Try.pinned (OpenSpec.upto fnExactReachOfSpec)

/-- 'laws.FnExactSliceProgram', WHERE WHAT IT READS IS OF BULK AT MOST 1048576: true; the input reads as it did. -/
def fnExactSliceProgramUptoRow : OpenClaim := { program := "ytnoieadimkgjcaa", sum := "d0b8eea2d089feed15077caf85b99b1c4892091bb109f0275e07e0d9191b34eb", func := "loop.example/prologserver/laws.FnExactSliceProgram", spec := "fnExactSliceProgram", unfollowed := true, recurses := true, loops := true, apart := false, narrowed := true }
def FnExactSliceProgramUptoSaid : Prop := fnExactSliceProgramUptoRow.holds Try.pinned (OpenSpec.upto fnExactSliceProgramSpec)

end Rows
end Go.Proofs.Ytnoieadimkgjcaa
