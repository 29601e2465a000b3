/-
  No cell of these rows narrows 'for every input' (looked for: loops, veiled, ifaces, maps, wideKeys, modest, calm, conditions, laid).
  DERIVED. THE GIVEN ROWS OF THIS SEAT. 6 by the template 'for every input the law returns true; each argument reads behind the call as it read before'; 0 by the template 'total and deterministic' (their statements: YtemmhhdnlbmicaaGreatTotals.lean).
  GIVEN WITH THE SEED: the statements are not yours to turn. If you find one false, say at which input.
  Laid BY PROGRAM, IN A SANDBOX (cutbox-rows.mjs): the forced cells as the released guide's own fill.sh prints them over the translation 69f8b2083efec1dd… (all of the seat's roots in one cut). By AI agents, Wed Nov 11 2026. No macro, syntax, notation, axiom, sorry.
-/
import Derived.Test.YtemmhhdnlbmicaaGreatChecked
import GoSem.Claim
import GoSem.ClaimJoined
import GoSem.ClaimMapViews
import Derived.JoinedTies
import Derived.KernelRfl
namespace Go.Proofs.YtemmhhdnlbmicaaGreat
/- THE CELL 'sum', in the pinned program and in every row, IS THE sha256 OF THE DUMP (.gsa) THAT YtemmhhdnlbmicaaGreatProg.lean LOADS. Nothing in Lean hashes anything: it is a label: what it is worth is what the hold of that sum in a sandbox is worth. -/
noncomputable def Tryz.pinned : Pinned := { name := "ytemmhhdnlbmicaagreat", sum := "69f8b2083efec1ddca18d1d6d34318829fa03c263d0d4021727ddeae8b2ffb22", checked := Tryz.checked }
namespace Rows
def none {H : Type} : Left H := { results := [], args := [] }

/-- 'laws.FnFactsFor': WHATEVER THE INPUT: true; the input reads as it did. -/
def fnFactsForSpec : ChangeSpec := { name := "fnFactsFor", fn := fun _ => fun
  | [d] => { results := [.lit (.bool true)], args := [d] }
  | _ => none }
def fnFactsForRow : OpenClaim := { program := "ytemmhhdnlbmicaagreat", sum := "69f8b2083efec1ddca18d1d6d34318829fa03c263d0d4021727ddeae8b2ffb22", func := "loop.example/prologserver/laws.FnFactsFor", spec := "fnFactsFor", unfollowed := true, recurses := true, apart := false }
def FnFactsForSaid : Prop := fnFactsForRow.holds Tryz.pinned (OpenSpec.ofChange fnFactsForSpec)

/-- ITS FALSE NEIGHBOUR: 'it returns false'. Refute it at one input. -/
def fnFactsForWrong : ChangeSpec := { name := "fnFactsFor", fn := fun _ => fun
  | [d] => { results := [.lit (.bool false)], args := [d] }
  | _ => none }
def FnFactsForWrongFalsely : Prop := fnFactsForRow.holds Tryz.pinned (OpenSpec.ofChange fnFactsForWrong)

/-- 'laws.FnFlatProgram': WHATEVER THE INPUT: true; the input reads as it did. -/
def fnFlatProgramSpec : ChangeSpec := { name := "fnFlatProgram", fn := fun _ => fun
  | [d] => { results := [.lit (.bool true)], args := [d] }
  | _ => none }
def fnFlatProgramRow : OpenClaim := { program := "ytemmhhdnlbmicaagreat", sum := "69f8b2083efec1ddca18d1d6d34318829fa03c263d0d4021727ddeae8b2ffb22", func := "loop.example/prologserver/laws.FnFlatProgram", spec := "fnFlatProgram", inPlace := ["slices.overlaps[loop.example/prologserver/impl.Term]", "maps.clone"], unfollowed := true, recurses := true, apart := false }
def FnFlatProgramSaid : Prop := fnFlatProgramRow.holds Tryz.pinned (OpenSpec.ofChange fnFlatProgramSpec)

/-- ITS FALSE NEIGHBOUR: 'it returns false'. Refute it at one input. -/
def fnFlatProgramWrong : ChangeSpec := { name := "fnFlatProgram", fn := fun _ => fun
  | [d] => { results := [.lit (.bool false)], args := [d] }
  | _ => none }
def FnFlatProgramWrongFalsely : Prop := fnFlatProgramRow.holds Tryz.pinned (OpenSpec.ofChange fnFlatProgramWrong)

/-- 'laws.FnModelMore': WHATEVER THE INPUT: true; the input reads as it did. -/
def fnModelMoreSpec : ChangeSpec := { name := "fnModelMore", fn := fun _ => fun
  | [d1, d2] => { results := [.lit (.bool true)], args := [d1, d2] }
  | _ => none }
def fnModelMoreRow : OpenClaim := { program := "ytemmhhdnlbmicaagreat", sum := "69f8b2083efec1ddca18d1d6d34318829fa03c263d0d4021727ddeae8b2ffb22", func := "loop.example/prologserver/laws.FnModelMore", spec := "fnModelMore", inPlace := ["slices.overlaps[loop.example/prologserver/impl.Term]", "maps.clone"], unfollowed := true, recurses := true, apart := false }
def FnModelMoreSaid : Prop := fnModelMoreRow.holds Tryz.pinned (OpenSpec.ofChange fnModelMoreSpec)

/-- ITS FALSE NEIGHBOUR: 'it returns false'. Refute it at one input. -/
def fnModelMoreWrong : ChangeSpec := { name := "fnModelMore", fn := fun _ => fun
  | [d1, d2] => { results := [.lit (.bool false)], args := [d1, d2] }
  | _ => none }
def FnModelMoreWrongFalsely : Prop := fnModelMoreRow.holds Tryz.pinned (OpenSpec.ofChange fnModelMoreWrong)

/-- 'laws.FnStageModel': WHATEVER THE INPUT: true; the input reads as it did. -/
def fnStageModelSpec : ChangeSpec := { name := "fnStageModel", fn := fun _ => fun
  | [d] => { results := [.lit (.bool true)], args := [d] }
  | _ => none }
def fnStageModelRow : OpenClaim := { program := "ytemmhhdnlbmicaagreat", sum := "69f8b2083efec1ddca18d1d6d34318829fa03c263d0d4021727ddeae8b2ffb22", func := "loop.example/prologserver/laws.FnStageModel", spec := "fnStageModel", inPlace := ["slices.overlaps[loop.example/prologserver/impl.Term]", "maps.clone"], unfollowed := true, recurses := true, apart := false }
def FnStageModelSaid : Prop := fnStageModelRow.holds Tryz.pinned (OpenSpec.ofChange fnStageModelSpec)

/-- ITS FALSE NEIGHBOUR: 'it returns false'. Refute it at one input. -/
def fnStageModelWrong : ChangeSpec := { name := "fnStageModel", fn := fun _ => fun
  | [d] => { results := [.lit (.bool false)], args := [d] }
  | _ => none }
def FnStageModelWrongFalsely : Prop := fnStageModelRow.holds Tryz.pinned (OpenSpec.ofChange fnStageModelWrong)

/-- 'laws.FnLeastModel': WHATEVER THE INPUT: true; the input reads as it did. -/
def fnLeastModelSpec : ChangeSpec := { name := "fnLeastModel", fn := fun _ => fun
  | [d] => { results := [.lit (.bool true)], args := [d] }
  | _ => none }
def fnLeastModelRow : OpenClaim := { program := "ytemmhhdnlbmicaagreat", sum := "69f8b2083efec1ddca18d1d6d34318829fa03c263d0d4021727ddeae8b2ffb22", func := "loop.example/prologserver/laws.FnLeastModel", spec := "fnLeastModel", inPlace := ["slices.overlaps[loop.example/prologserver/impl.Term]", "maps.clone"], unfollowed := true, recurses := true, apart := false }
def FnLeastModelSaid : Prop := fnLeastModelRow.holds Tryz.pinned (OpenSpec.ofChange fnLeastModelSpec)

/-- ITS FALSE NEIGHBOUR: 'it returns false'. Refute it at one input. -/
def fnLeastModelWrong : ChangeSpec := { name := "fnLeastModel", fn := fun _ => fun
  | [d] => { results := [.lit (.bool false)], args := [d] }
  | _ => none }
def FnLeastModelWrongFalsely : Prop := fnLeastModelRow.holds Tryz.pinned (OpenSpec.ofChange fnLeastModelWrong)

/-- 'laws.FnModelLeast': WHATEVER THE INPUT: true; the input reads as it did. -/
def fnModelLeastSpec : ChangeSpec := { name := "fnModelLeast", fn := fun _ => fun
  | [d] => { results := [.lit (.bool true)], args := [d] }
  | _ => none }
def fnModelLeastRow : OpenClaim := { program := "ytemmhhdnlbmicaagreat", sum := "69f8b2083efec1ddca18d1d6d34318829fa03c263d0d4021727ddeae8b2ffb22", func := "loop.example/prologserver/laws.FnModelLeast", spec := "fnModelLeast", inPlace := ["maps.clone", "slices.overlaps[loop.example/prologserver/impl.Term]"], unfollowed := true, recurses := true, apart := false }
def FnModelLeastSaid : Prop := fnModelLeastRow.holds Tryz.pinned (OpenSpec.ofChange fnModelLeastSpec)

/-- ITS FALSE NEIGHBOUR: 'it returns false'. Refute it at one input. -/
def fnModelLeastWrong : ChangeSpec := { name := "fnModelLeast", fn := fun _ => fun
  | [d] => { results := [.lit (.bool false)], args := [d] }
  | _ => none }
def FnModelLeastWrongFalsely : Prop := fnModelLeastRow.holds Tryz.pinned (OpenSpec.ofChange fnModelLeastWrong)

/- THE SECOND FORM. 'bulk': how many values and letters a reading holds, each counted each time it is reached (what is shared counts as often as it is met; a slice's spare places count too). A statement '..UptoSaid' is the law's where the arguments, and the package variables that the reading takes, are together of bulk at most 1048576: NARROWER than '..Said'. Prove '..Said' where nothing that the law and all that it calls make is longer than what came in: it says more and counts as full. Else prove '..UptoSaid'. A law counts once. -/
mutual
def uptoBulk {H : Type} : DataW H → Nat
  | .lit (.string bytes) => bytes.length + 1
  | .lit _ => 1
  | .nil => 1
  | .ptr d => uptoBulk d + 1
  | .slice elems spare => uptoBulkAll elems + uptoBulkAll spare + 1
  | .agg parts => uptoBulkAll parts + 1
  | .iface _ d => uptoBulk d + 1
  | .map entries => uptoBulkEntries entries + 1
  | .held _ => 1
def uptoBulkAll {H : Type} : List (DataW H) → Nat
  | [] => 0
  | d :: r => uptoBulk d + uptoBulkAll r
def uptoBulkEntries {H : Type} : List (Lit × DataW H) → Nat
  | [] => 0
  | x :: r => uptoBulkEntry x + uptoBulkEntries r
def uptoBulkEntry {H : Type} : Lit × DataW H → Nat
  | (.string bytes, d) => bytes.length + uptoBulk d + 1
  | (_, d) => uptoBulk d + 1
 end
def uptoSmall : (H : Type) → List (DataW H) → Bool := fun _ ds => decide (uptoBulkAll ds ≤ 1048576)
def OpenSpec.upto (s : _root_.Go.ChangeSpec) : _root_.Go.OpenSpec := { _root_.Go.OpenSpec.ofChange s with cond := some uptoSmall }

/-- 'laws.FnFactsFor', WHERE WHAT IT READS IS OF BULK AT MOST 1048576: true; the input reads as it did. -/
def fnFactsForUptoRow : OpenClaim := { program := "ytemmhhdnlbmicaagreat", sum := "69f8b2083efec1ddca18d1d6d34318829fa03c263d0d4021727ddeae8b2ffb22", func := "loop.example/prologserver/laws.FnFactsFor", spec := "fnFactsFor", unfollowed := true, recurses := true, apart := false, narrowed := true }
def FnFactsForUptoSaid : Prop := fnFactsForUptoRow.holds Tryz.pinned (OpenSpec.upto fnFactsForSpec)

/-- 'laws.FnFlatProgram', WHERE WHAT IT READS IS OF BULK AT MOST 1048576: true; the input reads as it did. -/
def fnFlatProgramUptoRow : OpenClaim := { program := "ytemmhhdnlbmicaagreat", sum := "69f8b2083efec1ddca18d1d6d34318829fa03c263d0d4021727ddeae8b2ffb22", func := "loop.example/prologserver/laws.FnFlatProgram", spec := "fnFlatProgram", inPlace := ["slices.overlaps[loop.example/prologserver/impl.Term]", "maps.clone"], unfollowed := true, recurses := true, apart := false, narrowed := true }
def FnFlatProgramUptoSaid : Prop := fnFlatProgramUptoRow.holds Tryz.pinned (OpenSpec.upto fnFlatProgramSpec)

/-- 'laws.FnModelMore', WHERE WHAT IT READS IS OF BULK AT MOST 1048576: true; the input reads as it did. -/
def fnModelMoreUptoRow : OpenClaim := { program := "ytemmhhdnlbmicaagreat", sum := "69f8b2083efec1ddca18d1d6d34318829fa03c263d0d4021727ddeae8b2ffb22", func := "loop.example/prologserver/laws.FnModelMore", spec := "fnModelMore", inPlace := ["slices.overlaps[loop.example/prologserver/impl.Term]", "maps.clone"], unfollowed := true, recurses := true, apart := false, narrowed := true }
def FnModelMoreUptoSaid : Prop := fnModelMoreUptoRow.holds Tryz.pinned (OpenSpec.upto fnModelMoreSpec)

/-- 'laws.FnStageModel', WHERE WHAT IT READS IS OF BULK AT MOST 1048576: true; the input reads as it did. -/
def fnStageModelUptoRow : OpenClaim := { program := "ytemmhhdnlbmicaagreat", sum := "69f8b2083efec1ddca18d1d6d34318829fa03c263d0d4021727ddeae8b2ffb22", func := "loop.example/prologserver/laws.FnStageModel", spec := "fnStageModel", inPlace := ["slices.overlaps[loop.example/prologserver/impl.Term]", "maps.clone"], unfollowed := true, recurses := true, apart := false, narrowed := true }
def FnStageModelUptoSaid : Prop := fnStageModelUptoRow.holds Tryz.pinned (OpenSpec.upto fnStageModelSpec)

/-- 'laws.FnLeastModel', WHERE WHAT IT READS IS OF BULK AT MOST 1048576: true; the input reads as it did. -/
def fnLeastModelUptoRow : OpenClaim := { program := "ytemmhhdnlbmicaagreat", sum := "69f8b2083efec1ddca18d1d6d34318829fa03c263d0d4021727ddeae8b2ffb22", func := "loop.example/prologserver/laws.FnLeastModel", spec := "fnLeastModel", inPlace := ["slices.overlaps[loop.example/prologserver/impl.Term]", "maps.clone"], unfollowed := true, recurses := true, apart := false, narrowed := true }
def FnLeastModelUptoSaid : Prop := fnLeastModelUptoRow.holds Tryz.pinned (OpenSpec.upto fnLeastModelSpec)

/-- 'laws.FnModelLeast', WHERE WHAT IT READS IS OF BULK AT MOST 1048576: true; the input reads as it did. -/
def fnModelLeastUptoRow : OpenClaim := { program := "ytemmhhdnlbmicaagreat", sum := "69f8b2083efec1ddca18d1d6d34318829fa03c263d0d4021727ddeae8b2ffb22", func := "loop.example/prologserver/laws.FnModelLeast", spec := "fnModelLeast", inPlace := ["maps.clone", "slices.overlaps[loop.example/prologserver/impl.Term]"], unfollowed := true, recurses := true, apart := false, narrowed := true }
def FnModelLeastUptoSaid : Prop := fnModelLeastUptoRow.holds Tryz.pinned (OpenSpec.upto fnModelLeastSpec)

end Rows
end Go.Proofs.YtemmhhdnlbmicaaGreat
