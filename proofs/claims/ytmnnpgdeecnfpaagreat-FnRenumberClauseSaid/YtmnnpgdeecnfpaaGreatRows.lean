/-
  No cell of these rows narrows 'for every input' (looked for: loops, veiled, ifaces, maps, wideKeys, modest, calm, conditions, laid).
  DERIVED. THE GIVEN ROWS OF THIS SEAT. 10 by the template 'for every input the law returns true; each argument reads behind the call as it read before'; 0 by the template 'total and deterministic' (their statements: YtmnnpgdeecnfpaaGreatTotals.lean).
  GIVEN WITH THE SEED: the statements are not yours to turn. If you find one false, say at which input.
  Laid BY PROGRAM, IN A SANDBOX (cutbox-rows.mjs): the forced cells as the released guide's own fill.sh prints them over the translation 2e615ec0d9cc89a2… (all of the seat's roots in one cut). By AI agents, Wed Nov 11 2026. No macro, syntax, notation, axiom, sorry.
-/
import Derived.Test.YtmnnpgdeecnfpaaGreatChecked
import GoSem.Claim
import GoSem.ClaimJoined
import GoSem.ClaimMapViews
import Derived.JoinedTies
import Derived.KernelRfl
namespace Go.Proofs.YtmnnpgdeecnfpaaGreat
/- THE CELL 'sum', in the pinned program and in every row, IS THE sha256 OF THE DUMP (.gsa) THAT YtmnnpgdeecnfpaaGreatProg.lean LOADS. Nothing in Lean hashes anything: it is a label: what it is worth is what the hold of that sum in a sandbox is worth. -/
noncomputable def Tryz.pinned : Pinned := { name := "ytmnnpgdeecnfpaagreat", sum := "2e615ec0d9cc89a2006cd98d9a4baa4e4a86e4404a6f9980b42be581e461b7b2", checked := Tryz.checked }
namespace Rows
def none {H : Type} : Left H := { results := [], args := [] }

/-- 'laws.FnPredsOf': WHATEVER THE INPUT: true; the input reads as it did. -/
def fnPredsOfSpec : ChangeSpec := { name := "fnPredsOf", fn := fun _ => fun
  | [d] => { results := [.lit (.bool true)], args := [d] }
  | _ => none }
def fnPredsOfRow : OpenClaim := { program := "ytmnnpgdeecnfpaagreat", sum := "2e615ec0d9cc89a2006cd98d9a4baa4e4a86e4404a6f9980b42be581e461b7b2", func := "loop.example/prologserver/laws.FnPredsOf", spec := "fnPredsOf", unfollowed := true, recurses := true, apart := false }
def FnPredsOfSaid : Prop := fnPredsOfRow.holds Tryz.pinned (OpenSpec.ofChange fnPredsOfSpec)

/-- ITS FALSE NEIGHBOUR: 'it returns false'. Refute it at one input. -/
def fnPredsOfWrong : ChangeSpec := { name := "fnPredsOf", fn := fun _ => fun
  | [d] => { results := [.lit (.bool false)], args := [d] }
  | _ => none }
def FnPredsOfWrongFalsely : Prop := fnPredsOfRow.holds Tryz.pinned (OpenSpec.ofChange fnPredsOfWrong)

/-- 'laws.FnSubsumedClause': WHATEVER THE INPUT: true; the input reads as it did. -/
def fnSubsumedClauseSpec : ChangeSpec := { name := "fnSubsumedClause", fn := fun _ => fun
  | [d1, d2] => { results := [.lit (.bool true)], args := [d1, d2] }
  | _ => none }
def fnSubsumedClauseRow : OpenClaim := { program := "ytmnnpgdeecnfpaagreat", sum := "2e615ec0d9cc89a2006cd98d9a4baa4e4a86e4404a6f9980b42be581e461b7b2", func := "loop.example/prologserver/laws.FnSubsumedClause", spec := "fnSubsumedClause", unfollowed := true, recurses := true, apart := false }
def FnSubsumedClauseSaid : Prop := fnSubsumedClauseRow.holds Tryz.pinned (OpenSpec.ofChange fnSubsumedClauseSpec)

/-- ITS FALSE NEIGHBOUR: 'it returns false'. Refute it at one input. -/
def fnSubsumedClauseWrong : ChangeSpec := { name := "fnSubsumedClause", fn := fun _ => fun
  | [d1, d2] => { results := [.lit (.bool false)], args := [d1, d2] }
  | _ => none }
def FnSubsumedClauseWrongFalsely : Prop := fnSubsumedClauseRow.holds Tryz.pinned (OpenSpec.ofChange fnSubsumedClauseWrong)

/-- 'laws.FnSubsumedFact': WHATEVER THE INPUT: true; the input reads as it did. -/
def fnSubsumedFactSpec : ChangeSpec := { name := "fnSubsumedFact", fn := fun _ => fun
  | [d] => { results := [.lit (.bool true)], args := [d] }
  | _ => none }
def fnSubsumedFactRow : OpenClaim := { program := "ytmnnpgdeecnfpaagreat", sum := "2e615ec0d9cc89a2006cd98d9a4baa4e4a86e4404a6f9980b42be581e461b7b2", func := "loop.example/prologserver/laws.FnSubsumedFact", spec := "fnSubsumedFact", unfollowed := true, recurses := true, apart := false }
def FnSubsumedFactSaid : Prop := fnSubsumedFactRow.holds Tryz.pinned (OpenSpec.ofChange fnSubsumedFactSpec)

/-- ITS FALSE NEIGHBOUR: 'it returns false'. Refute it at one input. -/
def fnSubsumedFactWrong : ChangeSpec := { name := "fnSubsumedFact", fn := fun _ => fun
  | [d] => { results := [.lit (.bool false)], args := [d] }
  | _ => none }
def FnSubsumedFactWrongFalsely : Prop := fnSubsumedFactRow.holds Tryz.pinned (OpenSpec.ofChange fnSubsumedFactWrong)

/-- 'laws.FnMoveTwice': WHATEVER THE INPUT: true; the input reads as it did. -/
def fnMoveTwiceSpec : ChangeSpec := { name := "fnMoveTwice", fn := fun _ => fun
  | [d] => { results := [.lit (.bool true)], args := [d] }
  | _ => none }
def fnMoveTwiceRow : OpenClaim := { program := "ytmnnpgdeecnfpaagreat", sum := "2e615ec0d9cc89a2006cd98d9a4baa4e4a86e4404a6f9980b42be581e461b7b2", func := "loop.example/prologserver/laws.FnMoveTwice", spec := "fnMoveTwice", unfollowed := true, recurses := true, apart := false }
def FnMoveTwiceSaid : Prop := fnMoveTwiceRow.holds Tryz.pinned (OpenSpec.ofChange fnMoveTwiceSpec)

/-- ITS FALSE NEIGHBOUR: 'it returns false'. Refute it at one input. -/
def fnMoveTwiceWrong : ChangeSpec := { name := "fnMoveTwice", fn := fun _ => fun
  | [d] => { results := [.lit (.bool false)], args := [d] }
  | _ => none }
def FnMoveTwiceWrongFalsely : Prop := fnMoveTwiceRow.holds Tryz.pinned (OpenSpec.ofChange fnMoveTwiceWrong)

/-- 'laws.FnRecursivePred': WHATEVER THE INPUT: true; the input reads as it did. -/
def fnRecursivePredSpec : ChangeSpec := { name := "fnRecursivePred", fn := fun _ => fun
  | [d] => { results := [.lit (.bool true)], args := [d] }
  | _ => none }
def fnRecursivePredRow : OpenClaim := { program := "ytmnnpgdeecnfpaagreat", sum := "2e615ec0d9cc89a2006cd98d9a4baa4e4a86e4404a6f9980b42be581e461b7b2", func := "loop.example/prologserver/laws.FnRecursivePred", spec := "fnRecursivePred", unfollowed := true, recurses := true, apart := false }
def FnRecursivePredSaid : Prop := fnRecursivePredRow.holds Tryz.pinned (OpenSpec.ofChange fnRecursivePredSpec)

/-- ITS FALSE NEIGHBOUR: 'it returns false'. Refute it at one input. -/
def fnRecursivePredWrong : ChangeSpec := { name := "fnRecursivePred", fn := fun _ => fun
  | [d] => { results := [.lit (.bool false)], args := [d] }
  | _ => none }
def FnRecursivePredWrongFalsely : Prop := fnRecursivePredRow.holds Tryz.pinned (OpenSpec.ofChange fnRecursivePredWrong)

/-- 'laws.FnRenumberClause': WHATEVER THE INPUT: true; the input reads as it did. -/
def fnRenumberClauseSpec : ChangeSpec := { name := "fnRenumberClause", fn := fun _ => fun
  | [d] => { results := [.lit (.bool true)], args := [d] }
  | _ => none }
def fnRenumberClauseRow : OpenClaim := { program := "ytmnnpgdeecnfpaagreat", sum := "2e615ec0d9cc89a2006cd98d9a4baa4e4a86e4404a6f9980b42be581e461b7b2", func := "loop.example/prologserver/laws.FnRenumberClause", spec := "fnRenumberClause", unfollowed := true, recurses := true, apart := false }
def FnRenumberClauseSaid : Prop := fnRenumberClauseRow.holds Tryz.pinned (OpenSpec.ofChange fnRenumberClauseSpec)

/-- ITS FALSE NEIGHBOUR: 'it returns false'. Refute it at one input. -/
def fnRenumberClauseWrong : ChangeSpec := { name := "fnRenumberClause", fn := fun _ => fun
  | [d] => { results := [.lit (.bool false)], args := [d] }
  | _ => none }
def FnRenumberClauseWrongFalsely : Prop := fnRenumberClauseRow.holds Tryz.pinned (OpenSpec.ofChange fnRenumberClauseWrong)

/-- 'laws.FnCallsOf': WHATEVER THE INPUT: true; the input reads as it did. -/
def fnCallsOfSpec : ChangeSpec := { name := "fnCallsOf", fn := fun _ => fun
  | [d] => { results := [.lit (.bool true)], args := [d] }
  | _ => none }
def fnCallsOfRow : OpenClaim := { program := "ytmnnpgdeecnfpaagreat", sum := "2e615ec0d9cc89a2006cd98d9a4baa4e4a86e4404a6f9980b42be581e461b7b2", func := "loop.example/prologserver/laws.FnCallsOf", spec := "fnCallsOf", unfollowed := true, recurses := true, apart := false }
def FnCallsOfSaid : Prop := fnCallsOfRow.holds Tryz.pinned (OpenSpec.ofChange fnCallsOfSpec)

/-- ITS FALSE NEIGHBOUR: 'it returns false'. Refute it at one input. -/
def fnCallsOfWrong : ChangeSpec := { name := "fnCallsOf", fn := fun _ => fun
  | [d] => { results := [.lit (.bool false)], args := [d] }
  | _ => none }
def FnCallsOfWrongFalsely : Prop := fnCallsOfRow.holds Tryz.pinned (OpenSpec.ofChange fnCallsOfWrong)

/-- 'laws.FnReachMore': WHATEVER THE INPUT: true; the input reads as it did. -/
def fnReachMoreSpec : ChangeSpec := { name := "fnReachMore", fn := fun _ => fun
  | [d] => { results := [.lit (.bool true)], args := [d] }
  | _ => none }
def fnReachMoreRow : OpenClaim := { program := "ytmnnpgdeecnfpaagreat", sum := "2e615ec0d9cc89a2006cd98d9a4baa4e4a86e4404a6f9980b42be581e461b7b2", func := "loop.example/prologserver/laws.FnReachMore", spec := "fnReachMore", unfollowed := true, recurses := true, apart := false }
def FnReachMoreSaid : Prop := fnReachMoreRow.holds Tryz.pinned (OpenSpec.ofChange fnReachMoreSpec)

/-- ITS FALSE NEIGHBOUR: 'it returns false'. Refute it at one input. -/
def fnReachMoreWrong : ChangeSpec := { name := "fnReachMore", fn := fun _ => fun
  | [d] => { results := [.lit (.bool false)], args := [d] }
  | _ => none }
def FnReachMoreWrongFalsely : Prop := fnReachMoreRow.holds Tryz.pinned (OpenSpec.ofChange fnReachMoreWrong)

/-- 'laws.FnReachOf': WHATEVER THE INPUT: true; the input reads as it did. -/
def fnReachOfSpec : ChangeSpec := { name := "fnReachOf", fn := fun _ => fun
  | [d] => { results := [.lit (.bool true)], args := [d] }
  | _ => none }
def fnReachOfRow : OpenClaim := { program := "ytmnnpgdeecnfpaagreat", sum := "2e615ec0d9cc89a2006cd98d9a4baa4e4a86e4404a6f9980b42be581e461b7b2", func := "loop.example/prologserver/laws.FnReachOf", spec := "fnReachOf", unfollowed := true, recurses := true, apart := false }
def FnReachOfSaid : Prop := fnReachOfRow.holds Tryz.pinned (OpenSpec.ofChange fnReachOfSpec)

/-- ITS FALSE NEIGHBOUR: 'it returns false'. Refute it at one input. -/
def fnReachOfWrong : ChangeSpec := { name := "fnReachOf", fn := fun _ => fun
  | [d] => { results := [.lit (.bool false)], args := [d] }
  | _ => none }
def FnReachOfWrongFalsely : Prop := fnReachOfRow.holds Tryz.pinned (OpenSpec.ofChange fnReachOfWrong)

/-- 'laws.FnCanUnfold': WHATEVER THE INPUT: true; the input reads as it did. -/
def fnCanUnfoldSpec : ChangeSpec := { name := "fnCanUnfold", fn := fun _ => fun
  | [d] => { results := [.lit (.bool true)], args := [d] }
  | _ => none }
def fnCanUnfoldRow : OpenClaim := { program := "ytmnnpgdeecnfpaagreat", sum := "2e615ec0d9cc89a2006cd98d9a4baa4e4a86e4404a6f9980b42be581e461b7b2", func := "loop.example/prologserver/laws.FnCanUnfold", spec := "fnCanUnfold", unfollowed := true, recurses := true, apart := false }
def FnCanUnfoldSaid : Prop := fnCanUnfoldRow.holds Tryz.pinned (OpenSpec.ofChange fnCanUnfoldSpec)

/-- ITS FALSE NEIGHBOUR: 'it returns false'. Refute it at one input. -/
def fnCanUnfoldWrong : ChangeSpec := { name := "fnCanUnfold", fn := fun _ => fun
  | [d] => { results := [.lit (.bool false)], args := [d] }
  | _ => none }
def FnCanUnfoldWrongFalsely : Prop := fnCanUnfoldRow.holds Tryz.pinned (OpenSpec.ofChange fnCanUnfoldWrong)

/- THE SECOND FORM. 'bulk': how many values and letters a reading holds, each counted each time it is reached (what is shared counts as often as it is met; a slice's spare places count too). A statement '..UptoSaid' is the law's where the arguments, and the package variables that the reading takes, are together of bulk at most 1048576: NARROWER than '..Said'. Prove '..Said' where nothing that the law and all that it calls make is longer than what came in: it says more and counts as full. Else prove '..UptoSaid'. A law counts once. -/
mutual
def uptoBulk {H : Type} : DataW H → Nat
  | .lit (.string bytes) => bytes.length + 1
  | .lit _ => 1
  | .nil => 1
  | .ptr d => uptoBulk d + 1
  | .slice elems spare => uptoBulkAll elems + uptoBulkAll spare + 1
  | .agg parts => uptoBulkAll parts + 1
  | .iface _ d => uptoBulk d + 1
  | .map entries => uptoBulkEntries entries + 1
  | .held _ => 1
def uptoBulkAll {H : Type} : List (DataW H) → Nat
  | [] => 0
  | d :: r => uptoBulk d + uptoBulkAll r
def uptoBulkEntries {H : Type} : List (Lit × DataW H) → Nat
  | [] => 0
  | x :: r => uptoBulkEntry x + uptoBulkEntries r
def uptoBulkEntry {H : Type} : Lit × DataW H → Nat
  | (.string bytes, d) => bytes.length + uptoBulk d + 1
  | (_, d) => uptoBulk d + 1
 end
def uptoSmall : (H : Type) → List (DataW H) → Bool := fun _ ds => decide (uptoBulkAll ds ≤ 1048576)
def OpenSpec.upto (s : _root_.Go.ChangeSpec) : _root_.Go.OpenSpec := { _root_.Go.OpenSpec.ofChange s with cond := some uptoSmall }

/-- 'laws.FnPredsOf', WHERE WHAT IT READS IS OF BULK AT MOST 1048576: true; the input reads as it did. -/
def fnPredsOfUptoRow : OpenClaim := { program := "ytmnnpgdeecnfpaagreat", sum := "2e615ec0d9cc89a2006cd98d9a4baa4e4a86e4404a6f9980b42be581e461b7b2", func := "loop.example/prologserver/laws.FnPredsOf", spec := "fnPredsOf", unfollowed := true, recurses := true, apart := false, narrowed := true }
def FnPredsOfUptoSaid : Prop := fnPredsOfUptoRow.holds Tryz.pinned (OpenSpec.upto fnPredsOfSpec)

/-- 'laws.FnSubsumedClause', WHERE WHAT IT READS IS OF BULK AT MOST 1048576: true; the input reads as it did. -/
def fnSubsumedClauseUptoRow : OpenClaim := { program := "ytmnnpgdeecnfpaagreat", sum := "2e615ec0d9cc89a2006cd98d9a4baa4e4a86e4404a6f9980b42be581e461b7b2", func := "loop.example/prologserver/laws.FnSubsumedClause", spec := "fnSubsumedClause", unfollowed := true, recurses := true, apart := false, narrowed := true }
def FnSubsumedClauseUptoSaid : Prop := fnSubsumedClauseUptoRow.holds Tryz.pinned (OpenSpec.upto fnSubsumedClauseSpec)

/-- 'laws.FnSubsumedFact', WHERE WHAT IT READS IS OF BULK AT MOST 1048576: true; the input reads as it did. -/
def fnSubsumedFactUptoRow : OpenClaim := { program := "ytmnnpgdeecnfpaagreat", sum := "2e615ec0d9cc89a2006cd98d9a4baa4e4a86e4404a6f9980b42be581e461b7b2", func := "loop.example/prologserver/laws.FnSubsumedFact", spec := "fnSubsumedFact", unfollowed := true, recurses := true, apart := false, narrowed := true }
def FnSubsumedFactUptoSaid : Prop := fnSubsumedFactUptoRow.holds Tryz.pinned (OpenSpec.upto fnSubsumedFactSpec)

/-- 'laws.FnMoveTwice', WHERE WHAT IT READS IS OF BULK AT MOST 1048576: true; the input reads as it did. -/
def fnMoveTwiceUptoRow : OpenClaim := { program := "ytmnnpgdeecnfpaagreat", sum := "2e615ec0d9cc89a2006cd98d9a4baa4e4a86e4404a6f9980b42be581e461b7b2", func := "loop.example/prologserver/laws.FnMoveTwice", spec := "fnMoveTwice", unfollowed := true, recurses := true, apart := false, narrowed := true }
def FnMoveTwiceUptoSaid : Prop := fnMoveTwiceUptoRow.holds Tryz.pinned (OpenSpec.upto fnMoveTwiceSpec)

/-- 'laws.FnRecursivePred', WHERE WHAT IT READS IS OF BULK AT MOST 1048576: true; the input reads as it did. -/
def fnRecursivePredUptoRow : OpenClaim := { program := "ytmnnpgdeecnfpaagreat", sum := "2e615ec0d9cc89a2006cd98d9a4baa4e4a86e4404a6f9980b42be581e461b7b2", func := "loop.example/prologserver/laws.FnRecursivePred", spec := "fnRecursivePred", unfollowed := true, recurses := true, apart := false, narrowed := true }
def FnRecursivePredUptoSaid : Prop := fnRecursivePredUptoRow.holds Tryz.pinned (OpenSpec.upto fnRecursivePredSpec)

/-- 'laws.FnRenumberClause', WHERE WHAT IT READS IS OF BULK AT MOST 1048576: true; the input reads as it did. -/
def fnRenumberClauseUptoRow : OpenClaim := { program := "ytmnnpgdeecnfpaagreat", sum := "2e615ec0d9cc89a2006cd98d9a4baa4e4a86e4404a6f9980b42be581e461b7b2", func := "loop.example/prologserver/laws.FnRenumberClause", spec := "fnRenumberClause", unfollowed := true, recurses := true, apart := false, narrowed := true }
def FnRenumberClauseUptoSaid : Prop := fnRenumberClauseUptoRow.holds Tryz.pinned (OpenSpec.upto fnRenumberClauseSpec)

/-- 'laws.FnCallsOf', WHERE WHAT IT READS IS OF BULK AT MOST 1048576: true; the input reads as it did. -/
def fnCallsOfUptoRow : OpenClaim := { program := "ytmnnpgdeecnfpaagreat", sum := "2e615ec0d9cc89a2006cd98d9a4baa4e4a86e4404a6f9980b42be581e461b7b2", func := "loop.example/prologserver/laws.FnCallsOf", spec := "fnCallsOf", unfollowed := true, recurses := true, apart := false, narrowed := true }
def FnCallsOfUptoSaid : Prop := fnCallsOfUptoRow.holds Tryz.pinned (OpenSpec.upto fnCallsOfSpec)

/-- 'laws.FnReachMore', WHERE WHAT IT READS IS OF BULK AT MOST 1048576: true; the input reads as it did. -/
def fnReachMoreUptoRow : OpenClaim := { program := "ytmnnpgdeecnfpaagreat", sum := "2e615ec0d9cc89a2006cd98d9a4baa4e4a86e4404a6f9980b42be581e461b7b2", func := "loop.example/prologserver/laws.FnReachMore", spec := "fnReachMore", unfollowed := true, recurses := true, apart := false, narrowed := true }
def FnReachMoreUptoSaid : Prop := fnReachMoreUptoRow.holds Tryz.pinned (OpenSpec.upto fnReachMoreSpec)

/-- 'laws.FnReachOf', WHERE WHAT IT READS IS OF BULK AT MOST 1048576: true; the input reads as it did. -/
def fnReachOfUptoRow : OpenClaim := { program := "ytmnnpgdeecnfpaagreat", sum := "2e615ec0d9cc89a2006cd98d9a4baa4e4a86e4404a6f9980b42be581e461b7b2", func := "loop.example/prologserver/laws.FnReachOf", spec := "fnReachOf", unfollowed := true, recurses := true, apart := false, narrowed := true }
def FnReachOfUptoSaid : Prop := fnReachOfUptoRow.holds Tryz.pinned (OpenSpec.upto fnReachOfSpec)

/-- 'laws.FnCanUnfold', WHERE WHAT IT READS IS OF BULK AT MOST 1048576: true; the input reads as it did. -/
def fnCanUnfoldUptoRow : OpenClaim := { program := "ytmnnpgdeecnfpaagreat", sum := "2e615ec0d9cc89a2006cd98d9a4baa4e4a86e4404a6f9980b42be581e461b7b2", func := "loop.example/prologserver/laws.FnCanUnfold", spec := "fnCanUnfold", unfollowed := true, recurses := true, apart := false, narrowed := true }
def FnCanUnfoldUptoSaid : Prop := fnCanUnfoldUptoRow.holds Tryz.pinned (OpenSpec.upto fnCanUnfoldSpec)

end Rows
end Go.Proofs.YtmnnpgdeecnfpaaGreat
