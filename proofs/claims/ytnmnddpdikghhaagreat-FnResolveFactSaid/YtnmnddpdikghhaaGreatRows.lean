/-
  No cell of these rows narrows 'for every input' (looked for: loops, veiled, ifaces, maps, wideKeys, modest, calm, conditions, laid).
  DERIVED. THE GIVEN ROWS OF THIS SEAT. 2 by the template 'for every input the law returns true; each argument reads behind the call as it read before'; 0 by the template 'total and deterministic' (their statements: YtnmnddpdikghhaaGreatTotals.lean).
  GIVEN WITH THE SEED: the statements are not yours to turn. If you find one false, say at which input.
  Laid BY PROGRAM, IN A SANDBOX (cutbox-rows.mjs): the forced cells as the released guide's own fill.sh prints them over the translation 6e0abf3510d4ad5f… (all of the seat's roots in one cut). By AI agents, Wed Nov 11 2026. No macro, syntax, notation, axiom, sorry.
-/
import Derived.Test.YtnmnddpdikghhaaGreatChecked
import GoSem.Claim
import GoSem.ClaimJoined
import GoSem.ClaimMapViews
import Derived.JoinedTies
import Derived.KernelRfl
namespace Go.Proofs.YtnmnddpdikghhaaGreat
/- THE CELL 'sum', in the pinned program and in every row, IS THE sha256 OF THE DUMP (.gsa) THAT YtnmnddpdikghhaaGreatProg.lean LOADS. Nothing in Lean hashes anything: it is a label: what it is worth is what the hold of that sum in a sandbox is worth. -/
noncomputable def Tryz.pinned : Pinned := { name := "ytnmnddpdikghhaagreat", sum := "6e0abf3510d4ad5f634365063d7ec968f4d2e50d9e1c7b8a25b2673183cd089e", checked := Tryz.checked }
namespace Rows
def none {H : Type} : Left H := { results := [], args := [] }

/-- 'laws.FnResolveFact': WHATEVER THE INPUT: true; the input reads as it did. -/
def fnResolveFactSpec : ChangeSpec := { name := "fnResolveFact", fn := fun _ => fun
  | [d] => { results := [.lit (.bool true)], args := [d] }
  | _ => none }
def fnResolveFactRow : OpenClaim := { program := "ytnmnddpdikghhaagreat", sum := "6e0abf3510d4ad5f634365063d7ec968f4d2e50d9e1c7b8a25b2673183cd089e", func := "loop.example/prologserver/laws.FnResolveFact", spec := "fnResolveFact", unfollowed := true, recurses := true, apart := false }
def FnResolveFactSaid : Prop := fnResolveFactRow.holds Tryz.pinned (OpenSpec.ofChange fnResolveFactSpec)

/-- ITS FALSE NEIGHBOUR: 'it returns false'. Refute it at one input. -/
def fnResolveFactWrong : ChangeSpec := { name := "fnResolveFact", fn := fun _ => fun
  | [d] => { results := [.lit (.bool false)], args := [d] }
  | _ => none }
def FnResolveFactWrongFalsely : Prop := fnResolveFactRow.holds Tryz.pinned (OpenSpec.ofChange fnResolveFactWrong)

/-- 'laws.FnResolvent': WHATEVER THE INPUT: true; the input reads as it did. -/
def fnResolventSpec : ChangeSpec := { name := "fnResolvent", fn := fun _ => fun
  | [d] => { results := [.lit (.bool true)], args := [d] }
  | _ => none }
def fnResolventRow : OpenClaim := { program := "ytnmnddpdikghhaagreat", sum := "6e0abf3510d4ad5f634365063d7ec968f4d2e50d9e1c7b8a25b2673183cd089e", func := "loop.example/prologserver/laws.FnResolvent", spec := "fnResolvent", unfollowed := true, recurses := true, apart := false }
def FnResolventSaid : Prop := fnResolventRow.holds Tryz.pinned (OpenSpec.ofChange fnResolventSpec)

/-- ITS FALSE NEIGHBOUR: 'it returns false'. Refute it at one input. -/
def fnResolventWrong : ChangeSpec := { name := "fnResolvent", fn := fun _ => fun
  | [d] => { results := [.lit (.bool false)], args := [d] }
  | _ => none }
def FnResolventWrongFalsely : Prop := fnResolventRow.holds Tryz.pinned (OpenSpec.ofChange fnResolventWrong)

/- THE SECOND FORM. 'bulk': how many values and letters a reading holds, each counted each time it is reached (what is shared counts as often as it is met; a slice's spare places count too). A statement '..UptoSaid' is the law's where the arguments, and the package variables that the reading takes, are together of bulk at most 1048576: NARROWER than '..Said'. Prove '..Said' where nothing that the law and all that it calls make is longer than what came in: it says more and counts as full. Else prove '..UptoSaid'. A law counts once. -/
mutual
def uptoBulk {H : Type} : DataW H → Nat
  | .lit (.string bytes) => bytes.length + 1
  | .lit _ => 1
  | .nil => 1
  | .ptr d => uptoBulk d + 1
  | .slice elems spare => uptoBulkAll elems + uptoBulkAll spare + 1
  | .agg parts => uptoBulkAll parts + 1
  | .iface _ d => uptoBulk d + 1
  | .map entries => uptoBulkEntries entries + 1
  | .held _ => 1
def uptoBulkAll {H : Type} : List (DataW H) → Nat
  | [] => 0
  | d :: r => uptoBulk d + uptoBulkAll r
def uptoBulkEntries {H : Type} : List (Lit × DataW H) → Nat
  | [] => 0
  | x :: r => uptoBulkEntry x + uptoBulkEntries r
def uptoBulkEntry {H : Type} : Lit × DataW H → Nat
  | (.string bytes, d) => bytes.length + uptoBulk d + 1
  | (_, d) => uptoBulk d + 1
 end
def uptoSmall : (H : Type) → List (DataW H) → Bool := fun _ ds => decide (uptoBulkAll ds ≤ 1048576)
def OpenSpec.upto (s : _root_.Go.ChangeSpec) : _root_.Go.OpenSpec := { _root_.Go.OpenSpec.ofChange s with cond := some uptoSmall }

/-- 'laws.FnResolveFact', WHERE WHAT IT READS IS OF BULK AT MOST 1048576: true; the input reads as it did. -/
def fnResolveFactUptoRow : OpenClaim := { program := "ytnmnddpdikghhaagreat", sum := "6e0abf3510d4ad5f634365063d7ec968f4d2e50d9e1c7b8a25b2673183cd089e", func := "loop.example/prologserver/laws.FnResolveFact", spec := "fnResolveFact", unfollowed := true, recurses := true, apart := false, narrowed := true }
def FnResolveFactUptoSaid : Prop := fnResolveFactUptoRow.holds Tryz.pinned (OpenSpec.upto fnResolveFactSpec)

/-- 'laws.FnResolvent', WHERE WHAT IT READS IS OF BULK AT MOST 1048576: true; the input reads as it did. -/
def fnResolventUptoRow : OpenClaim := { program := "ytnmnddpdikghhaagreat", sum := "6e0abf3510d4ad5f634365063d7ec968f4d2e50d9e1c7b8a25b2673183cd089e", func := "loop.example/prologserver/laws.FnResolvent", spec := "fnResolvent", unfollowed := true, recurses := true, apart := false, narrowed := true }
def FnResolventUptoSaid : Prop := fnResolventUptoRow.holds Tryz.pinned (OpenSpec.upto fnResolventSpec)

end Rows
end Go.Proofs.YtnmnddpdikghhaaGreat
