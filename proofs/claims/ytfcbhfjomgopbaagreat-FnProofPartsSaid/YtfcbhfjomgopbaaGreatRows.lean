/-
  NARROWER THAN 'FOR EVERY INPUT', by the rows' own cells (each row's printed sentence says how): FnExactCheckProof: loops.
  DERIVED. THE GIVEN ROWS OF THIS SEAT. 6 by the template 'for every input the law returns true; each argument reads behind the call as it read before'; 0 by the template 'total and deterministic' (their statements: YtfcbhfjomgopbaaGreatTotals.lean).
  GIVEN WITH THE SEED: the statements are not yours to turn. If you find one false, say at which input.
  Laid BY PROGRAM, IN A SANDBOX (cutbox-rows.mjs): the forced cells as the released guide's own fill.sh prints them over the translation c19eabbf420aa371… (all of the seat's roots in one cut). By AI agents, Wed Nov 11 2026. No macro, syntax, notation, axiom, sorry.
-/
import Derived.Test.YtfcbhfjomgopbaaGreatChecked
import GoSem.Claim
import GoSem.ClaimJoined
import GoSem.ClaimMapViews
import Derived.JoinedTies
import Derived.KernelRfl
namespace Go.Proofs.YtfcbhfjomgopbaaGreat
/- THE CELL 'sum', in the pinned program and in every row, IS THE sha256 OF THE DUMP (.gsa) THAT YtfcbhfjomgopbaaGreatProg.lean LOADS. Nothing in Lean hashes anything: it is a label: what it is worth is what the hold of that sum in a sandbox is worth. -/
noncomputable def Tryz.pinned : Pinned := { name := "ytfcbhfjomgopbaagreat", sum := "c19eabbf420aa3711f1eae6e414d1776deb3f541b72ff810038cca1fe42c7452", checked := Tryz.checked }
namespace Rows
def none {H : Type} : Left H := { results := [], args := [] }

/-- 'laws.FnExactCheckProof': WHATEVER THE INPUT: true; the input reads as it did. -/
def fnExactCheckProofSpec : ChangeSpec := { name := "fnExactCheckProof", fn := fun _ => fun
  | [d1, d2] => { results := [.lit (.bool true)], args := [d1, d2] }
  | _ => none }
def fnExactCheckProofRow : OpenClaim := { program := "ytfcbhfjomgopbaagreat", sum := "c19eabbf420aa3711f1eae6e414d1776deb3f541b72ff810038cca1fe42c7452", func := "loop.example/prologserver/laws.FnExactCheckProof", spec := "fnExactCheckProof", unfollowed := true, recurses := true, loops := true, apart := false }
def FnExactCheckProofSaid : Prop := fnExactCheckProofRow.holds Tryz.pinned (OpenSpec.ofChange fnExactCheckProofSpec)

/-- ITS FALSE NEIGHBOUR: 'it returns false'. Refute it at one input. -/
def fnExactCheckProofWrong : ChangeSpec := { name := "fnExactCheckProof", fn := fun _ => fun
  | [d1, d2] => { results := [.lit (.bool false)], args := [d1, d2] }
  | _ => none }
def FnExactCheckProofWrongFalsely : Prop := fnExactCheckProofRow.holds Tryz.pinned (OpenSpec.ofChange fnExactCheckProofWrong)

/-- 'laws.FnProofSize': WHATEVER THE INPUT: true; the input reads as it did. -/
def fnProofSizeSpec : ChangeSpec := { name := "fnProofSize", fn := fun _ => fun
  | [d] => { results := [.lit (.bool true)], args := [d] }
  | _ => none }
def fnProofSizeRow : OpenClaim := { program := "ytfcbhfjomgopbaagreat", sum := "c19eabbf420aa3711f1eae6e414d1776deb3f541b72ff810038cca1fe42c7452", func := "loop.example/prologserver/laws.FnProofSize", spec := "fnProofSize", unfollowed := true, recurses := true, apart := false }
def FnProofSizeSaid : Prop := fnProofSizeRow.holds Tryz.pinned (OpenSpec.ofChange fnProofSizeSpec)

/-- ITS FALSE NEIGHBOUR: 'it returns false'. Refute it at one input. -/
def fnProofSizeWrong : ChangeSpec := { name := "fnProofSize", fn := fun _ => fun
  | [d] => { results := [.lit (.bool false)], args := [d] }
  | _ => none }
def FnProofSizeWrongFalsely : Prop := fnProofSizeRow.holds Tryz.pinned (OpenSpec.ofChange fnProofSizeWrong)

/-- 'laws.FnUsedClauses': WHATEVER THE INPUT: true; the input reads as it did. -/
def fnUsedClausesSpec : ChangeSpec := { name := "fnUsedClauses", fn := fun _ => fun
  | [d] => { results := [.lit (.bool true)], args := [d] }
  | _ => none }
def fnUsedClausesRow : OpenClaim := { program := "ytfcbhfjomgopbaagreat", sum := "c19eabbf420aa3711f1eae6e414d1776deb3f541b72ff810038cca1fe42c7452", func := "loop.example/prologserver/laws.FnUsedClauses", spec := "fnUsedClauses", unfollowed := true, recurses := true, apart := false }
def FnUsedClausesSaid : Prop := fnUsedClausesRow.holds Tryz.pinned (OpenSpec.ofChange fnUsedClausesSpec)

/-- ITS FALSE NEIGHBOUR: 'it returns false'. Refute it at one input. -/
def fnUsedClausesWrong : ChangeSpec := { name := "fnUsedClauses", fn := fun _ => fun
  | [d] => { results := [.lit (.bool false)], args := [d] }
  | _ => none }
def FnUsedClausesWrongFalsely : Prop := fnUsedClausesRow.holds Tryz.pinned (OpenSpec.ofChange fnUsedClausesWrong)

/-- 'laws.FnProofFact': WHATEVER THE INPUT: true; the input reads as it did. -/
def fnProofFactSpec : ChangeSpec := { name := "fnProofFact", fn := fun _ => fun
  | [d1, d2] => { results := [.lit (.bool true)], args := [d1, d2] }
  | _ => none }
def fnProofFactRow : OpenClaim := { program := "ytfcbhfjomgopbaagreat", sum := "c19eabbf420aa3711f1eae6e414d1776deb3f541b72ff810038cca1fe42c7452", func := "loop.example/prologserver/laws.FnProofFact", spec := "fnProofFact", unfollowed := true, recurses := true, apart := false }
def FnProofFactSaid : Prop := fnProofFactRow.holds Tryz.pinned (OpenSpec.ofChange fnProofFactSpec)

/-- ITS FALSE NEIGHBOUR: 'it returns false'. Refute it at one input. -/
def fnProofFactWrong : ChangeSpec := { name := "fnProofFact", fn := fun _ => fun
  | [d1, d2] => { results := [.lit (.bool false)], args := [d1, d2] }
  | _ => none }
def FnProofFactWrongFalsely : Prop := fnProofFactRow.holds Tryz.pinned (OpenSpec.ofChange fnProofFactWrong)

/-- 'laws.FnProofMore': WHATEVER THE INPUT: true; the input reads as it did. -/
def fnProofMoreSpec : ChangeSpec := { name := "fnProofMore", fn := fun _ => fun
  | [d] => { results := [.lit (.bool true)], args := [d] }
  | _ => none }
def fnProofMoreRow : OpenClaim := { program := "ytfcbhfjomgopbaagreat", sum := "c19eabbf420aa3711f1eae6e414d1776deb3f541b72ff810038cca1fe42c7452", func := "loop.example/prologserver/laws.FnProofMore", spec := "fnProofMore", unfollowed := true, recurses := true, apart := false }
def FnProofMoreSaid : Prop := fnProofMoreRow.holds Tryz.pinned (OpenSpec.ofChange fnProofMoreSpec)

/-- ITS FALSE NEIGHBOUR: 'it returns false'. Refute it at one input. -/
def fnProofMoreWrong : ChangeSpec := { name := "fnProofMore", fn := fun _ => fun
  | [d] => { results := [.lit (.bool false)], args := [d] }
  | _ => none }
def FnProofMoreWrongFalsely : Prop := fnProofMoreRow.holds Tryz.pinned (OpenSpec.ofChange fnProofMoreWrong)

/-- 'laws.FnProofParts': WHATEVER THE INPUT: true; the input reads as it did. -/
def fnProofPartsSpec : ChangeSpec := { name := "fnProofParts", fn := fun _ => fun
  | [d] => { results := [.lit (.bool true)], args := [d] }
  | _ => none }
def fnProofPartsRow : OpenClaim := { program := "ytfcbhfjomgopbaagreat", sum := "c19eabbf420aa3711f1eae6e414d1776deb3f541b72ff810038cca1fe42c7452", func := "loop.example/prologserver/laws.FnProofParts", spec := "fnProofParts", unfollowed := true, recurses := true, apart := false }
def FnProofPartsSaid : Prop := fnProofPartsRow.holds Tryz.pinned (OpenSpec.ofChange fnProofPartsSpec)

/-- ITS FALSE NEIGHBOUR: 'it returns false'. Refute it at one input. -/
def fnProofPartsWrong : ChangeSpec := { name := "fnProofParts", fn := fun _ => fun
  | [d] => { results := [.lit (.bool false)], args := [d] }
  | _ => none }
def FnProofPartsWrongFalsely : Prop := fnProofPartsRow.holds Tryz.pinned (OpenSpec.ofChange fnProofPartsWrong)

/- THE SECOND FORM. 'bulk': how many values and letters a reading holds, each counted each time it is reached (what is shared counts as often as it is met; a slice's spare places count too). A statement '..UptoSaid' is the law's where the arguments, and the package variables that the reading takes, are together of bulk at most 1048576: NARROWER than '..Said'. Prove '..Said' where nothing that the law and all that it calls make is longer than what came in: it says more and counts as full. Else prove '..UptoSaid'. A law counts once. -/
mutual
def uptoBulk {H : Type} : DataW H → Nat
  | .lit (.string bytes) => bytes.length + 1
  | .lit _ => 1
  | .nil => 1
  | .ptr d => uptoBulk d + 1
  | .slice elems spare => uptoBulkAll elems + uptoBulkAll spare + 1
  | .agg parts => uptoBulkAll parts + 1
  | .iface _ d => uptoBulk d + 1
  | .map entries => uptoBulkEntries entries + 1
  | .held _ => 1
def uptoBulkAll {H : Type} : List (DataW H) → Nat
  | [] => 0
  | d :: r => uptoBulk d + uptoBulkAll r
def uptoBulkEntries {H : Type} : List (Lit × DataW H) → Nat
  | [] => 0
  | x :: r => uptoBulkEntry x + uptoBulkEntries r
def uptoBulkEntry {H : Type} : Lit × DataW H → Nat
  | (.string bytes, d) => bytes.length + uptoBulk d + 1
  | (_, d) => uptoBulk d + 1
 end
def uptoSmall : (H : Type) → List (DataW H) → Bool := fun _ ds => decide (uptoBulkAll ds ≤ 1048576)
def OpenSpec.upto (s : _root_.Go.ChangeSpec) : _root_.Go.OpenSpec := { _root_.Go.OpenSpec.ofChange s with cond := some uptoSmall }

/-- 'laws.FnExactCheckProof', WHERE WHAT IT READS IS OF BULK AT MOST 1048576: true; the input reads as it did. -/
def fnExactCheckProofUptoRow : OpenClaim := { program := "ytfcbhfjomgopbaagreat", sum := "c19eabbf420aa3711f1eae6e414d1776deb3f541b72ff810038cca1fe42c7452", func := "loop.example/prologserver/laws.FnExactCheckProof", spec := "fnExactCheckProof", unfollowed := true, recurses := true, loops := true, apart := false, narrowed := true }
def FnExactCheckProofUptoSaid : Prop := fnExactCheckProofUptoRow.holds Tryz.pinned (OpenSpec.upto fnExactCheckProofSpec)

/-- 'laws.FnProofSize', WHERE WHAT IT READS IS OF BULK AT MOST 1048576: true; the input reads as it did. -/
def fnProofSizeUptoRow : OpenClaim := { program := "ytfcbhfjomgopbaagreat", sum := "c19eabbf420aa3711f1eae6e414d1776deb3f541b72ff810038cca1fe42c7452", func := "loop.example/prologserver/laws.FnProofSize", spec := "fnProofSize", unfollowed := true, recurses := true, apart := false, narrowed := true }
def FnProofSizeUptoSaid : Prop := fnProofSizeUptoRow.holds Tryz.pinned (OpenSpec.upto fnProofSizeSpec)

/-- 'laws.FnUsedClauses', WHERE WHAT IT READS IS OF BULK AT MOST 1048576: true; the input reads as it did. -/
def fnUsedClausesUptoRow : OpenClaim := { program := "ytfcbhfjomgopbaagreat", sum := "c19eabbf420aa3711f1eae6e414d1776deb3f541b72ff810038cca1fe42c7452", func := "loop.example/prologserver/laws.FnUsedClauses", spec := "fnUsedClauses", unfollowed := true, recurses := true, apart := false, narrowed := true }
def FnUsedClausesUptoSaid : Prop := fnUsedClausesUptoRow.holds Tryz.pinned (OpenSpec.upto fnUsedClausesSpec)

/-- 'laws.FnProofFact', WHERE WHAT IT READS IS OF BULK AT MOST 1048576: true; the input reads as it did. -/
def fnProofFactUptoRow : OpenClaim := { program := "ytfcbhfjomgopbaagreat", sum := "c19eabbf420aa3711f1eae6e414d1776deb3f541b72ff810038cca1fe42c7452", func := "loop.example/prologserver/laws.FnProofFact", spec := "fnProofFact", unfollowed := true, recurses := true, apart := false, narrowed := true }
def FnProofFactUptoSaid : Prop := fnProofFactUptoRow.holds Tryz.pinned (OpenSpec.upto fnProofFactSpec)

/-- 'laws.FnProofMore', WHERE WHAT IT READS IS OF BULK AT MOST 1048576: true; the input reads as it did. -/
def fnProofMoreUptoRow : OpenClaim := { program := "ytfcbhfjomgopbaagreat", sum := "c19eabbf420aa3711f1eae6e414d1776deb3f541b72ff810038cca1fe42c7452", func := "loop.example/prologserver/laws.FnProofMore", spec := "fnProofMore", unfollowed := true, recurses := true, apart := false, narrowed := true }
def FnProofMoreUptoSaid : Prop := fnProofMoreUptoRow.holds Tryz.pinned (OpenSpec.upto fnProofMoreSpec)

/-- 'laws.FnProofParts', WHERE WHAT IT READS IS OF BULK AT MOST 1048576: true; the input reads as it did. -/
def fnProofPartsUptoRow : OpenClaim := { program := "ytfcbhfjomgopbaagreat", sum := "c19eabbf420aa3711f1eae6e414d1776deb3f541b72ff810038cca1fe42c7452", func := "loop.example/prologserver/laws.FnProofParts", spec := "fnProofParts", unfollowed := true, recurses := true, apart := false, narrowed := true }
def FnProofPartsUptoSaid : Prop := fnProofPartsUptoRow.holds Tryz.pinned (OpenSpec.upto fnProofPartsSpec)

end Rows
end Go.Proofs.YtfcbhfjomgopbaaGreat
