/- Steps that the laws' walks share: results that are trees. -/
import Derived.Test.YtnoieadimkgjcaaLawM
import Derived.Test.YtnoieadimkgjcaaRowC
namespace Go.Proofs.Ytnoieadimkgjcaa
open Go Go.RowKit
section
variable {w w0 : World} {X : List Nat} {L A : List Item} {S : Store} {K : Value → World → Prop}
attribute [local irreducible] Run CondV GuardV LoadV
theorem Run.pubTree {f : FuncId} {fn : Func} {args : List Value} {ys : List C} {b : Bool} (hf : Try.prog.funcs[f]? = some fn) (hn : (fn.name == "runtime.NumGoroutine" || fn.body.isNone) = false) (hI : Inv w0 X L S w)
    (hc : Tri Try.prog f args [] S (PostCB S ys b)) (hk : ∀ u S' w', Sle S S' → RdSl S' 5 (RdC S') u ys → Inv w0 X L S' w' → K (.tuple #[u, .bool b]) w') : Run Try.prog (sCall (.func (.func f) #[] #[]) args) w K := by
  refine Run.call0 hf hn hI hc fun v' I' S' w' => ?_
  rintro ⟨rfl, u, M, rfl, rfl, hT⟩ _ hI
  obtain ⟨S1, hle, hins, hI, _⟩ := Inv.lendAll M hI
  exact hk _ _ _ hle (hT.rd hins fun _ _ _ hi h => h.rd hi) hI
theorem Run.eqTreeC {ys : List C} {u v : Value} {M : Heaplet} (hI : Inv w0 X (A ++ blks M) S w) (hT : TrSl 5 TrC M u ys) (h : RdSl S 5 (RdC S) v ys) (hk : ∀ w', Inv w0 X (A ++ blks M) S w' → K (.bool true) w') :
    Run Try.prog (sCall (.func (.func n_l_eqClauseS) #[] #[]) [u, v]) w K := by
  obtain ⟨S1, hle, hins, hI, hb⟩ := Inv.lendAll M hI
  refine Run.callPure fn_l_eqClauseS nm_l_eqClauseS hI (eqClauseS_calls (hT.rd hins fun _ _ _ hi h => h.rd hi) (h.monoC hle)) fun w' hI => ?_
  rw [(eqP_iff ys ys).2 rfl]
  exact hk _ (hb _ _ hI)
theorem Run.markTreeC {ys : List C} {u : Value} {M : Heaplet} {k : Int} (hI : Inv w0 X (A ++ blks M) S w) (hT : TrSl 5 TrC M u ys) (hk0 : 0 ≤ k) (hk1 : k + 3 * cntP ys ≤ 4611686018427387904)
    (hk : ∀ M' w', TrSl 5 TrC M' u (mkP ys k).1 → Inv w0 X (A ++ blks M') S w' → K (.int .i64 (k + 3 * cntP ys)) w') : Run Try.prog (sCall (.func (.func n_l_markClauseS) #[] #[]) [u, .int .i64 k]) w K := by
  refine Run.call fn_l_markClauseS nm_l_markClauseS hI (markClauseS_ok hT hk0 hk1) fun v' I' S' w' => ?_
  rintro ⟨rfl, rfl, M', rfl, hT'⟩ _ hI
  rw [mkP_end]
  exact hk _ _ hT' hI
theorem Run.heldTreeC {ys : List C} {u : Value} {M : Heaplet} {k : Int} (hI : Inv w0 X (A ++ blks M) S w) (hT : TrSl 5 TrC M u (mkP ys k).1) (hk0 : 0 ≤ k) (hk1 : k + 3 * cntP ys ≤ 4611686018427387904)
    (hk : ∀ w', Inv w0 X (A ++ blks M) S w' → K (.int .i64 (k + 3 * cntP ys)) w') : Run Try.prog (sCall (.func (.func n_l_heldClauseS) #[] #[]) [u, .int .i64 k]) w K := by
  obtain ⟨S1, hle, hins, hI, hb⟩ := Inv.lendAll M hI
  refine Run.callPure fn_l_heldClauseS nm_l_heldClauseS hI (heldClauseS_ok (hT.rd hins fun _ _ _ hi h => h.rd hi) hk0 hk1) fun w' hI => ?_
  rw [mkP_end]
  exact hk _ (hb _ _ hI)
theorem Run.eqTreeT {ys : List T} {u v : Value} {M : Heaplet} (hI : Inv w0 X (A ++ blks M) S w) (hT : TrSl 4 TrT M u ys) (h : RdSl S 4 (RdT S) v ys) (hk : ∀ w', Inv w0 X (A ++ blks M) S w' → K (.bool true) w') :
    Run Try.prog (sCall (.func (.func n_l_eqTermS) #[] #[]) [u, v]) w K := by
  obtain ⟨S1, hle, hins, hI, hb⟩ := Inv.lendAll M hI
  refine Run.callPure fn_l_eqTermS nm_l_eqTermS hI (eqTermS_calls (hT.rd hins fun _ _ _ hi h => h.rd hi) (h.monoT hle)) fun w' hI => ?_
  rw [(eqL_iff ys ys).2 rfl]
  exact hk _ (hb _ _ hI)
theorem Run.markTreeT {ys : List T} {u : Value} {M : Heaplet} {k : Int} (hI : Inv w0 X (A ++ blks M) S w) (hT : TrSl 4 TrT M u ys) (hk0 : 0 ≤ k) (hk1 : k + 3 * cntL ys ≤ 4611686018427387904)
    (hk : ∀ M' w', TrSl 4 TrT M' u (mkL ys k).1 → Inv w0 X (A ++ blks M') S w' → K (.int .i64 (k + 3 * cntL ys)) w') : Run Try.prog (sCall (.func (.func n_l_markTermS) #[] #[]) [u, .int .i64 k]) w K := by
  refine Run.call fn_l_markTermS nm_l_markTermS hI (markTermS_ok ys S M u k hT hk0 hk1) fun v' I' S' w' => ?_
  rintro ⟨rfl, rfl, M', rfl, hT'⟩ _ hI
  rw [mkL_end]
  exact hk _ _ hT' hI
theorem Run.heldTreeT {ys : List T} {u : Value} {M : Heaplet} {k : Int} (hI : Inv w0 X (A ++ blks M) S w) (hT : TrSl 4 TrT M u (mkL ys k).1) (hk0 : 0 ≤ k) (hk1 : k + 3 * cntL ys ≤ 4611686018427387904)
    (hk : ∀ w', Inv w0 X (A ++ blks M) S w' → K (.int .i64 (k + 3 * cntL ys)) w') : Run Try.prog (sCall (.func (.func n_l_heldTermS) #[] #[]) [u, .int .i64 k]) w K := by
  obtain ⟨S1, hle, hins, hI, hb⟩ := Inv.lendAll M hI
  refine Run.callPure fn_l_heldTermS nm_l_heldTermS hI (heldTermS_ok ys _ u k (hT.rd hins fun _ _ _ hi h => h.rd hi) hk0 hk1) fun w' hI => ?_
  rw [mkL_end]
  exact hk _ (hb _ _ hI)
end

end Go.Proofs.Ytnoieadimkgjcaa
