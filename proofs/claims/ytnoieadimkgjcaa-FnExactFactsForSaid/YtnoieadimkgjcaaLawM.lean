/- Steps that the laws' walks share: copies lent and marked, results compared, marked and read again. -/
import Derived.Test.YtnoieadimkgjcaaPredM
namespace Go.Proofs.Ytnoieadimkgjcaa
open Go Go.RowKit
section
variable {w w0 : World} {X : List Nat} {L A : List Item} {S : Store} {K : Value → World → Prop}
attribute [local irreducible] Run CondV GuardV LoadV
/- copies that will be marked: their blocks are known -/
theorem Run.toClauseM {p : List C} {v : Value} (hI : Inv w0 X L S w) (h : RdSl S 5 (RdC S) v p) (hw : p.length + wP p ≤ 1048576)
    (hk : ∀ v' M S' w', Sle S S' → RdSl S' 5 (RdC S') v' p → TrSl 5 TrC M v' p → Inv w0 X L S' w' → (∀ B w'', Inv w0 X B S' w'' → Inv w0 X (B ++ blks M) S w'') → K v' w') :
    Run Try.prog (sCall (.func (.func n_l_toClauseS) #[] #[]) [v]) w K := by
  refine Run.call0 fn_l_toClauseS nm_l_toClauseS hI (toClauseS_calls h hw) fun v' I' S' w' => ?_
  rintro ⟨rfl, M, rfl, hT⟩ _ hI
  obtain ⟨S2, hle, hins, hI, hb⟩ := Inv.lendAll M hI
  exact hk _ M _ _ hle (hT.rd hins fun _ _ _ hi h => h.rd hi) hT hI hb
theorem Run.toTermM {p : List T} {v : Value} (hI : Inv w0 X L S w) (h : RdSl S 4 (RdT S) v p) (hw : p.length + wL p ≤ 1048576)
    (hk : ∀ v' M S' w', Sle S S' → RdSl S' 4 (RdT S') v' p → TrSl 4 TrT M v' p → Inv w0 X L S' w' → (∀ B w'', Inv w0 X B S' w'' → Inv w0 X (B ++ blks M) S w'') → K v' w') :
    Run Try.prog (sCall (.func (.func n_l_toTermS) #[] #[]) [v]) w K := by
  refine Run.call0 fn_l_toTermS nm_l_toTermS hI (toTermS_calls h hw) fun v' I' S' w' => ?_
  rintro ⟨rfl, M, rfl, hT⟩ _ hI
  obtain ⟨S2, hle, hins, hI, hb⟩ := Inv.lendAll M hI
  exact hk _ M _ _ hle (hT.rd hins fun _ _ _ hi h => h.rd hi) hT hI hb
/- they are marked, and nobody looks at them again -/
theorem Run.markP {p : List C} {v : Value} {M : Heaplet} {k : Int} (hI : Inv w0 X (A ++ blks M) S w) (hT : TrSl 5 TrC M v p) (hk0 : 0 ≤ k) (hk1 : k + 3 * cntP p ≤ 4611686018427387904)
    (hk : ∀ w', Inv w0 X A S w' → K (.int .i64 (k + 3 * cntP p)) w') : Run Try.prog (sCall (.func (.func n_l_markClauseS) #[] #[]) [v, .int .i64 k]) w K := by
  refine Run.call fn_l_markClauseS nm_l_markClauseS hI (markClauseS_ok hT hk0 hk1) fun v' I' S' w' => ?_
  rintro ⟨rfl, rfl, _⟩ _ hI
  rw [mkP_end]
  exact hk _ (hI.sub (List.sublist_append_left _ _))
theorem Run.markL {p : List T} {v : Value} {M : Heaplet} {k : Int} (hI : Inv w0 X (A ++ blks M) S w) (hT : TrSl 4 TrT M v p) (hk0 : 0 ≤ k) (hk1 : k + 3 * cntL p ≤ 4611686018427387904)
    (hk : ∀ w', Inv w0 X A S w' → K (.int .i64 (k + 3 * cntL p)) w') : Run Try.prog (sCall (.func (.func n_l_markTermS) #[] #[]) [v, .int .i64 k]) w K := by
  refine Run.call fn_l_markTermS nm_l_markTermS hI (markTermS_ok p S M v k hT hk0 hk1) fun v' I' S' w' => ?_
  rintro ⟨rfl, rfl, _⟩ _ hI
  rw [mkL_end]
  exact hk _ (hI.sub (List.sublist_append_left _ _))
/- rows of predicates -/
theorem Run.pubRow {f : FuncId} {fn : Func} {args : List Value} {l : List Pd} (hf : Try.prog.funcs[f]? = some fn) (hn : (fn.name == "runtime.NumGoroutine" || fn.body.isNone) = false) (hI : Inv w0 X L S w)
    (hc : Tri Try.prog f args [] S (PostP S l)) (hk : ∀ v' S' w', Sle S S' → RdSl S' 2 RdPd v' l → Inv w0 X L S' w' → K v' w') : Run Try.prog (sCall (.func (.func f) #[] #[]) args) w K := by
  refine Run.call0 hf hn hI hc fun v' I' S' w' => ?_
  rintro ⟨rfl, rfl⟩ _ hI
  obtain ⟨S1, hle, hrd, hI, _⟩ := hI.lend
  exact hk _ _ _ hle hrd.preds hI
theorem Run.eqRow {l : List Pd} {u v : Value} (hI : Inv w0 X (A ++ [rowP u l]) S w) (h : RdSl S 2 RdPd v l) (hk : ∀ w', Inv w0 X (A ++ [rowP u l]) S w' → K (.bool true) w') :
    Run Try.prog (sCall (.func (.func n_l_eqPredS) #[] #[]) [u, v]) w K := by
  obtain ⟨S1, hle, hrd, hI, hb⟩ := hI.lend
  exact Run.callPure fn_l_eqPredS nm_l_eqPredS hI (eqPredS_calls hrd.preds (h.mono hle fun _ _ h => h)) fun w' hI => hk _ (hb _ _ hI)
theorem Run.heldRow {l : List Pd} {u : Value} {k : Int} (hI : Inv w0 X (A ++ [rowP u (mkPd l k)]) S w) (hk0 : 0 ≤ k) (hk1 : k + 2 * l.length ≤ 4611686018427387904)
    (hk : ∀ w', Inv w0 X (A ++ [rowP u (mkPd l k)]) S w' → K (.int .i64 (k + 2 * l.length)) w') : Run Try.prog (sCall (.func (.func n_l_heldPredS) #[] #[]) [u, .int .i64 k]) w K := by
  obtain ⟨S1, hle, hrd, hI, hb⟩ := hI.lend
  exact Run.callPure fn_l_heldPredS nm_l_heldPredS hI (heldPredS_calls hrd.preds hk0 hk1) fun w' hI => hk _ (hb _ _ hI)
theorem Run.markRow {l : List Pd} {u : Value} {k : Int} (hI : Inv w0 X (A ++ [rowP u l]) S w) (hk0 : 0 ≤ k) (hk1 : k + 2 * l.length ≤ 4611686018427387904)
    (hk : ∀ w', Inv w0 X (A ++ [rowP u (mkPd l k)]) S w' → K (.int .i64 (k + 2 * l.length)) w') : Run Try.prog (sCall (.func (.func n_l_markPredS) #[] #[]) [u, .int .i64 k]) w K := by
  refine Run.call fn_l_markPredS nm_l_markPredS hI (markPredS_calls hk0 hk1) fun v' I' S' w' => ?_
  rintro ⟨rfl, rfl, rfl⟩ _ hI
  exact hk _ hI
end

end Go.Proofs.Ytnoieadimkgjcaa
