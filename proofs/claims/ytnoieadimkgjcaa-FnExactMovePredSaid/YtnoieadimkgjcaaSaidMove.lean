/- FnExactMovePred returns true whatever program and predicate come in, and leaves them as they were. No condition. -/
import Derived.Test.YtnoieadimkgjcaaLawMove
import Derived.Test.YtnoieadimkgjcaaClose
namespace Go.Proofs.Ytnoieadimkgjcaa
open Go Go.ChangeShapes Go.WideShapes Go.ChangeAt Go.RowKit

theorem lPred_flds : Try.prog.underlying t_lPred = some (.struct (Try.prog.fieldsOf t_lPred)) := by kernel_rfl
set_option maxRecDepth 100000 in
theorem move_lifted (os : Os) (started : os.Started) (H : Type) (enc : TypeId × Value → H) :
    ReturnsInHanded {} Try.checked os n_l_FnExactMovePred .any (Rows.fnExactMovePredSpec.pre6 enc Try.prog Try.f11 Rows.fnExactMovePredRow.domain false)
      (Rows.fnExactMovePredSpec.post enc Try.prog Try.f11 false true false false) := by
  refine returnsInHanded_of_change (C := Try.checked) Try.own started (by kernel_rfl) Try.func11
    (ChangeSpec.witness6 (enc := enc) (C := Try.checked) false ⟨#[], #[.slice none 0 0, .agg #[.string ⟨#[]⟩, .int .i64 0]], []⟩ 8 (by kernel_rfl) (by kernel_rfl) (by kernel_rfl) (by kernel_rfl)) ?_
  intro W base args ds gs before hval0 hW _ _
  have hval : ∀ (j : Nat) t v, Try.f11.params[j]? = some t → args[j]? = some v → Value.okWide Try.prog W .any base t v := hval0
  have hW' := hW
  obtain ⟨p, q, hA0, hV, hb, _, _⟩ := hW
  have hA : DataW.TrodAll enc Try.prog W 0 (fun _ => true) true Try.f11.params.toList args.toList ds p := hA0
  have hA1 := hA
  rw [Try.params11] at hA1 hval
  obtain ⟨v0, v1, d0, d1, p0, p1, rfl, rfl, _, h0, h1⟩ := trodAll_two hA1
  obtain ⟨n, hn⟩ := h0
  obtain ⟨cs, rfl, _⟩ := okWide_struct lPred_flds (hval 1 _ _ rfl rfl)
  obtain ⟨m, hm⟩ := h1
  obtain ⟨x, hx, hs⟩ := trod_pred (cs := cs.toList) hm
  obtain rfl : cs = x.cells.toArray := by rw [← hx]
  obtain rfl := (trodVars_none (show DataW.TrodVars enc Try.prog W (fun _ => true) [] gs q from hV)).1
  obtain ⟨a, len, cap, rfl⟩ := okWide_slice (slice_parts sl_SlClause).1 (hval 0 _ _ rfl rfl)
  obtain ⟨xs, hxs⟩ := trod_clauses hn
  refine (lawMove_calls x hs hxs W (Inv.entry W)).mono fun e W' ⟨he, hI⟩ => ?_
  subst he
  exact ⟨_, rfl, post_true hW' hA hV hb rfl (by rw [Try.params11]; decide +kernel) (by kernel_rfl) rfl rfl rfl hI⟩

theorem move_holds : Rows.FnExactMovePredSaid :=
  OpenClaim.holds_of_wide n_l_FnExactMovePred Try.f11 rfl rfl rfl rfl rfl rfl rfl ⟨rfl, rfl, rfl, rfl, rfl⟩ rfl rfl rfl rfl rfl (by kernel_rfl) Try.func11 (by kernel_rfl)
    (of_decide_eq_true (by kernel_rfl)) (by unfold Func.isWrapper; first | (rw [if_pos (by decide +kernel)]; kernel_rfl) | (rw [if_neg (by decide +kernel)]; exact ⟨rfl, rfl⟩))
    (fun os started H enc _ => move_lifted os started H enc)

#print axioms move_holds
end Go.Proofs.Ytnoieadimkgjcaa
