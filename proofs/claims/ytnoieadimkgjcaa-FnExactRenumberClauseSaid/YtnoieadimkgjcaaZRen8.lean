/- FnExactRenumberClause returns true whatever clause comes in, and leaves them as they were. No condition. -/
import Derived.Test.YtnoieadimkgjcaaZRen7
namespace Go.Proofs.Ytnoieadimkgjcaa
open Go Go.ChangeShapes Go.WideShapes Go.ChangeAt Go.RowKit

theorem fields_lClause : Try.prog.underlying t_lClause = some (.struct (Try.prog.fieldsOf t_lClause)) := by kernel_rfl
set_option maxRecDepth 100000 in
theorem renum_lifted (os : Os) (started : os.Started) (H : Type) (enc : TypeId × Value → H) :
    ReturnsInHanded {} Try.checked os n_l_FnExactRenumberClause .any (Rows.fnExactRenumberClauseSpec.pre6 enc Try.prog Try.f9 Rows.fnExactRenumberClauseRow.domain false)
      (Rows.fnExactRenumberClauseSpec.post enc Try.prog Try.f9 false true false false) := by
  refine returnsInHanded_of_change (C := Try.checked) Try.own started (by kernel_rfl) Try.func9
    (ChangeSpec.witness6 (enc := enc) (C := Try.checked) false ⟨#[], #[.agg #[.int .i64 0, .int .i64 0, .string ⟨#[]⟩, .slice none 0 0, .slice none 0 0]], []⟩ 8 (by kernel_rfl) (by kernel_rfl) (by kernel_rfl) (by kernel_rfl)) ?_
  intro W base args ds gs before hval0 hW _ _
  have hval : ∀ (j : Nat) t v, Try.f9.params[j]? = some t → args[j]? = some v → Value.okWide Try.prog W .any base t v := hval0
  have hW' := hW
  obtain ⟨p, q, hA0, hV, hb, _, _⟩ := hW
  have hA : DataW.TrodAll enc Try.prog W 0 (fun _ => true) true Try.f9.params.toList args.toList ds p := hA0
  have hA1 := hA
  rw [Try.params9] at hA1 hval
  obtain ⟨v0, d0, rfl, rfl, h0⟩ := trodAll_one hA1
  obtain ⟨n, hn⟩ := h0
  obtain ⟨cs, rfl, _⟩ := okWide_struct fields_lClause (hval 0 _ _ rfl rfl)
  obtain ⟨c, hc⟩ := trod_clause (cs := cs.toList) hn
  obtain rfl := (trodVars_none (show DataW.TrodVars enc Try.prog W (fun _ => true) [] gs q from hV)).1
  have hcall := lawRen_calls hc
  refine (hcall W (Inv.entry W)).mono fun e W' ⟨he, hI⟩ => ?_
  subst he
  exact ⟨_, rfl, post_true hW' hA hV hb rfl (by rw [Try.params9]; decide +kernel) (by kernel_rfl) rfl rfl rfl hI⟩

theorem renum_band {a b : Bool} (ha : a = true) (hb : b = true) : (a && b) = true := by rw [ha, hb]; rfl
theorem renum_j0 : Rows.fnExactRenumberClauseRow.wf (OpenSpec.ofChange Rows.fnExactRenumberClauseSpec) = true := by kernel_rfl
theorem renum_j1 : laidOutB Try.checked.prog = true := by kernel_rfl
theorem renum_j2 : mapsRowed Try.checked.prog = true := by kernel_rfl
theorem renum_j3 : Try.f9.params.all (Try.checked.prog.readableRec ·) = true := by kernel_rfl
theorem renum_j4 : namedTie Try.checked.prog Rows.fnExactRenumberClauseRow.named Rows.fnExactRenumberClauseSpec.vars = true := by kernel_rfl
theorem renum_j5 : (Rows.fnExactRenumberClauseRow.stops == []) = true := by kernel_rfl
theorem renum_j6 : (Try.checked.prog.stops == []) = true := by kernel_rfl
theorem renum_j7 : (Rows.fnExactRenumberClauseRow.knobs == []) = true := by kernel_rfl
theorem renum_j8 : (Try.checked.prog.stopKnobs == []) = true := by kernel_rfl
theorem renum_j9 : (Rows.fnExactRenumberClauseRow.inPlace == Try.checked.prog.inPlace n_l_FnExactRenumberClause) = true := by kernel_rfl
theorem renum_j10 : (Rows.fnExactRenumberClauseRow.unfollowed == Try.checked.prog.unfollowed n_l_FnExactRenumberClause) = true := by kernel_rfl
theorem renum_j11 : (Rows.fnExactRenumberClauseRow.recurses == Try.checked.prog.recurses n_l_FnExactRenumberClause) = true := by kernel_rfl
theorem renum_j12 : (Rows.fnExactRenumberClauseRow.named == Try.checked.prog.varsNamed n_l_FnExactRenumberClause) = true := by kernel_rfl
theorem renum_j13 : (Rows.fnExactRenumberClauseRow.maps == (Try.f9.params.toList ++ Rows.fnExactRenumberClauseSpec.plain.varTypes Try.checked.prog).any (Try.checked.prog.mapsRec ·)) = true := by kernel_rfl
theorem renum_j14 : (Rows.fnExactRenumberClauseRow.ifaces == (Try.f9.params.toList ++ Rows.fnExactRenumberClauseSpec.plain.varTypes Try.checked.prog).any (Try.checked.prog.ifacesRec ·)) = true := by kernel_rfl
theorem renum_j15 : (Rows.fnExactRenumberClauseRow.mapsOut == Try.checked.prog.mapsAmong Try.f9.resultTypes.toList) = true := by kernel_rfl
theorem renum_j16 : (Rows.fnExactRenumberClauseRow.loops == (Try.f9.params.toList ++ Rows.fnExactRenumberClauseSpec.plain.varTypes Try.checked.prog).any (Try.checked.prog.loopsFrom ·)) = true := by kernel_rfl
theorem renum_j17 : (Rows.fnExactRenumberClauseRow.wideKeys == (Try.f9.params.toList ++ Rows.fnExactRenumberClauseSpec.plain.varTypes Try.checked.prog ++ Try.f9.resultTypes.toList).any (Try.checked.prog.wideKeysFrom ·)) = true := by kernel_rfl
theorem renum_j18 : Rows.fnExactRenumberClauseSpec.vars.all (Try.checked.prog.varReadable ·) = true := by kernel_rfl
theorem renum_j19 : Try.f9.resultTypes.all (fun t => Try.checked.prog.readableRec t && decide (t < Try.checked.prog.types.size)) = true := by kernel_rfl
theorem renum_j20 : (Rows.fnExactRenumberClauseRow.ifacesOut == Try.f9.resultTypes.toList.any (Try.checked.prog.ifacesRec ·)) = true := by kernel_rfl
theorem renum_j21 : (Rows.fnExactRenumberClauseRow.loopsOut == Try.f9.resultTypes.toList.any (Try.checked.prog.loopsFrom ·)) = true := by kernel_rfl
theorem renum_j22 : (Rows.fnExactRenumberClauseRow.plainKeys == Try.checked.prog.plainKeys) = true := by kernel_rfl
theorem renum_j23 : Rows.fnExactRenumberClauseRow.shortTexts.isNone = true := by kernel_rfl
theorem renum_j24 : Try.checked.prog.stopsHeard = true := by kernel_rfl
theorem renum_j25 : Try.checked.prog.mayEnter = true := by kernel_rfl
theorem renum_j26 : (Rows.fnExactRenumberClauseRow.lifted == Try.checked.prog.liftsFinal) = true := by kernel_rfl
theorem renum_j27 : (Try.checked.prog.make == some Rows.fnExactRenumberClauseRow.make) = true := by kernel_rfl
theorem renum_j28 : (Rows.fnExactRenumberClauseRow.kinds == (if Rows.fnExactRenumberClauseRow.domain.isEmpty then [] else Try.f9.params.toList.map fun t => match Try.checked.prog.underlying t with | some (.int k) => some k | _ => none)) = true := by kernel_rfl
theorem renum_j29 : (Rows.fnExactRenumberClauseRow.pinned == Rows.fnExactRenumberClauseRow.pinnedBy) = true := by kernel_rfl
theorem renum_j30 : (Rows.fnExactRenumberClauseRow.veiled == (Try.f9.params.toList ++ Rows.fnExactRenumberClauseSpec.plain.varTypes Try.checked.prog ++ Try.f9.resultTypes.toList).any (Try.checked.prog.veiledRec ·)) = true := by kernel_rfl
theorem renum_j31 : Rows.fnExactRenumberClauseRow.veiledFits Try.checked.prog Try.f9.params.toList (Try.f9.params.toList ++ Rows.fnExactRenumberClauseSpec.plain.varTypes Try.checked.prog ++ Try.f9.resultTypes.toList) = true := by kernel_rfl
set_option maxRecDepth 100000 in
theorem renum_closed : joinedFacts Try.checked.prog n_l_FnExactRenumberClause Try.f9 Rows.fnExactRenumberClauseSpec Rows.fnExactRenumberClauseRow = true := by
  unfold joinedFacts
  exact renum_band (renum_band (renum_band (renum_band (renum_band (renum_band (renum_band (renum_band (renum_band (renum_band (renum_band (renum_band (renum_band (renum_band (renum_band (renum_band (renum_band (renum_band (renum_band (renum_band (renum_band (renum_band (renum_band (renum_band (renum_band (renum_band (renum_band (renum_band (renum_band (renum_band (renum_band renum_j0 renum_j1) renum_j2) renum_j3) renum_j4) renum_j5) renum_j6) renum_j7) renum_j8) renum_j9) renum_j10) renum_j11) renum_j12) renum_j13) renum_j14) renum_j15) renum_j16) renum_j17) renum_j18) renum_j19) renum_j20) renum_j21) renum_j22) renum_j23) renum_j24) renum_j25) renum_j26) renum_j27) renum_j28) renum_j29) renum_j30) renum_j31
theorem renum_named : Try.checked.prog.funcNamed Rows.fnExactRenumberClauseRow.func = some n_l_FnExactRenumberClause := by kernel_rfl
theorem renum_inst : Try.f9.isInstance Try.checked.prog Rows.fnExactRenumberClauseRow.origin Rows.fnExactRenumberClauseRow.targs := of_decide_eq_true (by kernel_rfl)
theorem renum_wrap : Try.f9.isWrapper Try.checked.prog Rows.fnExactRenumberClauseRow.wrapper Rows.fnExactRenumberClauseRow.mainSum := by unfold Func.isWrapper; first | (rw [if_pos (by decide +kernel)]; kernel_rfl) | (rw [if_neg (by decide +kernel)]; exact ⟨rfl, rfl⟩)
theorem renum_holds : Rows.FnExactRenumberClauseSaid :=
  OpenClaim.holds_of_wide n_l_FnExactRenumberClause Try.f9 rfl rfl rfl rfl rfl rfl rfl ⟨rfl, rfl, rfl, rfl, rfl⟩ rfl rfl rfl rfl rfl renum_named Try.func9 renum_closed renum_inst renum_wrap
    (fun os started H enc _ => renum_lifted os started H enc)

#print axioms renum_holds
end Go.Proofs.Ytnoieadimkgjcaa
