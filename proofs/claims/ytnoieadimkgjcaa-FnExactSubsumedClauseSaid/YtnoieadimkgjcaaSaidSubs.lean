/- FnExactSubsumedClause returns true whatever clauses come in, and leaves them as they were. No condition. -/
import Derived.Test.YtnoieadimkgjcaaLawSubs
import Derived.Test.YtnoieadimkgjcaaClose
namespace Go.Proofs.Ytnoieadimkgjcaa
open Go Go.ChangeShapes Go.WideShapes Go.ChangeAt Go.RowKit

theorem fields_lClause : Try.prog.underlying t_lClause = some (.struct (Try.prog.fieldsOf t_lClause)) := by kernel_rfl
set_option maxRecDepth 100000 in
theorem subs_lifted (os : Os) (started : os.Started) (H : Type) (enc : TypeId × Value → H) :
    ReturnsInHanded {} Try.checked os n_l_FnExactSubsumedClause .any (Rows.fnExactSubsumedClauseSpec.pre6 enc Try.prog Try.f5 Rows.fnExactSubsumedClauseRow.domain false)
      (Rows.fnExactSubsumedClauseSpec.post enc Try.prog Try.f5 false true false false) := by
  refine returnsInHanded_of_change (C := Try.checked) Try.own started (by kernel_rfl) Try.func5
    (ChangeSpec.witness6 (enc := enc) (C := Try.checked) false ⟨#[], #[.agg #[.int .i64 0, .int .i64 0, .string ⟨#[]⟩, .slice none 0 0, .slice none 0 0], .agg #[.int .i64 0, .int .i64 0, .string ⟨#[]⟩, .slice none 0 0, .slice none 0 0]], []⟩ 8 (by kernel_rfl) (by kernel_rfl) (by kernel_rfl) (by kernel_rfl)) ?_
  intro W base args ds gs before hval0 hW _ _
  have hval : ∀ (j : Nat) t v, Try.f5.params[j]? = some t → args[j]? = some v → Value.okWide Try.prog W .any base t v := hval0
  have hW' := hW
  obtain ⟨p, q, hA0, hV, hb, _, _⟩ := hW
  have hA : DataW.TrodAll enc Try.prog W 0 (fun _ => true) true Try.f5.params.toList args.toList ds p := hA0
  have hA1 := hA
  rw [Try.params5] at hA1 hval
  obtain ⟨v0, v1, d0, d1, p0, p1, rfl, rfl, _, h0, h1⟩ := trodAll_two hA1
  obtain ⟨n, hn⟩ := h0
  obtain ⟨m, hm⟩ := h1
  obtain ⟨cs, rfl, _⟩ := okWide_struct fields_lClause (hval 0 _ _ rfl rfl)
  obtain ⟨ds, rfl, _⟩ := okWide_struct fields_lClause (hval 1 _ _ rfl rfl)
  obtain ⟨c, hc⟩ := trod_clause (cs := cs.toList) hn
  obtain ⟨d, hd⟩ := trod_clause (cs := ds.toList) hm
  obtain rfl := (trodVars_none (show DataW.TrodVars enc Try.prog W (fun _ => true) [] gs q from hV)).1
  have hcall := lawSubs_calls hc hd
  refine (hcall W (Inv.entry W)).mono fun e W' ⟨he, hI⟩ => ?_
  subst he
  exact ⟨_, rfl, post_true hW' hA hV hb rfl (by rw [Try.params5]; decide +kernel) (by kernel_rfl) rfl rfl rfl hI⟩

theorem subs_band {a b : Bool} (ha : a = true) (hb : b = true) : (a && b) = true := by rw [ha, hb]; rfl
theorem subs_j0 : Rows.fnExactSubsumedClauseRow.wf (OpenSpec.ofChange Rows.fnExactSubsumedClauseSpec) = true := by kernel_rfl
theorem subs_j1 : laidOutB Try.checked.prog = true := by kernel_rfl
theorem subs_j2 : mapsRowed Try.checked.prog = true := by kernel_rfl
theorem subs_j3 : Try.f5.params.all (Try.checked.prog.readableRec ·) = true := by kernel_rfl
theorem subs_j4 : namedTie Try.checked.prog Rows.fnExactSubsumedClauseRow.named Rows.fnExactSubsumedClauseSpec.vars = true := by kernel_rfl
theorem subs_j5 : (Rows.fnExactSubsumedClauseRow.stops == []) = true := by kernel_rfl
theorem subs_j6 : (Try.checked.prog.stops == []) = true := by kernel_rfl
theorem subs_j7 : (Rows.fnExactSubsumedClauseRow.knobs == []) = true := by kernel_rfl
theorem subs_j8 : (Try.checked.prog.stopKnobs == []) = true := by kernel_rfl
theorem subs_j9 : (Rows.fnExactSubsumedClauseRow.inPlace == Try.checked.prog.inPlace n_l_FnExactSubsumedClause) = true := by kernel_rfl
theorem subs_j10 : (Rows.fnExactSubsumedClauseRow.unfollowed == Try.checked.prog.unfollowed n_l_FnExactSubsumedClause) = true := by kernel_rfl
theorem subs_j11 : (Rows.fnExactSubsumedClauseRow.recurses == Try.checked.prog.recurses n_l_FnExactSubsumedClause) = true := by kernel_rfl
theorem subs_j12 : (Rows.fnExactSubsumedClauseRow.named == Try.checked.prog.varsNamed n_l_FnExactSubsumedClause) = true := by kernel_rfl
theorem subs_j13 : (Rows.fnExactSubsumedClauseRow.maps == (Try.f5.params.toList ++ Rows.fnExactSubsumedClauseSpec.plain.varTypes Try.checked.prog).any (Try.checked.prog.mapsRec ·)) = true := by kernel_rfl
theorem subs_j14 : (Rows.fnExactSubsumedClauseRow.ifaces == (Try.f5.params.toList ++ Rows.fnExactSubsumedClauseSpec.plain.varTypes Try.checked.prog).any (Try.checked.prog.ifacesRec ·)) = true := by kernel_rfl
theorem subs_j15 : (Rows.fnExactSubsumedClauseRow.mapsOut == Try.checked.prog.mapsAmong Try.f5.resultTypes.toList) = true := by kernel_rfl
theorem subs_j16 : (Rows.fnExactSubsumedClauseRow.loops == (Try.f5.params.toList ++ Rows.fnExactSubsumedClauseSpec.plain.varTypes Try.checked.prog).any (Try.checked.prog.loopsFrom ·)) = true := by kernel_rfl
theorem subs_j17 : (Rows.fnExactSubsumedClauseRow.wideKeys == (Try.f5.params.toList ++ Rows.fnExactSubsumedClauseSpec.plain.varTypes Try.checked.prog ++ Try.f5.resultTypes.toList).any (Try.checked.prog.wideKeysFrom ·)) = true := by kernel_rfl
theorem subs_j18 : Rows.fnExactSubsumedClauseSpec.vars.all (Try.checked.prog.varReadable ·) = true := by kernel_rfl
theorem subs_j19 : Try.f5.resultTypes.all (fun t => Try.checked.prog.readableRec t && decide (t < Try.checked.prog.types.size)) = true := by kernel_rfl
theorem subs_j20 : (Rows.fnExactSubsumedClauseRow.ifacesOut == Try.f5.resultTypes.toList.any (Try.checked.prog.ifacesRec ·)) = true := by kernel_rfl
theorem subs_j21 : (Rows.fnExactSubsumedClauseRow.loopsOut == Try.f5.resultTypes.toList.any (Try.checked.prog.loopsFrom ·)) = true := by kernel_rfl
theorem subs_j22 : (Rows.fnExactSubsumedClauseRow.plainKeys == Try.checked.prog.plainKeys) = true := by kernel_rfl
theorem subs_j23 : Rows.fnExactSubsumedClauseRow.shortTexts.isNone = true := by kernel_rfl
theorem subs_j24 : Try.checked.prog.stopsHeard = true := by kernel_rfl
theorem subs_j25 : Try.checked.prog.mayEnter = true := by kernel_rfl
theorem subs_j26 : (Rows.fnExactSubsumedClauseRow.lifted == Try.checked.prog.liftsFinal) = true := by kernel_rfl
theorem subs_j27 : (Try.checked.prog.make == some Rows.fnExactSubsumedClauseRow.make) = true := by kernel_rfl
theorem subs_j28 : (Rows.fnExactSubsumedClauseRow.kinds == (if Rows.fnExactSubsumedClauseRow.domain.isEmpty then [] else Try.f5.params.toList.map fun t => match Try.checked.prog.underlying t with | some (.int k) => some k | _ => none)) = true := by kernel_rfl
theorem subs_j29 : (Rows.fnExactSubsumedClauseRow.pinned == Rows.fnExactSubsumedClauseRow.pinnedBy) = true := by kernel_rfl
theorem subs_j30 : (Rows.fnExactSubsumedClauseRow.veiled == (Try.f5.params.toList ++ Rows.fnExactSubsumedClauseSpec.plain.varTypes Try.checked.prog ++ Try.f5.resultTypes.toList).any (Try.checked.prog.veiledRec ·)) = true := by kernel_rfl
theorem subs_j31 : Rows.fnExactSubsumedClauseRow.veiledFits Try.checked.prog Try.f5.params.toList (Try.f5.params.toList ++ Rows.fnExactSubsumedClauseSpec.plain.varTypes Try.checked.prog ++ Try.f5.resultTypes.toList) = true := by kernel_rfl
set_option maxRecDepth 100000 in
theorem subs_closed : joinedFacts Try.checked.prog n_l_FnExactSubsumedClause Try.f5 Rows.fnExactSubsumedClauseSpec Rows.fnExactSubsumedClauseRow = true := by
  unfold joinedFacts
  exact subs_band (subs_band (subs_band (subs_band (subs_band (subs_band (subs_band (subs_band (subs_band (subs_band (subs_band (subs_band (subs_band (subs_band (subs_band (subs_band (subs_band (subs_band (subs_band (subs_band (subs_band (subs_band (subs_band (subs_band (subs_band (subs_band (subs_band (subs_band (subs_band (subs_band (subs_band subs_j0 subs_j1) subs_j2) subs_j3) subs_j4) subs_j5) subs_j6) subs_j7) subs_j8) subs_j9) subs_j10) subs_j11) subs_j12) subs_j13) subs_j14) subs_j15) subs_j16) subs_j17) subs_j18) subs_j19) subs_j20) subs_j21) subs_j22) subs_j23) subs_j24) subs_j25) subs_j26) subs_j27) subs_j28) subs_j29) subs_j30) subs_j31
theorem subs_named : Try.checked.prog.funcNamed Rows.fnExactSubsumedClauseRow.func = some n_l_FnExactSubsumedClause := by kernel_rfl
theorem subs_inst : Try.f5.isInstance Try.checked.prog Rows.fnExactSubsumedClauseRow.origin Rows.fnExactSubsumedClauseRow.targs := of_decide_eq_true (by kernel_rfl)
theorem subs_wrap : Try.f5.isWrapper Try.checked.prog Rows.fnExactSubsumedClauseRow.wrapper Rows.fnExactSubsumedClauseRow.mainSum := by unfold Func.isWrapper; first | (rw [if_pos (by decide +kernel)]; kernel_rfl) | (rw [if_neg (by decide +kernel)]; exact ⟨rfl, rfl⟩)
theorem subs_holds : Rows.FnExactSubsumedClauseSaid :=
  OpenClaim.holds_of_wide n_l_FnExactSubsumedClause Try.f5 rfl rfl rfl rfl rfl rfl rfl ⟨rfl, rfl, rfl, rfl, rfl⟩ rfl rfl rfl rfl rfl subs_named Try.func5 subs_closed subs_inst subs_wrap
    (fun os started H enc _ => subs_lifted os started H enc)

#print axioms subs_holds
end Go.Proofs.Ytnoieadimkgjcaa
