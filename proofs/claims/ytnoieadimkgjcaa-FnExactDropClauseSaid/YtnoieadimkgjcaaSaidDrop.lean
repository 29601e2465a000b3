/- FnExactDropClause returns true whatever program and number come in, and leaves them as they were. No condition. -/
import Derived.Test.YtnoieadimkgjcaaLawDrop
import Derived.Test.YtnoieadimkgjcaaClose
namespace Go.Proofs.Ytnoieadimkgjcaa
open Go Go.ChangeShapes Go.WideShapes Go.ChangeAt Go.RowKit

set_option maxRecDepth 100000 in
theorem drop_lifted (os : Os) (started : os.Started) (H : Type) (enc : TypeId × Value → H) :
    ReturnsInHanded {} Try.checked os n_l_FnExactDropClause .any (Rows.fnExactDropClauseSpec.pre6 enc Try.prog Try.f10 Rows.fnExactDropClauseRow.domain false)
      (Rows.fnExactDropClauseSpec.post enc Try.prog Try.f10 false true false false) := by
  refine returnsInHanded_of_change (C := Try.checked) Try.own started (by kernel_rfl) Try.func10
    (ChangeSpec.witness6 (enc := enc) (C := Try.checked) false ⟨#[], #[.slice none 0 0, .int .i64 0], []⟩ 8 (by kernel_rfl) (by kernel_rfl) (by kernel_rfl) (by kernel_rfl)) ?_
  intro W base args ds gs before hval0 hW _ _
  have hval : ∀ (j : Nat) t v, Try.f10.params[j]? = some t → args[j]? = some v → Value.okWide Try.prog W .any base t v := hval0
  have hW' := hW
  obtain ⟨p, q, hA0, hV, hb, _, _⟩ := hW
  have hA : DataW.TrodAll enc Try.prog W 0 (fun _ => true) true Try.f10.params.toList args.toList ds p := hA0
  have hA1 := hA
  rw [Try.params10] at hA1 hval
  obtain ⟨v0, v1, d0, d1, p0, p1, rfl, rfl, _, h0, h1⟩ := trodAll_two hA1
  obtain ⟨n, hn⟩ := h0
  obtain ⟨i, rfl, _⟩ := open_int un_int (hval 1 _ _ rfl rfl) h1
  obtain rfl := (trodVars_none (show DataW.TrodVars enc Try.prog W (fun _ => true) [] gs q from hV)).1
  obtain ⟨a, len, cap, rfl⟩ := okWide_slice (slice_parts sl_SlClause).1 (hval 0 _ _ rfl rfl)
  obtain ⟨xs, hxs⟩ := trod_clauses hn
  refine (lawDrop_calls i hxs W (Inv.entry W)).mono fun e W' ⟨he, hI⟩ => ?_
  subst he
  exact ⟨_, rfl, post_true hW' hA hV hb rfl (by rw [Try.params10]; decide +kernel) (by kernel_rfl) rfl rfl rfl hI⟩

theorem drop_band {a b : Bool} (ha : a = true) (hb : b = true) : (a && b) = true := by rw [ha, hb]; rfl
theorem drop_j0 : Rows.fnExactDropClauseRow.wf (OpenSpec.ofChange Rows.fnExactDropClauseSpec) = true := by kernel_rfl
theorem drop_j1 : laidOutB Try.checked.prog = true := by kernel_rfl
theorem drop_j2 : mapsRowed Try.checked.prog = true := by kernel_rfl
theorem drop_j3 : Try.f10.params.all (Try.checked.prog.readableRec ·) = true := by kernel_rfl
theorem drop_j4 : namedTie Try.checked.prog Rows.fnExactDropClauseRow.named Rows.fnExactDropClauseSpec.vars = true := by kernel_rfl
theorem drop_j5 : (Rows.fnExactDropClauseRow.stops == []) = true := by kernel_rfl
theorem drop_j6 : (Try.checked.prog.stops == []) = true := by kernel_rfl
theorem drop_j7 : (Rows.fnExactDropClauseRow.knobs == []) = true := by kernel_rfl
theorem drop_j8 : (Try.checked.prog.stopKnobs == []) = true := by kernel_rfl
theorem drop_j9 : (Rows.fnExactDropClauseRow.inPlace == Try.checked.prog.inPlace n_l_FnExactDropClause) = true := by kernel_rfl
theorem drop_j10 : (Rows.fnExactDropClauseRow.unfollowed == Try.checked.prog.unfollowed n_l_FnExactDropClause) = true := by kernel_rfl
theorem drop_j11 : (Rows.fnExactDropClauseRow.recurses == Try.checked.prog.recurses n_l_FnExactDropClause) = true := by kernel_rfl
theorem drop_j12 : (Rows.fnExactDropClauseRow.named == Try.checked.prog.varsNamed n_l_FnExactDropClause) = true := by kernel_rfl
theorem drop_j13 : (Rows.fnExactDropClauseRow.maps == (Try.f10.params.toList ++ Rows.fnExactDropClauseSpec.plain.varTypes Try.checked.prog).any (Try.checked.prog.mapsRec ·)) = true := by kernel_rfl
theorem drop_j14 : (Rows.fnExactDropClauseRow.ifaces == (Try.f10.params.toList ++ Rows.fnExactDropClauseSpec.plain.varTypes Try.checked.prog).any (Try.checked.prog.ifacesRec ·)) = true := by kernel_rfl
theorem drop_j15 : (Rows.fnExactDropClauseRow.mapsOut == Try.checked.prog.mapsAmong Try.f10.resultTypes.toList) = true := by kernel_rfl
theorem drop_j16 : (Rows.fnExactDropClauseRow.loops == (Try.f10.params.toList ++ Rows.fnExactDropClauseSpec.plain.varTypes Try.checked.prog).any (Try.checked.prog.loopsFrom ·)) = true := by kernel_rfl
theorem drop_j17 : (Rows.fnExactDropClauseRow.wideKeys == (Try.f10.params.toList ++ Rows.fnExactDropClauseSpec.plain.varTypes Try.checked.prog ++ Try.f10.resultTypes.toList).any (Try.checked.prog.wideKeysFrom ·)) = true := by kernel_rfl
theorem drop_j18 : Rows.fnExactDropClauseSpec.vars.all (Try.checked.prog.varReadable ·) = true := by kernel_rfl
theorem drop_j19 : Try.f10.resultTypes.all (fun t => Try.checked.prog.readableRec t && decide (t < Try.checked.prog.types.size)) = true := by kernel_rfl
theorem drop_j20 : (Rows.fnExactDropClauseRow.ifacesOut == Try.f10.resultTypes.toList.any (Try.checked.prog.ifacesRec ·)) = true := by kernel_rfl
theorem drop_j21 : (Rows.fnExactDropClauseRow.loopsOut == Try.f10.resultTypes.toList.any (Try.checked.prog.loopsFrom ·)) = true := by kernel_rfl
theorem drop_j22 : (Rows.fnExactDropClauseRow.plainKeys == Try.checked.prog.plainKeys) = true := by kernel_rfl
theorem drop_j23 : Rows.fnExactDropClauseRow.shortTexts.isNone = true := by kernel_rfl
theorem drop_j24 : Try.checked.prog.stopsHeard = true := by kernel_rfl
theorem drop_j25 : Try.checked.prog.mayEnter = true := by kernel_rfl
theorem drop_j26 : (Rows.fnExactDropClauseRow.lifted == Try.checked.prog.liftsFinal) = true := by kernel_rfl
theorem drop_j27 : (Try.checked.prog.make == some Rows.fnExactDropClauseRow.make) = true := by kernel_rfl
theorem drop_j28 : (Rows.fnExactDropClauseRow.kinds == (if Rows.fnExactDropClauseRow.domain.isEmpty then [] else Try.f10.params.toList.map fun t => match Try.checked.prog.underlying t with | some (.int k) => some k | _ => none)) = true := by kernel_rfl
theorem drop_j29 : (Rows.fnExactDropClauseRow.pinned == Rows.fnExactDropClauseRow.pinnedBy) = true := by kernel_rfl
theorem drop_j30 : (Rows.fnExactDropClauseRow.veiled == (Try.f10.params.toList ++ Rows.fnExactDropClauseSpec.plain.varTypes Try.checked.prog ++ Try.f10.resultTypes.toList).any (Try.checked.prog.veiledRec ·)) = true := by kernel_rfl
theorem drop_j31 : Rows.fnExactDropClauseRow.veiledFits Try.checked.prog Try.f10.params.toList (Try.f10.params.toList ++ Rows.fnExactDropClauseSpec.plain.varTypes Try.checked.prog ++ Try.f10.resultTypes.toList) = true := by kernel_rfl
set_option maxRecDepth 100000 in
theorem drop_closed : joinedFacts Try.checked.prog n_l_FnExactDropClause Try.f10 Rows.fnExactDropClauseSpec Rows.fnExactDropClauseRow = true := by
  unfold joinedFacts
  exact drop_band (drop_band (drop_band (drop_band (drop_band (drop_band (drop_band (drop_band (drop_band (drop_band (drop_band (drop_band (drop_band (drop_band (drop_band (drop_band (drop_band (drop_band (drop_band (drop_band (drop_band (drop_band (drop_band (drop_band (drop_band (drop_band (drop_band (drop_band (drop_band (drop_band (drop_band drop_j0 drop_j1) drop_j2) drop_j3) drop_j4) drop_j5) drop_j6) drop_j7) drop_j8) drop_j9) drop_j10) drop_j11) drop_j12) drop_j13) drop_j14) drop_j15) drop_j16) drop_j17) drop_j18) drop_j19) drop_j20) drop_j21) drop_j22) drop_j23) drop_j24) drop_j25) drop_j26) drop_j27) drop_j28) drop_j29) drop_j30) drop_j31
theorem drop_named : Try.checked.prog.funcNamed Rows.fnExactDropClauseRow.func = some n_l_FnExactDropClause := by kernel_rfl
theorem drop_inst : Try.f10.isInstance Try.checked.prog Rows.fnExactDropClauseRow.origin Rows.fnExactDropClauseRow.targs := of_decide_eq_true (by kernel_rfl)
theorem drop_wrap : Try.f10.isWrapper Try.checked.prog Rows.fnExactDropClauseRow.wrapper Rows.fnExactDropClauseRow.mainSum := by unfold Func.isWrapper; first | (rw [if_pos (by decide +kernel)]; kernel_rfl) | (rw [if_neg (by decide +kernel)]; exact ⟨rfl, rfl⟩)
theorem drop_holds : Rows.FnExactDropClauseSaid :=
  OpenClaim.holds_of_wide n_l_FnExactDropClause Try.f10 rfl rfl rfl rfl rfl rfl rfl ⟨rfl, rfl, rfl, rfl, rfl⟩ rfl rfl rfl rfl rfl drop_named Try.func10 drop_closed drop_inst drop_wrap
    (fun os started H enc _ => drop_lifted os started H enc)

#print axioms drop_holds
end Go.Proofs.Ytnoieadimkgjcaa
