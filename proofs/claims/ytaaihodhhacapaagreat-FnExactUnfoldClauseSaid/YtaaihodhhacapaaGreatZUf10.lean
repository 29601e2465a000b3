/- FnExactUnfoldClause returns true whatever program and number come in, and leaves them as they were. No condition. -/
import Derived.Test.YtaaihodhhacapaaGreatZUf9
namespace Go.Proofs.YtaaihodhhacapaaGreat
open Go Go.ChangeShapes Go.WideShapes Go.ChangeAt Go.RowKit

set_option maxRecDepth 100000 in
theorem unfold_lifted (os : Os) (started : os.Started) (H : Type) (enc : TypeId × Value → H) :
    ReturnsInHanded {} Tryz.checked os n_l_FnExactUnfoldClause .any (Rows.fnExactUnfoldClauseSpec.pre6 enc Tryz.prog Tryz.f3 Rows.fnExactUnfoldClauseRow.domain false)
      (Rows.fnExactUnfoldClauseSpec.post enc Tryz.prog Tryz.f3 false true false false) := by
  refine returnsInHanded_of_change (C := Tryz.checked) Tryz.own started (by kernel_rfl) Tryz.func3
    (ChangeSpec.witness6 (enc := enc) (C := Tryz.checked) false ⟨#[], #[.slice none 0 0, .int .i64 0], []⟩ 8 (by kernel_rfl) (by kernel_rfl) (by kernel_rfl) (by kernel_rfl)) ?_
  intro W base args ds gs before hval0 hW _ _
  have hval : ∀ (j : Nat) t v, Tryz.f3.params[j]? = some t → args[j]? = some v → Value.okWide Tryz.prog W .any base t v := hval0
  have hW' := hW
  obtain ⟨p, q, hA0, hV, hb, _, _⟩ := hW
  have hA : DataW.TrodAll enc Tryz.prog W 0 (fun _ => true) true Tryz.f3.params.toList args.toList ds p := hA0
  have hA1 := hA
  rw [Tryz.params3] at hA1 hval
  obtain ⟨v0, v1, d0, d1, p0, p1, rfl, rfl, _, h0, h1⟩ := trodAll_two hA1
  obtain ⟨n, hn⟩ := h0
  obtain ⟨i, rfl, _⟩ := open_int un_int (hval 1 _ _ rfl rfl) h1
  obtain rfl := (trodVars_none (show DataW.TrodVars enc Tryz.prog W (fun _ => true) [] gs q from hV)).1
  obtain ⟨a, len, cap, rfl⟩ := okWide_slice (slice_parts sl_SlClause).1 (hval 0 _ _ rfl rfl)
  obtain ⟨xs, hxs⟩ := trod_clauses hn
  refine (lawUnfold_calls i hxs W (Inv.entry W)).mono fun e W' ⟨he, hI⟩ => ?_
  subst he
  exact ⟨_, rfl, post_true hW' hA hV hb rfl (by rw [Tryz.params3]; decide +kernel) (by kernel_rfl) rfl rfl rfl hI⟩

theorem unfold_band {a b : Bool} (ha : a = true) (hb : b = true) : (a && b) = true := by rw [ha, hb]; rfl
theorem unfold_j0 : Rows.fnExactUnfoldClauseRow.wf (OpenSpec.ofChange Rows.fnExactUnfoldClauseSpec) = true := by kernel_rfl
theorem unfold_j1 : laidOutB Tryz.checked.prog = true := by kernel_rfl
theorem unfold_j2 : mapsRowed Tryz.checked.prog = true := by kernel_rfl
theorem unfold_j3 : Tryz.f3.params.all (Tryz.checked.prog.readableRec ·) = true := by kernel_rfl
theorem unfold_j4 : namedTie Tryz.checked.prog Rows.fnExactUnfoldClauseRow.named Rows.fnExactUnfoldClauseSpec.vars = true := by kernel_rfl
theorem unfold_j5 : (Rows.fnExactUnfoldClauseRow.stops == []) = true := by kernel_rfl
theorem unfold_j6 : (Tryz.checked.prog.stops == []) = true := by kernel_rfl
theorem unfold_j7 : (Rows.fnExactUnfoldClauseRow.knobs == []) = true := by kernel_rfl
theorem unfold_j8 : (Tryz.checked.prog.stopKnobs == []) = true := by kernel_rfl
theorem unfold_j9 : (Rows.fnExactUnfoldClauseRow.inPlace == Tryz.checked.prog.inPlace n_l_FnExactUnfoldClause) = true := by kernel_rfl
theorem unfold_j10 : (Rows.fnExactUnfoldClauseRow.unfollowed == Tryz.checked.prog.unfollowed n_l_FnExactUnfoldClause) = true := by kernel_rfl
theorem unfold_j11 : (Rows.fnExactUnfoldClauseRow.recurses == Tryz.checked.prog.recurses n_l_FnExactUnfoldClause) = true := by kernel_rfl
theorem unfold_j12 : (Rows.fnExactUnfoldClauseRow.named == Tryz.checked.prog.varsNamed n_l_FnExactUnfoldClause) = true := by kernel_rfl
theorem unfold_j13 : (Rows.fnExactUnfoldClauseRow.maps == (Tryz.f3.params.toList ++ Rows.fnExactUnfoldClauseSpec.plain.varTypes Tryz.checked.prog).any (Tryz.checked.prog.mapsRec ·)) = true := by kernel_rfl
theorem unfold_j14 : (Rows.fnExactUnfoldClauseRow.ifaces == (Tryz.f3.params.toList ++ Rows.fnExactUnfoldClauseSpec.plain.varTypes Tryz.checked.prog).any (Tryz.checked.prog.ifacesRec ·)) = true := by kernel_rfl
theorem unfold_j15 : (Rows.fnExactUnfoldClauseRow.mapsOut == Tryz.checked.prog.mapsAmong Tryz.f3.resultTypes.toList) = true := by kernel_rfl
theorem unfold_j16 : (Rows.fnExactUnfoldClauseRow.loops == (Tryz.f3.params.toList ++ Rows.fnExactUnfoldClauseSpec.plain.varTypes Tryz.checked.prog).any (Tryz.checked.prog.loopsFrom ·)) = true := by kernel_rfl
theorem unfold_j17 : (Rows.fnExactUnfoldClauseRow.wideKeys == (Tryz.f3.params.toList ++ Rows.fnExactUnfoldClauseSpec.plain.varTypes Tryz.checked.prog ++ Tryz.f3.resultTypes.toList).any (Tryz.checked.prog.wideKeysFrom ·)) = true := by kernel_rfl
theorem unfold_j18 : Rows.fnExactUnfoldClauseSpec.vars.all (Tryz.checked.prog.varReadable ·) = true := by kernel_rfl
theorem unfold_j19 : Tryz.f3.resultTypes.all (fun t => Tryz.checked.prog.readableRec t && decide (t < Tryz.checked.prog.types.size)) = true := by kernel_rfl
theorem unfold_j20 : (Rows.fnExactUnfoldClauseRow.ifacesOut == Tryz.f3.resultTypes.toList.any (Tryz.checked.prog.ifacesRec ·)) = true := by kernel_rfl
theorem unfold_j21 : (Rows.fnExactUnfoldClauseRow.loopsOut == Tryz.f3.resultTypes.toList.any (Tryz.checked.prog.loopsFrom ·)) = true := by kernel_rfl
theorem unfold_j22 : (Rows.fnExactUnfoldClauseRow.plainKeys == Tryz.checked.prog.plainKeys) = true := by kernel_rfl
theorem unfold_j23 : Rows.fnExactUnfoldClauseRow.shortTexts.isNone = true := by kernel_rfl
theorem unfold_j24 : Tryz.checked.prog.stopsHeard = true := by kernel_rfl
theorem unfold_j25 : Tryz.checked.prog.mayEnter = true := by kernel_rfl
theorem unfold_j26 : (Rows.fnExactUnfoldClauseRow.lifted == Tryz.checked.prog.liftsFinal) = true := by kernel_rfl
theorem unfold_j27 : (Tryz.checked.prog.make == some Rows.fnExactUnfoldClauseRow.make) = true := by kernel_rfl
theorem unfold_j28 : (Rows.fnExactUnfoldClauseRow.kinds == (if Rows.fnExactUnfoldClauseRow.domain.isEmpty then [] else Tryz.f3.params.toList.map fun t => match Tryz.checked.prog.underlying t with | some (.int k) => some k | _ => none)) = true := by kernel_rfl
theorem unfold_j29 : (Rows.fnExactUnfoldClauseRow.pinned == Rows.fnExactUnfoldClauseRow.pinnedBy) = true := by kernel_rfl
theorem unfold_j30 : (Rows.fnExactUnfoldClauseRow.veiled == (Tryz.f3.params.toList ++ Rows.fnExactUnfoldClauseSpec.plain.varTypes Tryz.checked.prog ++ Tryz.f3.resultTypes.toList).any (Tryz.checked.prog.veiledRec ·)) = true := by kernel_rfl
theorem unfold_j31 : Rows.fnExactUnfoldClauseRow.veiledFits Tryz.checked.prog Tryz.f3.params.toList (Tryz.f3.params.toList ++ Rows.fnExactUnfoldClauseSpec.plain.varTypes Tryz.checked.prog ++ Tryz.f3.resultTypes.toList) = true := by kernel_rfl
set_option maxRecDepth 100000 in
theorem unfold_closed : joinedFacts Tryz.checked.prog n_l_FnExactUnfoldClause Tryz.f3 Rows.fnExactUnfoldClauseSpec Rows.fnExactUnfoldClauseRow = true := by
  unfold joinedFacts
  exact unfold_band (unfold_band (unfold_band (unfold_band (unfold_band (unfold_band (unfold_band (unfold_band (unfold_band (unfold_band (unfold_band (unfold_band (unfold_band (unfold_band (unfold_band (unfold_band (unfold_band (unfold_band (unfold_band (unfold_band (unfold_band (unfold_band (unfold_band (unfold_band (unfold_band (unfold_band (unfold_band (unfold_band (unfold_band (unfold_band (unfold_band unfold_j0 unfold_j1) unfold_j2) unfold_j3) unfold_j4) unfold_j5) unfold_j6) unfold_j7) unfold_j8) unfold_j9) unfold_j10) unfold_j11) unfold_j12) unfold_j13) unfold_j14) unfold_j15) unfold_j16) unfold_j17) unfold_j18) unfold_j19) unfold_j20) unfold_j21) unfold_j22) unfold_j23) unfold_j24) unfold_j25) unfold_j26) unfold_j27) unfold_j28) unfold_j29) unfold_j30) unfold_j31
theorem unfold_named : Tryz.checked.prog.funcNamed Rows.fnExactUnfoldClauseRow.func = some n_l_FnExactUnfoldClause := by kernel_rfl
theorem unfold_inst : Tryz.f3.isInstance Tryz.checked.prog Rows.fnExactUnfoldClauseRow.origin Rows.fnExactUnfoldClauseRow.targs := of_decide_eq_true (by kernel_rfl)
theorem unfold_wrap : Tryz.f3.isWrapper Tryz.checked.prog Rows.fnExactUnfoldClauseRow.wrapper Rows.fnExactUnfoldClauseRow.mainSum := by unfold Func.isWrapper; first | (rw [if_pos (by decide +kernel)]; kernel_rfl) | (rw [if_neg (by decide +kernel)]; exact ⟨rfl, rfl⟩)
theorem unfold_holds : Rows.FnExactUnfoldClauseSaid :=
  OpenClaim.holds_of_wide n_l_FnExactUnfoldClause Tryz.f3 rfl rfl rfl rfl rfl rfl rfl ⟨rfl, rfl, rfl, rfl, rfl⟩ rfl rfl rfl rfl rfl unfold_named Tryz.func3 unfold_closed unfold_inst unfold_wrap
    (fun os started H enc _ => unfold_lifted os started H enc)

#print axioms unfold_holds
end Go.Proofs.YtaaihodhhacapaaGreat
