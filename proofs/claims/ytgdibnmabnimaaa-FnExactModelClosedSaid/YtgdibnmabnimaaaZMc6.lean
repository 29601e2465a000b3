/- FnExactModelClosed returns true whatever program and facts come in, and leaves them as they were. No condition. -/
import Derived.Test.YtgdibnmabnimaaaZMc5
namespace Go.Proofs.Ytgdibnmabnimaaa
open Go Go.ChangeShapes Go.WideShapes Go.ChangeAt Go.RowKit

set_option maxRecDepth 100000 in
theorem closed_lifted (os : Os) (started : os.Started) (H : Type) (enc : TypeId × Value → H) :
    ReturnsInHanded {} Try.checked os n_l_FnExactModelClosed .any (Rows.fnExactModelClosedSpec.pre6 enc Try.prog Try.f3 Rows.fnExactModelClosedRow.domain false)
      (Rows.fnExactModelClosedSpec.post enc Try.prog Try.f3 false true false false) := by
  refine returnsInHanded_of_change (C := Try.checked) Try.own started (by kernel_rfl) Try.func3
    (ChangeSpec.witness6 (enc := enc) (C := Try.checked) false ⟨#[], #[.slice none 0 0, .slice none 0 0], []⟩ 8 (by kernel_rfl) (by kernel_rfl) (by kernel_rfl) (by kernel_rfl)) ?_
  intro W base args ds gs before hval0 hW _ _
  have hval : ∀ (j : Nat) t v, Try.f3.params[j]? = some t → args[j]? = some v → Value.okWide Try.prog W .any base t v := hval0
  have hW' := hW
  obtain ⟨p, q, hA0, hV, hb, _, _⟩ := hW
  have hA : DataW.TrodAll enc Try.prog W 0 (fun _ => true) true Try.f3.params.toList args.toList ds p := hA0
  have hA1 := hA
  rw [Try.params3] at hA1 hval
  obtain ⟨v0, v1, d0, d1, p0, p1, rfl, rfl, _, h0, h1⟩ := trodAll_two hA1
  obtain ⟨n, hn⟩ := h0
  obtain ⟨m, hm⟩ := h1
  obtain ⟨a2, len2, cap2, rfl⟩ := okWide_slice (slice_parts sl_SlTerm).1 (hval 1 _ _ rfl rfl)
  obtain ⟨ys, hys⟩ := trod_terms hm
  obtain rfl := (trodVars_none (show DataW.TrodVars enc Try.prog W (fun _ => true) [] gs q from hV)).1
  obtain ⟨a, len, cap, rfl⟩ := okWide_slice (slice_parts sl_SlClause).1 (hval 0 _ _ rfl rfl)
  obtain ⟨xs, hxs⟩ := trod_clauses hn
  refine (lawModel_calls hxs hys W (Inv.entry W)).mono fun e W' ⟨he, hI⟩ => ?_
  subst he
  exact ⟨_, rfl, post_true hW' hA hV hb rfl (by rw [Try.params3]; decide +kernel) (by kernel_rfl) rfl rfl rfl hI⟩

theorem closed_band {a b : Bool} (ha : a = true) (hb : b = true) : (a && b) = true := by rw [ha, hb]; rfl
theorem closed_j0 : Rows.fnExactModelClosedRow.wf (OpenSpec.ofChange Rows.fnExactModelClosedSpec) = true := by kernel_rfl
theorem closed_j1 : laidOutB Try.checked.prog = true := by kernel_rfl
theorem closed_j2 : mapsRowed Try.checked.prog = true := by kernel_rfl
theorem closed_j3 : Try.f3.params.all (Try.checked.prog.readableRec ·) = true := by kernel_rfl
theorem closed_j4 : namedTie Try.checked.prog Rows.fnExactModelClosedRow.named Rows.fnExactModelClosedSpec.vars = true := by kernel_rfl
theorem closed_j5 : (Rows.fnExactModelClosedRow.stops == []) = true := by kernel_rfl
theorem closed_j6 : (Try.checked.prog.stops == []) = true := by kernel_rfl
theorem closed_j7 : (Rows.fnExactModelClosedRow.knobs == []) = true := by kernel_rfl
theorem closed_j8 : (Try.checked.prog.stopKnobs == []) = true := by kernel_rfl
theorem closed_j9 : (Rows.fnExactModelClosedRow.inPlace == Try.checked.prog.inPlace n_l_FnExactModelClosed) = true := by kernel_rfl
theorem closed_j10 : (Rows.fnExactModelClosedRow.unfollowed == Try.checked.prog.unfollowed n_l_FnExactModelClosed) = true := by kernel_rfl
theorem closed_j11 : (Rows.fnExactModelClosedRow.recurses == Try.checked.prog.recurses n_l_FnExactModelClosed) = true := by kernel_rfl
theorem closed_j12 : (Rows.fnExactModelClosedRow.named == Try.checked.prog.varsNamed n_l_FnExactModelClosed) = true := by kernel_rfl
theorem closed_j13 : (Rows.fnExactModelClosedRow.maps == (Try.f3.params.toList ++ Rows.fnExactModelClosedSpec.plain.varTypes Try.checked.prog).any (Try.checked.prog.mapsRec ·)) = true := by kernel_rfl
theorem closed_j14 : (Rows.fnExactModelClosedRow.ifaces == (Try.f3.params.toList ++ Rows.fnExactModelClosedSpec.plain.varTypes Try.checked.prog).any (Try.checked.prog.ifacesRec ·)) = true := by kernel_rfl
theorem closed_j15 : (Rows.fnExactModelClosedRow.mapsOut == Try.checked.prog.mapsAmong Try.f3.resultTypes.toList) = true := by kernel_rfl
theorem closed_j16 : (Rows.fnExactModelClosedRow.loops == (Try.f3.params.toList ++ Rows.fnExactModelClosedSpec.plain.varTypes Try.checked.prog).any (Try.checked.prog.loopsFrom ·)) = true := by kernel_rfl
theorem closed_j17 : (Rows.fnExactModelClosedRow.wideKeys == (Try.f3.params.toList ++ Rows.fnExactModelClosedSpec.plain.varTypes Try.checked.prog ++ Try.f3.resultTypes.toList).any (Try.checked.prog.wideKeysFrom ·)) = true := by kernel_rfl
theorem closed_j18 : Rows.fnExactModelClosedSpec.vars.all (Try.checked.prog.varReadable ·) = true := by kernel_rfl
theorem closed_j19 : Try.f3.resultTypes.all (fun t => Try.checked.prog.readableRec t && decide (t < Try.checked.prog.types.size)) = true := by kernel_rfl
theorem closed_j20 : (Rows.fnExactModelClosedRow.ifacesOut == Try.f3.resultTypes.toList.any (Try.checked.prog.ifacesRec ·)) = true := by kernel_rfl
theorem closed_j21 : (Rows.fnExactModelClosedRow.loopsOut == Try.f3.resultTypes.toList.any (Try.checked.prog.loopsFrom ·)) = true := by kernel_rfl
theorem closed_j22 : (Rows.fnExactModelClosedRow.plainKeys == Try.checked.prog.plainKeys) = true := by kernel_rfl
theorem closed_j23 : Rows.fnExactModelClosedRow.shortTexts.isNone = true := by kernel_rfl
theorem closed_j24 : Try.checked.prog.stopsHeard = true := by kernel_rfl
theorem closed_j25 : Try.checked.prog.mayEnter = true := by kernel_rfl
theorem closed_j26 : (Rows.fnExactModelClosedRow.lifted == Try.checked.prog.liftsFinal) = true := by kernel_rfl
theorem closed_j27 : (Try.checked.prog.make == some Rows.fnExactModelClosedRow.make) = true := by kernel_rfl
theorem closed_j28 : (Rows.fnExactModelClosedRow.kinds == (if Rows.fnExactModelClosedRow.domain.isEmpty then [] else Try.f3.params.toList.map fun t => match Try.checked.prog.underlying t with | some (.int k) => some k | _ => none)) = true := by kernel_rfl
theorem closed_j29 : (Rows.fnExactModelClosedRow.pinned == Rows.fnExactModelClosedRow.pinnedBy) = true := by kernel_rfl
theorem closed_j30 : (Rows.fnExactModelClosedRow.veiled == (Try.f3.params.toList ++ Rows.fnExactModelClosedSpec.plain.varTypes Try.checked.prog ++ Try.f3.resultTypes.toList).any (Try.checked.prog.veiledRec ·)) = true := by kernel_rfl
theorem closed_j31 : Rows.fnExactModelClosedRow.veiledFits Try.checked.prog Try.f3.params.toList (Try.f3.params.toList ++ Rows.fnExactModelClosedSpec.plain.varTypes Try.checked.prog ++ Try.f3.resultTypes.toList) = true := by kernel_rfl
set_option maxRecDepth 100000 in
theorem closed_closed : joinedFacts Try.checked.prog n_l_FnExactModelClosed Try.f3 Rows.fnExactModelClosedSpec Rows.fnExactModelClosedRow = true := by
  unfold joinedFacts
  exact closed_band (closed_band (closed_band (closed_band (closed_band (closed_band (closed_band (closed_band (closed_band (closed_band (closed_band (closed_band (closed_band (closed_band (closed_band (closed_band (closed_band (closed_band (closed_band (closed_band (closed_band (closed_band (closed_band (closed_band (closed_band (closed_band (closed_band (closed_band (closed_band (closed_band (closed_band closed_j0 closed_j1) closed_j2) closed_j3) closed_j4) closed_j5) closed_j6) closed_j7) closed_j8) closed_j9) closed_j10) closed_j11) closed_j12) closed_j13) closed_j14) closed_j15) closed_j16) closed_j17) closed_j18) closed_j19) closed_j20) closed_j21) closed_j22) closed_j23) closed_j24) closed_j25) closed_j26) closed_j27) closed_j28) closed_j29) closed_j30) closed_j31
theorem closed_named : Try.checked.prog.funcNamed Rows.fnExactModelClosedRow.func = some n_l_FnExactModelClosed := by kernel_rfl
theorem closed_inst : Try.f3.isInstance Try.checked.prog Rows.fnExactModelClosedRow.origin Rows.fnExactModelClosedRow.targs := of_decide_eq_true (by kernel_rfl)
theorem closed_wrap : Try.f3.isWrapper Try.checked.prog Rows.fnExactModelClosedRow.wrapper Rows.fnExactModelClosedRow.mainSum := by unfold Func.isWrapper; first | (rw [if_pos (by decide +kernel)]; kernel_rfl) | (rw [if_neg (by decide +kernel)]; exact ⟨rfl, rfl⟩)
theorem closed_holds : Rows.FnExactModelClosedSaid :=
  OpenClaim.holds_of_wide n_l_FnExactModelClosed Try.f3 rfl rfl rfl rfl rfl rfl rfl ⟨rfl, rfl, rfl, rfl, rfl⟩ rfl rfl rfl rfl rfl closed_named Try.func3 closed_closed closed_inst closed_wrap
    (fun os started H enc _ => closed_lifted os started H enc)

#print axioms closed_holds
end Go.Proofs.Ytgdibnmabnimaaa
