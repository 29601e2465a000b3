/- FnExactSliceProgram returns true whatever program and query come in, and leaves them as they were. No condition. -/
import Derived.Test.YtnoieadimkgjcaaLawSlice
import Derived.Test.YtnoieadimkgjcaaClose
namespace Go.Proofs.Ytnoieadimkgjcaa
open Go Go.ChangeShapes Go.WideShapes Go.ChangeAt Go.RowKit

set_option maxRecDepth 100000 in
theorem slice_lifted (os : Os) (started : os.Started) (H : Type) (enc : TypeId × Value → H) :
    ReturnsInHanded {} Try.checked os n_l_FnExactSliceProgram .any (Rows.fnExactSliceProgramSpec.pre6 enc Try.prog Try.f14 Rows.fnExactSliceProgramRow.domain false)
      (Rows.fnExactSliceProgramSpec.post enc Try.prog Try.f14 false true false false) := by
  refine returnsInHanded_of_change (C := Try.checked) Try.own started (by kernel_rfl) Try.func14
    (ChangeSpec.witness6 (enc := enc) (C := Try.checked) false ⟨#[], #[.slice none 0 0, .slice none 0 0], []⟩ 8 (by kernel_rfl) (by kernel_rfl) (by kernel_rfl) (by kernel_rfl)) ?_
  intro W base args ds gs before hval0 hW _ _
  have hval : ∀ (j : Nat) t v, Try.f14.params[j]? = some t → args[j]? = some v → Value.okWide Try.prog W .any base t v := hval0
  have hW' := hW
  obtain ⟨p, q, hA0, hV, hb, _, _⟩ := hW
  have hA : DataW.TrodAll enc Try.prog W 0 (fun _ => true) true Try.f14.params.toList args.toList ds p := hA0
  have hA1 := hA
  rw [Try.params14] at hA1 hval
  obtain ⟨v0, v1, d0, d1, p0, p1, rfl, rfl, _, h0, h1⟩ := trodAll_two hA1
  obtain ⟨n, hn⟩ := h0
  obtain ⟨m, hm⟩ := h1
  obtain ⟨a2, len2, cap2, rfl⟩ := okWide_slice (slice_parts sl_SlTerm).1 (hval 1 _ _ rfl rfl)
  obtain ⟨ys, hys⟩ := trod_terms hm
  obtain rfl := (trodVars_none (show DataW.TrodVars enc Try.prog W (fun _ => true) [] gs q from hV)).1
  obtain ⟨a, len, cap, rfl⟩ := okWide_slice (slice_parts sl_SlClause).1 (hval 0 _ _ rfl rfl)
  obtain ⟨xs, hxs⟩ := trod_clauses hn
  refine (lawSlice_calls hxs hys W (Inv.entry W)).mono fun e W' ⟨he, hI⟩ => ?_
  subst he
  exact ⟨_, rfl, post_true hW' hA hV hb rfl (by rw [Try.params14]; decide +kernel) (by kernel_rfl) rfl rfl rfl hI⟩

theorem slice_band {a b : Bool} (ha : a = true) (hb : b = true) : (a && b) = true := by rw [ha, hb]; rfl
theorem slice_j0 : Rows.fnExactSliceProgramRow.wf (OpenSpec.ofChange Rows.fnExactSliceProgramSpec) = true := by kernel_rfl
theorem slice_j1 : laidOutB Try.checked.prog = true := by kernel_rfl
theorem slice_j2 : mapsRowed Try.checked.prog = true := by kernel_rfl
theorem slice_j3 : Try.f14.params.all (Try.checked.prog.readableRec ·) = true := by kernel_rfl
theorem slice_j4 : namedTie Try.checked.prog Rows.fnExactSliceProgramRow.named Rows.fnExactSliceProgramSpec.vars = true := by kernel_rfl
theorem slice_j5 : (Rows.fnExactSliceProgramRow.stops == []) = true := by kernel_rfl
theorem slice_j6 : (Try.checked.prog.stops == []) = true := by kernel_rfl
theorem slice_j7 : (Rows.fnExactSliceProgramRow.knobs == []) = true := by kernel_rfl
theorem slice_j8 : (Try.checked.prog.stopKnobs == []) = true := by kernel_rfl
theorem slice_j9 : (Rows.fnExactSliceProgramRow.inPlace == Try.checked.prog.inPlace n_l_FnExactSliceProgram) = true := by kernel_rfl
theorem slice_j10 : (Rows.fnExactSliceProgramRow.unfollowed == Try.checked.prog.unfollowed n_l_FnExactSliceProgram) = true := by kernel_rfl
theorem slice_j11 : (Rows.fnExactSliceProgramRow.recurses == Try.checked.prog.recurses n_l_FnExactSliceProgram) = true := by kernel_rfl
theorem slice_j12 : (Rows.fnExactSliceProgramRow.named == Try.checked.prog.varsNamed n_l_FnExactSliceProgram) = true := by kernel_rfl
theorem slice_j13 : (Rows.fnExactSliceProgramRow.maps == (Try.f14.params.toList ++ Rows.fnExactSliceProgramSpec.plain.varTypes Try.checked.prog).any (Try.checked.prog.mapsRec ·)) = true := by kernel_rfl
theorem slice_j14 : (Rows.fnExactSliceProgramRow.ifaces == (Try.f14.params.toList ++ Rows.fnExactSliceProgramSpec.plain.varTypes Try.checked.prog).any (Try.checked.prog.ifacesRec ·)) = true := by kernel_rfl
theorem slice_j15 : (Rows.fnExactSliceProgramRow.mapsOut == Try.checked.prog.mapsAmong Try.f14.resultTypes.toList) = true := by kernel_rfl
theorem slice_j16 : (Rows.fnExactSliceProgramRow.loops == (Try.f14.params.toList ++ Rows.fnExactSliceProgramSpec.plain.varTypes Try.checked.prog).any (Try.checked.prog.loopsFrom ·)) = true := by kernel_rfl
theorem slice_j17 : (Rows.fnExactSliceProgramRow.wideKeys == (Try.f14.params.toList ++ Rows.fnExactSliceProgramSpec.plain.varTypes Try.checked.prog ++ Try.f14.resultTypes.toList).any (Try.checked.prog.wideKeysFrom ·)) = true := by kernel_rfl
theorem slice_j18 : Rows.fnExactSliceProgramSpec.vars.all (Try.checked.prog.varReadable ·) = true := by kernel_rfl
theorem slice_j19 : Try.f14.resultTypes.all (fun t => Try.checked.prog.readableRec t && decide (t < Try.checked.prog.types.size)) = true := by kernel_rfl
theorem slice_j20 : (Rows.fnExactSliceProgramRow.ifacesOut == Try.f14.resultTypes.toList.any (Try.checked.prog.ifacesRec ·)) = true := by kernel_rfl
theorem slice_j21 : (Rows.fnExactSliceProgramRow.loopsOut == Try.f14.resultTypes.toList.any (Try.checked.prog.loopsFrom ·)) = true := by kernel_rfl
theorem slice_j22 : (Rows.fnExactSliceProgramRow.plainKeys == Try.checked.prog.plainKeys) = true := by kernel_rfl
theorem slice_j23 : Rows.fnExactSliceProgramRow.shortTexts.isNone = true := by kernel_rfl
theorem slice_j24 : Try.checked.prog.stopsHeard = true := by kernel_rfl
theorem slice_j25 : Try.checked.prog.mayEnter = true := by kernel_rfl
theorem slice_j26 : (Rows.fnExactSliceProgramRow.lifted == Try.checked.prog.liftsFinal) = true := by kernel_rfl
theorem slice_j27 : (Try.checked.prog.make == some Rows.fnExactSliceProgramRow.make) = true := by kernel_rfl
theorem slice_j28 : (Rows.fnExactSliceProgramRow.kinds == (if Rows.fnExactSliceProgramRow.domain.isEmpty then [] else Try.f14.params.toList.map fun t => match Try.checked.prog.underlying t with | some (.int k) => some k | _ => none)) = true := by kernel_rfl
theorem slice_j29 : (Rows.fnExactSliceProgramRow.pinned == Rows.fnExactSliceProgramRow.pinnedBy) = true := by kernel_rfl
theorem slice_j30 : (Rows.fnExactSliceProgramRow.veiled == (Try.f14.params.toList ++ Rows.fnExactSliceProgramSpec.plain.varTypes Try.checked.prog ++ Try.f14.resultTypes.toList).any (Try.checked.prog.veiledRec ·)) = true := by kernel_rfl
theorem slice_j31 : Rows.fnExactSliceProgramRow.veiledFits Try.checked.prog Try.f14.params.toList (Try.f14.params.toList ++ Rows.fnExactSliceProgramSpec.plain.varTypes Try.checked.prog ++ Try.f14.resultTypes.toList) = true := by kernel_rfl
set_option maxRecDepth 100000 in
theorem slice_closed : joinedFacts Try.checked.prog n_l_FnExactSliceProgram Try.f14 Rows.fnExactSliceProgramSpec Rows.fnExactSliceProgramRow = true := by
  unfold joinedFacts
  exact slice_band (slice_band (slice_band (slice_band (slice_band (slice_band (slice_band (slice_band (slice_band (slice_band (slice_band (slice_band (slice_band (slice_band (slice_band (slice_band (slice_band (slice_band (slice_band (slice_band (slice_band (slice_band (slice_band (slice_band (slice_band (slice_band (slice_band (slice_band (slice_band (slice_band (slice_band slice_j0 slice_j1) slice_j2) slice_j3) slice_j4) slice_j5) slice_j6) slice_j7) slice_j8) slice_j9) slice_j10) slice_j11) slice_j12) slice_j13) slice_j14) slice_j15) slice_j16) slice_j17) slice_j18) slice_j19) slice_j20) slice_j21) slice_j22) slice_j23) slice_j24) slice_j25) slice_j26) slice_j27) slice_j28) slice_j29) slice_j30) slice_j31
theorem slice_named : Try.checked.prog.funcNamed Rows.fnExactSliceProgramRow.func = some n_l_FnExactSliceProgram := by kernel_rfl
theorem slice_inst : Try.f14.isInstance Try.checked.prog Rows.fnExactSliceProgramRow.origin Rows.fnExactSliceProgramRow.targs := of_decide_eq_true (by kernel_rfl)
theorem slice_wrap : Try.f14.isWrapper Try.checked.prog Rows.fnExactSliceProgramRow.wrapper Rows.fnExactSliceProgramRow.mainSum := by unfold Func.isWrapper; first | (rw [if_pos (by decide +kernel)]; kernel_rfl) | (rw [if_neg (by decide +kernel)]; exact ⟨rfl, rfl⟩)
theorem slice_holds : Rows.FnExactSliceProgramSaid :=
  OpenClaim.holds_of_wide n_l_FnExactSliceProgram Try.f14 rfl rfl rfl rfl rfl rfl rfl ⟨rfl, rfl, rfl, rfl, rfl⟩ rfl rfl rfl rfl rfl slice_named Try.func14 slice_closed slice_inst slice_wrap
    (fun os started H enc _ => slice_lifted os started H enc)

#print axioms slice_holds
end Go.Proofs.Ytnoieadimkgjcaa
