/- FnExactFactsFor returns true whatever facts and goal come in, and leaves them as they were. No condition. -/
import Derived.Test.YtnoieadimkgjcaaLawFacts
import Derived.Test.YtnoieadimkgjcaaClose
namespace Go.Proofs.Ytnoieadimkgjcaa
open Go Go.ChangeShapes Go.WideShapes Go.ChangeAt Go.RowKit

theorem fields_lTerm : Try.prog.underlying t_lTerm = some (.struct (Try.prog.fieldsOf t_lTerm)) := by kernel_rfl
set_option maxRecDepth 100000 in
theorem facts_lifted (os : Os) (started : os.Started) (H : Type) (enc : TypeId × Value → H) :
    ReturnsInHanded {} Try.checked os n_l_FnExactFactsFor .any (Rows.fnExactFactsForSpec.pre6 enc Try.prog Try.f3 Rows.fnExactFactsForRow.domain false)
      (Rows.fnExactFactsForSpec.post enc Try.prog Try.f3 false true false false) := by
  refine returnsInHanded_of_change (C := Try.checked) Try.own started (by kernel_rfl) Try.func3
    (ChangeSpec.witness6 (enc := enc) (C := Try.checked) false ⟨#[], #[.slice none 0 0, .agg #[.int .i64 0, .int .i64 0, .string ⟨#[]⟩, .slice none 0 0]], []⟩ 8 (by kernel_rfl) (by kernel_rfl) (by kernel_rfl) (by kernel_rfl)) ?_
  intro W base args ds gs before hval0 hW _ _
  have hval : ∀ (j : Nat) t v, Try.f3.params[j]? = some t → args[j]? = some v → Value.okWide Try.prog W .any base t v := hval0
  have hW' := hW
  obtain ⟨p, q, hA0, hV, hb, _, _⟩ := hW
  have hA : DataW.TrodAll enc Try.prog W 0 (fun _ => true) true Try.f3.params.toList args.toList ds p := hA0
  have hA1 := hA
  rw [Try.params3] at hA1 hval
  obtain ⟨v0, v1, d0, d1, p0, p1, rfl, rfl, _, h0, h1⟩ := trodAll_two hA1
  obtain ⟨n, hn⟩ := h0
  obtain ⟨m, hm⟩ := h1
  obtain ⟨cs, rfl, _⟩ := okWide_struct fields_lTerm (hval 1 _ _ rfl rfl)
  obtain ⟨a, len, cap, rfl⟩ := okWide_slice (slice_parts sl_SlTerm).1 (hval 0 _ _ rfl rfl)
  obtain ⟨g, hg⟩ := trod_term _ cs.toList _ hm
  obtain ⟨l, hl⟩ := trod_terms hn
  obtain rfl := (trodVars_none (show DataW.TrodVars enc Try.prog W (fun _ => true) [] gs q from hV)).1
  have hcall := lawFacts_calls hl hg
  refine (hcall W (Inv.entry W)).mono fun e W' ⟨he, hI⟩ => ?_
  subst he
  exact ⟨_, rfl, post_true hW' hA hV hb rfl (by rw [Try.params3]; decide +kernel) (by kernel_rfl) rfl rfl rfl hI⟩

theorem facts_band {a b : Bool} (ha : a = true) (hb : b = true) : (a && b) = true := by rw [ha, hb]; rfl
theorem facts_j0 : Rows.fnExactFactsForRow.wf (OpenSpec.ofChange Rows.fnExactFactsForSpec) = true := by kernel_rfl
theorem facts_j1 : laidOutB Try.checked.prog = true := by kernel_rfl
theorem facts_j2 : mapsRowed Try.checked.prog = true := by kernel_rfl
theorem facts_j3 : Try.f3.params.all (Try.checked.prog.readableRec ·) = true := by kernel_rfl
theorem facts_j4 : namedTie Try.checked.prog Rows.fnExactFactsForRow.named Rows.fnExactFactsForSpec.vars = true := by kernel_rfl
theorem facts_j5 : (Rows.fnExactFactsForRow.stops == []) = true := by kernel_rfl
theorem facts_j6 : (Try.checked.prog.stops == []) = true := by kernel_rfl
theorem facts_j7 : (Rows.fnExactFactsForRow.knobs == []) = true := by kernel_rfl
theorem facts_j8 : (Try.checked.prog.stopKnobs == []) = true := by kernel_rfl
theorem facts_j9 : (Rows.fnExactFactsForRow.inPlace == Try.checked.prog.inPlace n_l_FnExactFactsFor) = true := by kernel_rfl
theorem facts_j10 : (Rows.fnExactFactsForRow.unfollowed == Try.checked.prog.unfollowed n_l_FnExactFactsFor) = true := by kernel_rfl
theorem facts_j11 : (Rows.fnExactFactsForRow.recurses == Try.checked.prog.recurses n_l_FnExactFactsFor) = true := by kernel_rfl
theorem facts_j12 : (Rows.fnExactFactsForRow.named == Try.checked.prog.varsNamed n_l_FnExactFactsFor) = true := by kernel_rfl
theorem facts_j13 : (Rows.fnExactFactsForRow.maps == (Try.f3.params.toList ++ Rows.fnExactFactsForSpec.plain.varTypes Try.checked.prog).any (Try.checked.prog.mapsRec ·)) = true := by kernel_rfl
theorem facts_j14 : (Rows.fnExactFactsForRow.ifaces == (Try.f3.params.toList ++ Rows.fnExactFactsForSpec.plain.varTypes Try.checked.prog).any (Try.checked.prog.ifacesRec ·)) = true := by kernel_rfl
theorem facts_j15 : (Rows.fnExactFactsForRow.mapsOut == Try.checked.prog.mapsAmong Try.f3.resultTypes.toList) = true := by kernel_rfl
theorem facts_j16 : (Rows.fnExactFactsForRow.loops == (Try.f3.params.toList ++ Rows.fnExactFactsForSpec.plain.varTypes Try.checked.prog).any (Try.checked.prog.loopsFrom ·)) = true := by kernel_rfl
theorem facts_j17 : (Rows.fnExactFactsForRow.wideKeys == (Try.f3.params.toList ++ Rows.fnExactFactsForSpec.plain.varTypes Try.checked.prog ++ Try.f3.resultTypes.toList).any (Try.checked.prog.wideKeysFrom ·)) = true := by kernel_rfl
theorem facts_j18 : Rows.fnExactFactsForSpec.vars.all (Try.checked.prog.varReadable ·) = true := by kernel_rfl
theorem facts_j19 : Try.f3.resultTypes.all (fun t => Try.checked.prog.readableRec t && decide (t < Try.checked.prog.types.size)) = true := by kernel_rfl
theorem facts_j20 : (Rows.fnExactFactsForRow.ifacesOut == Try.f3.resultTypes.toList.any (Try.checked.prog.ifacesRec ·)) = true := by kernel_rfl
theorem facts_j21 : (Rows.fnExactFactsForRow.loopsOut == Try.f3.resultTypes.toList.any (Try.checked.prog.loopsFrom ·)) = true := by kernel_rfl
theorem facts_j22 : (Rows.fnExactFactsForRow.plainKeys == Try.checked.prog.plainKeys) = true := by kernel_rfl
theorem facts_j23 : Rows.fnExactFactsForRow.shortTexts.isNone = true := by kernel_rfl
theorem facts_j24 : Try.checked.prog.stopsHeard = true := by kernel_rfl
theorem facts_j25 : Try.checked.prog.mayEnter = true := by kernel_rfl
theorem facts_j26 : (Rows.fnExactFactsForRow.lifted == Try.checked.prog.liftsFinal) = true := by kernel_rfl
theorem facts_j27 : (Try.checked.prog.make == some Rows.fnExactFactsForRow.make) = true := by kernel_rfl
theorem facts_j28 : (Rows.fnExactFactsForRow.kinds == (if Rows.fnExactFactsForRow.domain.isEmpty then [] else Try.f3.params.toList.map fun t => match Try.checked.prog.underlying t with | some (.int k) => some k | _ => none)) = true := by kernel_rfl
theorem facts_j29 : (Rows.fnExactFactsForRow.pinned == Rows.fnExactFactsForRow.pinnedBy) = true := by kernel_rfl
theorem facts_j30 : (Rows.fnExactFactsForRow.veiled == (Try.f3.params.toList ++ Rows.fnExactFactsForSpec.plain.varTypes Try.checked.prog ++ Try.f3.resultTypes.toList).any (Try.checked.prog.veiledRec ·)) = true := by kernel_rfl
theorem facts_j31 : Rows.fnExactFactsForRow.veiledFits Try.checked.prog Try.f3.params.toList (Try.f3.params.toList ++ Rows.fnExactFactsForSpec.plain.varTypes Try.checked.prog ++ Try.f3.resultTypes.toList) = true := by kernel_rfl
set_option maxRecDepth 100000 in
theorem facts_closed : joinedFacts Try.checked.prog n_l_FnExactFactsFor Try.f3 Rows.fnExactFactsForSpec Rows.fnExactFactsForRow = true := by
  unfold joinedFacts
  exact facts_band (facts_band (facts_band (facts_band (facts_band (facts_band (facts_band (facts_band (facts_band (facts_band (facts_band (facts_band (facts_band (facts_band (facts_band (facts_band (facts_band (facts_band (facts_band (facts_band (facts_band (facts_band (facts_band (facts_band (facts_band (facts_band (facts_band (facts_band (facts_band (facts_band (facts_band facts_j0 facts_j1) facts_j2) facts_j3) facts_j4) facts_j5) facts_j6) facts_j7) facts_j8) facts_j9) facts_j10) facts_j11) facts_j12) facts_j13) facts_j14) facts_j15) facts_j16) facts_j17) facts_j18) facts_j19) facts_j20) facts_j21) facts_j22) facts_j23) facts_j24) facts_j25) facts_j26) facts_j27) facts_j28) facts_j29) facts_j30) facts_j31
theorem facts_named : Try.checked.prog.funcNamed Rows.fnExactFactsForRow.func = some n_l_FnExactFactsFor := by kernel_rfl
theorem facts_inst : Try.f3.isInstance Try.checked.prog Rows.fnExactFactsForRow.origin Rows.fnExactFactsForRow.targs := of_decide_eq_true (by kernel_rfl)
theorem facts_wrap : Try.f3.isWrapper Try.checked.prog Rows.fnExactFactsForRow.wrapper Rows.fnExactFactsForRow.mainSum := by unfold Func.isWrapper; first | (rw [if_pos (by decide +kernel)]; kernel_rfl) | (rw [if_neg (by decide +kernel)]; exact ⟨rfl, rfl⟩)
theorem facts_holds : Rows.FnExactFactsForSaid :=
  OpenClaim.holds_of_wide n_l_FnExactFactsFor Try.f3 rfl rfl rfl rfl rfl rfl rfl ⟨rfl, rfl, rfl, rfl, rfl⟩ rfl rfl rfl rfl rfl facts_named Try.func3 facts_closed facts_inst facts_wrap
    (fun os started H enc _ => facts_lifted os started H enc)

#print axioms facts_holds
end Go.Proofs.Ytnoieadimkgjcaa
