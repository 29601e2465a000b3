/- FnExactResolvent returns true whatever clauses come in, and leaves them as they were. No condition. -/
import Derived.Test.YtaaihodhhacapaaZRs8
namespace Go.Proofs.Ytaaihodhhacapaa
open Go Go.ChangeShapes Go.WideShapes Go.ChangeAt Go.RowKit

theorem fields_lClause : Try.prog.underlying t_lClause = some (.struct (Try.prog.fieldsOf t_lClause)) := by kernel_rfl
set_option maxRecDepth 100000 in
theorem resol_lifted (os : Os) (started : os.Started) (H : Type) (enc : TypeId × Value → H) :
    ReturnsInHanded {} Try.checked os n_l_FnExactResolvent .any (Rows.fnExactResolventSpec.pre6 enc Try.prog Try.f3 Rows.fnExactResolventRow.domain false)
      (Rows.fnExactResolventSpec.post enc Try.prog Try.f3 false true false false) := by
  refine returnsInHanded_of_change (C := Try.checked) Try.own started (by kernel_rfl) Try.func3
    (ChangeSpec.witness6 (enc := enc) (C := Try.checked) false ⟨#[], #[.agg #[.int .i64 0, .int .i64 0, .string ⟨#[]⟩, .slice none 0 0, .slice none 0 0], .agg #[.int .i64 0, .int .i64 0, .string ⟨#[]⟩, .slice none 0 0, .slice none 0 0]], []⟩ 8 (by kernel_rfl) (by kernel_rfl) (by kernel_rfl) (by kernel_rfl)) ?_
  intro W base args ds gs before hval0 hW _ _
  have hval : ∀ (j : Nat) t v, Try.f3.params[j]? = some t → args[j]? = some v → Value.okWide Try.prog W .any base t v := hval0
  have hW' := hW
  obtain ⟨p, q, hA0, hV, hb, _, _⟩ := hW
  have hA : DataW.TrodAll enc Try.prog W 0 (fun _ => true) true Try.f3.params.toList args.toList ds p := hA0
  have hA1 := hA
  rw [Try.params3] at hA1 hval
  obtain ⟨v0, v1, d0, d1, p0, p1, rfl, rfl, _, h0, h1⟩ := trodAll_two hA1
  obtain ⟨n, hn⟩ := h0
  obtain ⟨m, hm⟩ := h1
  obtain ⟨cs, rfl, _⟩ := okWide_struct fields_lClause (hval 0 _ _ rfl rfl)
  obtain ⟨ds, rfl, _⟩ := okWide_struct fields_lClause (hval 1 _ _ rfl rfl)
  obtain ⟨c, hc⟩ := trod_clause (cs := cs.toList) hn
  obtain ⟨d, hd⟩ := trod_clause (cs := ds.toList) hm
  obtain rfl := (trodVars_none (show DataW.TrodVars enc Try.prog W (fun _ => true) [] gs q from hV)).1
  have hcall := lawResol_calls hc hd
  refine (hcall W (Inv.entry W)).mono fun e W' ⟨he, hI⟩ => ?_
  subst he
  exact ⟨_, rfl, post_true hW' hA hV hb rfl (by rw [Try.params3]; decide +kernel) (by kernel_rfl) rfl rfl rfl hI⟩

theorem resol_band {a b : Bool} (ha : a = true) (hb : b = true) : (a && b) = true := by rw [ha, hb]; rfl
theorem resol_j0 : Rows.fnExactResolventRow.wf (OpenSpec.ofChange Rows.fnExactResolventSpec) = true := by kernel_rfl
theorem resol_j1 : laidOutB Try.checked.prog = true := by kernel_rfl
theorem resol_j2 : mapsRowed Try.checked.prog = true := by kernel_rfl
theorem resol_j3 : Try.f3.params.all (Try.checked.prog.readableRec ·) = true := by kernel_rfl
theorem resol_j4 : namedTie Try.checked.prog Rows.fnExactResolventRow.named Rows.fnExactResolventSpec.vars = true := by kernel_rfl
theorem resol_j5 : (Rows.fnExactResolventRow.stops == []) = true := by kernel_rfl
theorem resol_j6 : (Try.checked.prog.stops == []) = true := by kernel_rfl
theorem resol_j7 : (Rows.fnExactResolventRow.knobs == []) = true := by kernel_rfl
theorem resol_j8 : (Try.checked.prog.stopKnobs == []) = true := by kernel_rfl
theorem resol_j9 : (Rows.fnExactResolventRow.inPlace == Try.checked.prog.inPlace n_l_FnExactResolvent) = true := by kernel_rfl
theorem resol_j10 : (Rows.fnExactResolventRow.unfollowed == Try.checked.prog.unfollowed n_l_FnExactResolvent) = true := by kernel_rfl
theorem resol_j11 : (Rows.fnExactResolventRow.recurses == Try.checked.prog.recurses n_l_FnExactResolvent) = true := by kernel_rfl
theorem resol_j12 : (Rows.fnExactResolventRow.named == Try.checked.prog.varsNamed n_l_FnExactResolvent) = true := by kernel_rfl
theorem resol_j13 : (Rows.fnExactResolventRow.maps == (Try.f3.params.toList ++ Rows.fnExactResolventSpec.plain.varTypes Try.checked.prog).any (Try.checked.prog.mapsRec ·)) = true := by kernel_rfl
theorem resol_j14 : (Rows.fnExactResolventRow.ifaces == (Try.f3.params.toList ++ Rows.fnExactResolventSpec.plain.varTypes Try.checked.prog).any (Try.checked.prog.ifacesRec ·)) = true := by kernel_rfl
theorem resol_j15 : (Rows.fnExactResolventRow.mapsOut == Try.checked.prog.mapsAmong Try.f3.resultTypes.toList) = true := by kernel_rfl
theorem resol_j16 : (Rows.fnExactResolventRow.loops == (Try.f3.params.toList ++ Rows.fnExactResolventSpec.plain.varTypes Try.checked.prog).any (Try.checked.prog.loopsFrom ·)) = true := by kernel_rfl
theorem resol_j17 : (Rows.fnExactResolventRow.wideKeys == (Try.f3.params.toList ++ Rows.fnExactResolventSpec.plain.varTypes Try.checked.prog ++ Try.f3.resultTypes.toList).any (Try.checked.prog.wideKeysFrom ·)) = true := by kernel_rfl
theorem resol_j18 : Rows.fnExactResolventSpec.vars.all (Try.checked.prog.varReadable ·) = true := by kernel_rfl
theorem resol_j19 : Try.f3.resultTypes.all (fun t => Try.checked.prog.readableRec t && decide (t < Try.checked.prog.types.size)) = true := by kernel_rfl
theorem resol_j20 : (Rows.fnExactResolventRow.ifacesOut == Try.f3.resultTypes.toList.any (Try.checked.prog.ifacesRec ·)) = true := by kernel_rfl
theorem resol_j21 : (Rows.fnExactResolventRow.loopsOut == Try.f3.resultTypes.toList.any (Try.checked.prog.loopsFrom ·)) = true := by kernel_rfl
theorem resol_j22 : (Rows.fnExactResolventRow.plainKeys == Try.checked.prog.plainKeys) = true := by kernel_rfl
theorem resol_j23 : Rows.fnExactResolventRow.shortTexts.isNone = true := by kernel_rfl
theorem resol_j24 : Try.checked.prog.stopsHeard = true := by kernel_rfl
theorem resol_j25 : Try.checked.prog.mayEnter = true := by kernel_rfl
theorem resol_j26 : (Rows.fnExactResolventRow.lifted == Try.checked.prog.liftsFinal) = true := by kernel_rfl
theorem resol_j27 : (Try.checked.prog.make == some Rows.fnExactResolventRow.make) = true := by kernel_rfl
theorem resol_j28 : (Rows.fnExactResolventRow.kinds == (if Rows.fnExactResolventRow.domain.isEmpty then [] else Try.f3.params.toList.map fun t => match Try.checked.prog.underlying t with | some (.int k) => some k | _ => none)) = true := by kernel_rfl
theorem resol_j29 : (Rows.fnExactResolventRow.pinned == Rows.fnExactResolventRow.pinnedBy) = true := by kernel_rfl
theorem resol_j30 : (Rows.fnExactResolventRow.veiled == (Try.f3.params.toList ++ Rows.fnExactResolventSpec.plain.varTypes Try.checked.prog ++ Try.f3.resultTypes.toList).any (Try.checked.prog.veiledRec ·)) = true := by kernel_rfl
theorem resol_j31 : Rows.fnExactResolventRow.veiledFits Try.checked.prog Try.f3.params.toList (Try.f3.params.toList ++ Rows.fnExactResolventSpec.plain.varTypes Try.checked.prog ++ Try.f3.resultTypes.toList) = true := by kernel_rfl
set_option maxRecDepth 100000 in
theorem resol_closed : joinedFacts Try.checked.prog n_l_FnExactResolvent Try.f3 Rows.fnExactResolventSpec Rows.fnExactResolventRow = true := by
  unfold joinedFacts
  exact resol_band (resol_band (resol_band (resol_band (resol_band (resol_band (resol_band (resol_band (resol_band (resol_band (resol_band (resol_band (resol_band (resol_band (resol_band (resol_band (resol_band (resol_band (resol_band (resol_band (resol_band (resol_band (resol_band (resol_band (resol_band (resol_band (resol_band (resol_band (resol_band (resol_band (resol_band resol_j0 resol_j1) resol_j2) resol_j3) resol_j4) resol_j5) resol_j6) resol_j7) resol_j8) resol_j9) resol_j10) resol_j11) resol_j12) resol_j13) resol_j14) resol_j15) resol_j16) resol_j17) resol_j18) resol_j19) resol_j20) resol_j21) resol_j22) resol_j23) resol_j24) resol_j25) resol_j26) resol_j27) resol_j28) resol_j29) resol_j30) resol_j31
theorem resol_named : Try.checked.prog.funcNamed Rows.fnExactResolventRow.func = some n_l_FnExactResolvent := by kernel_rfl
theorem resol_inst : Try.f3.isInstance Try.checked.prog Rows.fnExactResolventRow.origin Rows.fnExactResolventRow.targs := of_decide_eq_true (by kernel_rfl)
theorem resol_wrap : Try.f3.isWrapper Try.checked.prog Rows.fnExactResolventRow.wrapper Rows.fnExactResolventRow.mainSum := by unfold Func.isWrapper; first | (rw [if_pos (by decide +kernel)]; kernel_rfl) | (rw [if_neg (by decide +kernel)]; exact ⟨rfl, rfl⟩)
theorem resol_holds : Rows.FnExactResolventSaid :=
  OpenClaim.holds_of_wide n_l_FnExactResolvent Try.f3 rfl rfl rfl rfl rfl rfl rfl ⟨rfl, rfl, rfl, rfl, rfl⟩ rfl rfl rfl rfl rfl resol_named Try.func3 resol_closed resol_inst resol_wrap
    (fun os started H enc _ => resol_lifted os started H enc)

#print axioms resol_holds
end Go.Proofs.Ytaaihodhhacapaa
