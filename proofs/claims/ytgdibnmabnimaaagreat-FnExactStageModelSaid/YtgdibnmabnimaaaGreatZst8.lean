/- FnExactStageModel returns true whatever program and number of rounds come in, and leaves them as they were. No condition. -/
import Derived.Test.YtgdibnmabnimaaaGreatZst7
namespace Go.Proofs.YtgdibnmabnimaaaGreat
open Go Go.ChangeShapes Go.WideShapes Go.ChangeAt Go.RowKit

set_option maxRecDepth 100000 in
theorem stage_lifted (os : Os) (started : os.Started) (H : Type) (enc : TypeId × Value → H) :
    ReturnsInHanded {} Tryz.checked os n_l_FnExactStageModel .any (Rows.fnExactStageModelSpec.pre6 enc Tryz.prog Tryz.f4 Rows.fnExactStageModelRow.domain false)
      (Rows.fnExactStageModelSpec.post enc Tryz.prog Tryz.f4 false true false false) := by
  refine returnsInHanded_of_change (C := Tryz.checked) Tryz.own started (by kernel_rfl) Tryz.func4
    (ChangeSpec.witness6 (enc := enc) (C := Tryz.checked) false ⟨#[], #[.slice none 0 0, .int .i64 0], []⟩ 8 (by kernel_rfl) (by kernel_rfl) (by kernel_rfl) (by kernel_rfl)) ?_
  intro W base args ds gs before hval0 hW _ _
  have hval : ∀ (j : Nat) t v, Tryz.f4.params[j]? = some t → args[j]? = some v → Value.okWide Tryz.prog W .any base t v := hval0
  have hW' := hW
  obtain ⟨p, q, hA0, hV, hb, _, _⟩ := hW
  have hA : DataW.TrodAll enc Tryz.prog W 0 (fun _ => true) true Tryz.f4.params.toList args.toList ds p := hA0
  have hA1 := hA
  rw [Tryz.params4] at hA1 hval
  obtain ⟨v0, v1, d0, d1, p0, p1, rfl, rfl, _, h0, h1⟩ := trodAll_two hA1
  obtain ⟨n, hn⟩ := h0
  obtain ⟨i, rfl, hir⟩ := open_int un_int (hval 1 _ _ rfl rfl) h1
  obtain rfl := (trodVars_none (show DataW.TrodVars enc Tryz.prog W (fun _ => true) [] gs q from hV)).1
  obtain ⟨a, len, cap, rfl⟩ := okWide_slice (slice_parts sl_SlClause).1 (hval 0 _ _ rfl rfl)
  obtain ⟨xs, hxs⟩ := trod_clauses hn
  refine (lawStage_calls i (wf_i64 hir.2.2) hxs W (Inv.entry W)).mono fun e W' ⟨he, hI⟩ => ?_
  subst he
  exact ⟨_, rfl, post_true hW' hA hV hb rfl (by rw [Tryz.params4]; decide +kernel) (by kernel_rfl) rfl rfl rfl hI⟩

theorem stage_band {a b : Bool} (ha : a = true) (hb : b = true) : (a && b) = true := by rw [ha, hb]; rfl
theorem stage_j0 : Rows.fnExactStageModelRow.wf (OpenSpec.ofChange Rows.fnExactStageModelSpec) = true := by kernel_rfl
theorem stage_j1 : laidOutB Tryz.checked.prog = true := by kernel_rfl
theorem stage_j2 : mapsRowed Tryz.checked.prog = true := by kernel_rfl
theorem stage_j3 : Tryz.f4.params.all (Tryz.checked.prog.readableRec ·) = true := by kernel_rfl
theorem stage_j4 : namedTie Tryz.checked.prog Rows.fnExactStageModelRow.named Rows.fnExactStageModelSpec.vars = true := by kernel_rfl
theorem stage_j5 : (Rows.fnExactStageModelRow.stops == []) = true := by kernel_rfl
theorem stage_j6 : (Tryz.checked.prog.stops == []) = true := by kernel_rfl
theorem stage_j7 : (Rows.fnExactStageModelRow.knobs == []) = true := by kernel_rfl
theorem stage_j8 : (Tryz.checked.prog.stopKnobs == []) = true := by kernel_rfl
theorem stage_j9 : (Rows.fnExactStageModelRow.inPlace == Tryz.checked.prog.inPlace n_l_FnExactStageModel) = true := by kernel_rfl
theorem stage_j10 : (Rows.fnExactStageModelRow.unfollowed == Tryz.checked.prog.unfollowed n_l_FnExactStageModel) = true := by kernel_rfl
theorem stage_j11 : (Rows.fnExactStageModelRow.recurses == Tryz.checked.prog.recurses n_l_FnExactStageModel) = true := by kernel_rfl
theorem stage_j12 : (Rows.fnExactStageModelRow.named == Tryz.checked.prog.varsNamed n_l_FnExactStageModel) = true := by kernel_rfl
theorem stage_j13 : (Rows.fnExactStageModelRow.maps == (Tryz.f4.params.toList ++ Rows.fnExactStageModelSpec.plain.varTypes Tryz.checked.prog).any (Tryz.checked.prog.mapsRec ·)) = true := by kernel_rfl
theorem stage_j14 : (Rows.fnExactStageModelRow.ifaces == (Tryz.f4.params.toList ++ Rows.fnExactStageModelSpec.plain.varTypes Tryz.checked.prog).any (Tryz.checked.prog.ifacesRec ·)) = true := by kernel_rfl
theorem stage_j15 : (Rows.fnExactStageModelRow.mapsOut == Tryz.checked.prog.mapsAmong Tryz.f4.resultTypes.toList) = true := by kernel_rfl
theorem stage_j16 : (Rows.fnExactStageModelRow.loops == (Tryz.f4.params.toList ++ Rows.fnExactStageModelSpec.plain.varTypes Tryz.checked.prog).any (Tryz.checked.prog.loopsFrom ·)) = true := by kernel_rfl
theorem stage_j17 : (Rows.fnExactStageModelRow.wideKeys == (Tryz.f4.params.toList ++ Rows.fnExactStageModelSpec.plain.varTypes Tryz.checked.prog ++ Tryz.f4.resultTypes.toList).any (Tryz.checked.prog.wideKeysFrom ·)) = true := by kernel_rfl
theorem stage_j18 : Rows.fnExactStageModelSpec.vars.all (Tryz.checked.prog.varReadable ·) = true := by kernel_rfl
theorem stage_j19 : Tryz.f4.resultTypes.all (fun t => Tryz.checked.prog.readableRec t && decide (t < Tryz.checked.prog.types.size)) = true := by kernel_rfl
theorem stage_j20 : (Rows.fnExactStageModelRow.ifacesOut == Tryz.f4.resultTypes.toList.any (Tryz.checked.prog.ifacesRec ·)) = true := by kernel_rfl
theorem stage_j21 : (Rows.fnExactStageModelRow.loopsOut == Tryz.f4.resultTypes.toList.any (Tryz.checked.prog.loopsFrom ·)) = true := by kernel_rfl
theorem stage_j22 : (Rows.fnExactStageModelRow.plainKeys == Tryz.checked.prog.plainKeys) = true := by kernel_rfl
theorem stage_j23 : Rows.fnExactStageModelRow.shortTexts.isNone = true := by kernel_rfl
theorem stage_j24 : Tryz.checked.prog.stopsHeard = true := by kernel_rfl
theorem stage_j25 : Tryz.checked.prog.mayEnter = true := by kernel_rfl
theorem stage_j26 : (Rows.fnExactStageModelRow.lifted == Tryz.checked.prog.liftsFinal) = true := by kernel_rfl
theorem stage_j27 : (Tryz.checked.prog.make == some Rows.fnExactStageModelRow.make) = true := by kernel_rfl
theorem stage_j28 : (Rows.fnExactStageModelRow.kinds == (if Rows.fnExactStageModelRow.domain.isEmpty then [] else Tryz.f4.params.toList.map fun t => match Tryz.checked.prog.underlying t with | some (.int k) => some k | _ => none)) = true := by kernel_rfl
theorem stage_j29 : (Rows.fnExactStageModelRow.pinned == Rows.fnExactStageModelRow.pinnedBy) = true := by kernel_rfl
theorem stage_j30 : (Rows.fnExactStageModelRow.veiled == (Tryz.f4.params.toList ++ Rows.fnExactStageModelSpec.plain.varTypes Tryz.checked.prog ++ Tryz.f4.resultTypes.toList).any (Tryz.checked.prog.veiledRec ·)) = true := by kernel_rfl
theorem stage_j31 : Rows.fnExactStageModelRow.veiledFits Tryz.checked.prog Tryz.f4.params.toList (Tryz.f4.params.toList ++ Rows.fnExactStageModelSpec.plain.varTypes Tryz.checked.prog ++ Tryz.f4.resultTypes.toList) = true := by kernel_rfl
set_option maxRecDepth 100000 in
theorem stage_closed : joinedFacts Tryz.checked.prog n_l_FnExactStageModel Tryz.f4 Rows.fnExactStageModelSpec Rows.fnExactStageModelRow = true := by
  unfold joinedFacts
  exact stage_band (stage_band (stage_band (stage_band (stage_band (stage_band (stage_band (stage_band (stage_band (stage_band (stage_band (stage_band (stage_band (stage_band (stage_band (stage_band (stage_band (stage_band (stage_band (stage_band (stage_band (stage_band (stage_band (stage_band (stage_band (stage_band (stage_band (stage_band (stage_band (stage_band (stage_band stage_j0 stage_j1) stage_j2) stage_j3) stage_j4) stage_j5) stage_j6) stage_j7) stage_j8) stage_j9) stage_j10) stage_j11) stage_j12) stage_j13) stage_j14) stage_j15) stage_j16) stage_j17) stage_j18) stage_j19) stage_j20) stage_j21) stage_j22) stage_j23) stage_j24) stage_j25) stage_j26) stage_j27) stage_j28) stage_j29) stage_j30) stage_j31
theorem stage_named : Tryz.checked.prog.funcNamed Rows.fnExactStageModelRow.func = some n_l_FnExactStageModel := by kernel_rfl
theorem stage_inst : Tryz.f4.isInstance Tryz.checked.prog Rows.fnExactStageModelRow.origin Rows.fnExactStageModelRow.targs := of_decide_eq_true (by kernel_rfl)
theorem stage_wrap : Tryz.f4.isWrapper Tryz.checked.prog Rows.fnExactStageModelRow.wrapper Rows.fnExactStageModelRow.mainSum := by unfold Func.isWrapper; first | (rw [if_pos (by decide +kernel)]; kernel_rfl) | (rw [if_neg (by decide +kernel)]; exact ⟨rfl, rfl⟩)
theorem stage_holds : Rows.FnExactStageModelSaid :=
  OpenClaim.holds_of_wide n_l_FnExactStageModel Tryz.f4 rfl rfl rfl rfl rfl rfl rfl ⟨rfl, rfl, rfl, rfl, rfl⟩ rfl rfl rfl rfl rfl stage_named Tryz.func4 stage_closed stage_inst stage_wrap
    (fun os started H enc _ => stage_lifted os started H enc)

#print axioms stage_holds
end Go.Proofs.YtgdibnmabnimaaaGreat
