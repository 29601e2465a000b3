/- FnExactLeastModel returns true whatever program comes in, and leaves them as they were. No condition. -/
import Derived.Test.YtgdibnmabnimaaaGreatZle7
namespace Go.Proofs.YtgdibnmabnimaaaGreat
open Go Go.ChangeShapes Go.WideShapes Go.ChangeAt Go.RowKit

set_option maxRecDepth 100000 in
theorem least_lifted (os : Os) (started : os.Started) (H : Type) (enc : TypeId × Value → H) :
    ReturnsInHanded {} Tryz.checked os n_l_FnExactLeastModel .any (Rows.fnExactLeastModelSpec.pre6 enc Tryz.prog Tryz.f5 Rows.fnExactLeastModelRow.domain false)
      (Rows.fnExactLeastModelSpec.post enc Tryz.prog Tryz.f5 false true false false) := by
  refine returnsInHanded_of_change (C := Tryz.checked) Tryz.own started (by kernel_rfl) Tryz.func5
    (ChangeSpec.witness6 (enc := enc) (C := Tryz.checked) false ⟨#[], #[.slice none 0 0], []⟩ 8 (by kernel_rfl) (by kernel_rfl) (by kernel_rfl) (by kernel_rfl)) ?_
  intro W base args ds gs before hval0 hW _ _
  have hval : ∀ (j : Nat) t v, Tryz.f5.params[j]? = some t → args[j]? = some v → Value.okWide Tryz.prog W .any base t v := hval0
  have hW' := hW
  obtain ⟨p, q, hA0, hV, hb, _, _⟩ := hW
  have hA : DataW.TrodAll enc Tryz.prog W 0 (fun _ => true) true Tryz.f5.params.toList args.toList ds p := hA0
  have hA1 := hA
  rw [Tryz.params5] at hA1 hval
  obtain ⟨v0, d0, rfl, rfl, h0⟩ := trodAll_one hA1
  obtain ⟨n, hn⟩ := h0
  obtain rfl := (trodVars_none (show DataW.TrodVars enc Tryz.prog W (fun _ => true) [] gs q from hV)).1
  obtain ⟨a, len, cap, rfl⟩ := okWide_slice (slice_parts sl_SlClause).1 (hval 0 _ _ rfl rfl)
  obtain ⟨xs, hxs⟩ := trod_clauses hn
  refine (lawLeast_calls hxs W (Inv.entry W)).mono fun e W' ⟨he, hI⟩ => ?_
  subst he
  exact ⟨_, rfl, post_true hW' hA hV hb rfl (by rw [Tryz.params5]; decide +kernel) (by kernel_rfl) rfl rfl rfl hI⟩

theorem least_band {a b : Bool} (ha : a = true) (hb : b = true) : (a && b) = true := by rw [ha, hb]; rfl
theorem least_j0 : Rows.fnExactLeastModelRow.wf (OpenSpec.ofChange Rows.fnExactLeastModelSpec) = true := by kernel_rfl
theorem least_j1 : laidOutB Tryz.checked.prog = true := by kernel_rfl
theorem least_j2 : mapsRowed Tryz.checked.prog = true := by kernel_rfl
theorem least_j3 : Tryz.f5.params.all (Tryz.checked.prog.readableRec ·) = true := by kernel_rfl
theorem least_j4 : namedTie Tryz.checked.prog Rows.fnExactLeastModelRow.named Rows.fnExactLeastModelSpec.vars = true := by kernel_rfl
theorem least_j5 : (Rows.fnExactLeastModelRow.stops == []) = true := by kernel_rfl
theorem least_j6 : (Tryz.checked.prog.stops == []) = true := by kernel_rfl
theorem least_j7 : (Rows.fnExactLeastModelRow.knobs == []) = true := by kernel_rfl
theorem least_j8 : (Tryz.checked.prog.stopKnobs == []) = true := by kernel_rfl
theorem least_j9 : (Rows.fnExactLeastModelRow.inPlace == Tryz.checked.prog.inPlace n_l_FnExactLeastModel) = true := by kernel_rfl
theorem least_j10 : (Rows.fnExactLeastModelRow.unfollowed == Tryz.checked.prog.unfollowed n_l_FnExactLeastModel) = true := by kernel_rfl
theorem least_j11 : (Rows.fnExactLeastModelRow.recurses == Tryz.checked.prog.recurses n_l_FnExactLeastModel) = true := by kernel_rfl
theorem least_j12 : (Rows.fnExactLeastModelRow.named == Tryz.checked.prog.varsNamed n_l_FnExactLeastModel) = true := by kernel_rfl
theorem least_j13 : (Rows.fnExactLeastModelRow.maps == (Tryz.f5.params.toList ++ Rows.fnExactLeastModelSpec.plain.varTypes Tryz.checked.prog).any (Tryz.checked.prog.mapsRec ·)) = true := by kernel_rfl
theorem least_j14 : (Rows.fnExactLeastModelRow.ifaces == (Tryz.f5.params.toList ++ Rows.fnExactLeastModelSpec.plain.varTypes Tryz.checked.prog).any (Tryz.checked.prog.ifacesRec ·)) = true := by kernel_rfl
theorem least_j15 : (Rows.fnExactLeastModelRow.mapsOut == Tryz.checked.prog.mapsAmong Tryz.f5.resultTypes.toList) = true := by kernel_rfl
theorem least_j16 : (Rows.fnExactLeastModelRow.loops == (Tryz.f5.params.toList ++ Rows.fnExactLeastModelSpec.plain.varTypes Tryz.checked.prog).any (Tryz.checked.prog.loopsFrom ·)) = true := by kernel_rfl
theorem least_j17 : (Rows.fnExactLeastModelRow.wideKeys == (Tryz.f5.params.toList ++ Rows.fnExactLeastModelSpec.plain.varTypes Tryz.checked.prog ++ Tryz.f5.resultTypes.toList).any (Tryz.checked.prog.wideKeysFrom ·)) = true := by kernel_rfl
theorem least_j18 : Rows.fnExactLeastModelSpec.vars.all (Tryz.checked.prog.varReadable ·) = true := by kernel_rfl
theorem least_j19 : Tryz.f5.resultTypes.all (fun t => Tryz.checked.prog.readableRec t && decide (t < Tryz.checked.prog.types.size)) = true := by kernel_rfl
theorem least_j20 : (Rows.fnExactLeastModelRow.ifacesOut == Tryz.f5.resultTypes.toList.any (Tryz.checked.prog.ifacesRec ·)) = true := by kernel_rfl
theorem least_j21 : (Rows.fnExactLeastModelRow.loopsOut == Tryz.f5.resultTypes.toList.any (Tryz.checked.prog.loopsFrom ·)) = true := by kernel_rfl
theorem least_j22 : (Rows.fnExactLeastModelRow.plainKeys == Tryz.checked.prog.plainKeys) = true := by kernel_rfl
theorem least_j23 : Rows.fnExactLeastModelRow.shortTexts.isNone = true := by kernel_rfl
theorem least_j24 : Tryz.checked.prog.stopsHeard = true := by kernel_rfl
theorem least_j25 : Tryz.checked.prog.mayEnter = true := by kernel_rfl
theorem least_j26 : (Rows.fnExactLeastModelRow.lifted == Tryz.checked.prog.liftsFinal) = true := by kernel_rfl
theorem least_j27 : (Tryz.checked.prog.make == some Rows.fnExactLeastModelRow.make) = true := by kernel_rfl
theorem least_j28 : (Rows.fnExactLeastModelRow.kinds == (if Rows.fnExactLeastModelRow.domain.isEmpty then [] else Tryz.f5.params.toList.map fun t => match Tryz.checked.prog.underlying t with | some (.int k) => some k | _ => none)) = true := by kernel_rfl
theorem least_j29 : (Rows.fnExactLeastModelRow.pinned == Rows.fnExactLeastModelRow.pinnedBy) = true := by kernel_rfl
theorem least_j30 : (Rows.fnExactLeastModelRow.veiled == (Tryz.f5.params.toList ++ Rows.fnExactLeastModelSpec.plain.varTypes Tryz.checked.prog ++ Tryz.f5.resultTypes.toList).any (Tryz.checked.prog.veiledRec ·)) = true := by kernel_rfl
theorem least_j31 : Rows.fnExactLeastModelRow.veiledFits Tryz.checked.prog Tryz.f5.params.toList (Tryz.f5.params.toList ++ Rows.fnExactLeastModelSpec.plain.varTypes Tryz.checked.prog ++ Tryz.f5.resultTypes.toList) = true := by kernel_rfl
set_option maxRecDepth 100000 in
theorem least_closed : joinedFacts Tryz.checked.prog n_l_FnExactLeastModel Tryz.f5 Rows.fnExactLeastModelSpec Rows.fnExactLeastModelRow = true := by
  unfold joinedFacts
  exact least_band (least_band (least_band (least_band (least_band (least_band (least_band (least_band (least_band (least_band (least_band (least_band (least_band (least_band (least_band (least_band (least_band (least_band (least_band (least_band (least_band (least_band (least_band (least_band (least_band (least_band (least_band (least_band (least_band (least_band (least_band least_j0 least_j1) least_j2) least_j3) least_j4) least_j5) least_j6) least_j7) least_j8) least_j9) least_j10) least_j11) least_j12) least_j13) least_j14) least_j15) least_j16) least_j17) least_j18) least_j19) least_j20) least_j21) least_j22) least_j23) least_j24) least_j25) least_j26) least_j27) least_j28) least_j29) least_j30) least_j31
theorem least_named : Tryz.checked.prog.funcNamed Rows.fnExactLeastModelRow.func = some n_l_FnExactLeastModel := by kernel_rfl
theorem least_inst : Tryz.f5.isInstance Tryz.checked.prog Rows.fnExactLeastModelRow.origin Rows.fnExactLeastModelRow.targs := of_decide_eq_true (by kernel_rfl)
theorem least_wrap : Tryz.f5.isWrapper Tryz.checked.prog Rows.fnExactLeastModelRow.wrapper Rows.fnExactLeastModelRow.mainSum := by unfold Func.isWrapper; first | (rw [if_pos (by decide +kernel)]; kernel_rfl) | (rw [if_neg (by decide +kernel)]; exact ⟨rfl, rfl⟩)
theorem least_holds : Rows.FnExactLeastModelSaid :=
  OpenClaim.holds_of_wide n_l_FnExactLeastModel Tryz.f5 rfl rfl rfl rfl rfl rfl rfl ⟨rfl, rfl, rfl, rfl, rfl⟩ rfl rfl rfl rfl rfl least_named Tryz.func5 least_closed least_inst least_wrap
    (fun os started H enc _ => least_lifted os started H enc)

#print axioms least_holds
end Go.Proofs.YtgdibnmabnimaaaGreat
