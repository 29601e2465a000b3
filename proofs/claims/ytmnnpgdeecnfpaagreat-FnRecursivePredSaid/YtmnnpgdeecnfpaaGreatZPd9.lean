/- FnRecursivePred returns true, whatever bytes come in, and leaves them as they were. No condition. -/
import Derived.Test.YtmnnpgdeecnfpaaGreatZPd8
namespace Go.Proofs.YtmnnpgdeecnfpaaGreat
open Go Go.ChangeShapes Go.WideShapes Go.ChangeAt Go.RowKit

set_option maxRecDepth 100000 in
theorem pRecur_lifted (os : Os) (started : os.Started) (H : Type) (enc : TypeId × Value → H) :
    ReturnsInHanded {} Tryz.checked os n_l_FnRecursivePred .any (Rows.fnRecursivePredSpec.pre6 enc Tryz.prog Tryz.f7 Rows.fnRecursivePredRow.domain false)
      (Rows.fnRecursivePredSpec.post enc Tryz.prog Tryz.f7 false true false false) := by
  refine returnsInHanded_of_change (C := Tryz.checked) Tryz.own started (by kernel_rfl) Tryz.func7
    (ChangeSpec.witness6 (enc := enc) (C := Tryz.checked) false ⟨#[], #[.slice none 0 0], []⟩ 8 (by kernel_rfl) (by kernel_rfl) (by kernel_rfl) (by kernel_rfl)) ?_
  intro W base args ds gs before hval0 hW _ _
  have hval : ∀ (j : Nat) t v, Tryz.f7.params[j]? = some t → args[j]? = some v → Value.okWide Tryz.prog W .any base t v := hval0
  have hW' := hW
  obtain ⟨p, q, hA0, hV, hb, _, _⟩ := hW
  have hA : DataW.TrodAll enc Tryz.prog W 0 (fun _ => true) true Tryz.f7.params.toList args.toList ds p := hA0
  have hA1 := hA
  rw [Tryz.params7] at hA1 hval
  obtain ⟨v0, d0, rfl, rfl, h0⟩ := trodAll_one hA1
  obtain ⟨n, hn⟩ := h0
  obtain rfl := (trodVars_none (show DataW.TrodVars enc Tryz.prog W (fun _ => true) [] gs q from hV)).1
  obtain ⟨a, len, cap, rfl⟩ := okWide_slice (slice_parts sl_Suint8).1 (hval 0 _ _ rfl rfl)
  obtain ⟨xs, hxs⟩ := trod_bytes hn
  refine (lawPRecur_calls hxs W (Inv.entry W)).mono fun e W' ⟨he, hI⟩ => ?_
  subst he
  exact ⟨_, rfl, post_true hW' hA hV hb rfl (by rw [Tryz.params7]; decide +kernel) (by kernel_rfl) rfl rfl rfl hI⟩

theorem pRecur_band {a b : Bool} (ha : a = true) (hb : b = true) : (a && b) = true := by rw [ha, hb]; rfl
theorem pRecur_j0 : Rows.fnRecursivePredRow.wf (OpenSpec.ofChange Rows.fnRecursivePredSpec) = true := by kernel_rfl
theorem pRecur_j1 : laidOutB Tryz.checked.prog = true := by kernel_rfl
theorem pRecur_j2 : mapsRowed Tryz.checked.prog = true := by kernel_rfl
theorem pRecur_j3 : Tryz.f7.params.all (Tryz.checked.prog.readableRec ·) = true := by kernel_rfl
theorem pRecur_j4 : namedTie Tryz.checked.prog Rows.fnRecursivePredRow.named Rows.fnRecursivePredSpec.vars = true := by kernel_rfl
theorem pRecur_j5 : (Rows.fnRecursivePredRow.stops == []) = true := by kernel_rfl
theorem pRecur_j6 : (Tryz.checked.prog.stops == []) = true := by kernel_rfl
theorem pRecur_j7 : (Rows.fnRecursivePredRow.knobs == []) = true := by kernel_rfl
theorem pRecur_j8 : (Tryz.checked.prog.stopKnobs == []) = true := by kernel_rfl
theorem pRecur_j9 : (Rows.fnRecursivePredRow.inPlace == Tryz.checked.prog.inPlace n_l_FnRecursivePred) = true := by kernel_rfl
theorem pRecur_j10 : (Rows.fnRecursivePredRow.unfollowed == Tryz.checked.prog.unfollowed n_l_FnRecursivePred) = true := by kernel_rfl
theorem pRecur_j11 : (Rows.fnRecursivePredRow.recurses == Tryz.checked.prog.recurses n_l_FnRecursivePred) = true := by kernel_rfl
theorem pRecur_j12 : (Rows.fnRecursivePredRow.named == Tryz.checked.prog.varsNamed n_l_FnRecursivePred) = true := by kernel_rfl
theorem pRecur_j13 : (Rows.fnRecursivePredRow.maps == (Tryz.f7.params.toList ++ Rows.fnRecursivePredSpec.plain.varTypes Tryz.checked.prog).any (Tryz.checked.prog.mapsRec ·)) = true := by kernel_rfl
theorem pRecur_j14 : (Rows.fnRecursivePredRow.ifaces == (Tryz.f7.params.toList ++ Rows.fnRecursivePredSpec.plain.varTypes Tryz.checked.prog).any (Tryz.checked.prog.ifacesRec ·)) = true := by kernel_rfl
theorem pRecur_j15 : (Rows.fnRecursivePredRow.mapsOut == Tryz.checked.prog.mapsAmong Tryz.f7.resultTypes.toList) = true := by kernel_rfl
theorem pRecur_j16 : (Rows.fnRecursivePredRow.loops == (Tryz.f7.params.toList ++ Rows.fnRecursivePredSpec.plain.varTypes Tryz.checked.prog).any (Tryz.checked.prog.loopsFrom ·)) = true := by kernel_rfl
theorem pRecur_j17 : (Rows.fnRecursivePredRow.wideKeys == (Tryz.f7.params.toList ++ Rows.fnRecursivePredSpec.plain.varTypes Tryz.checked.prog ++ Tryz.f7.resultTypes.toList).any (Tryz.checked.prog.wideKeysFrom ·)) = true := by kernel_rfl
theorem pRecur_j18 : Rows.fnRecursivePredSpec.vars.all (Tryz.checked.prog.varReadable ·) = true := by kernel_rfl
theorem pRecur_j19 : Tryz.f7.resultTypes.all (fun t => Tryz.checked.prog.readableRec t && decide (t < Tryz.checked.prog.types.size)) = true := by kernel_rfl
theorem pRecur_j20 : (Rows.fnRecursivePredRow.ifacesOut == Tryz.f7.resultTypes.toList.any (Tryz.checked.prog.ifacesRec ·)) = true := by kernel_rfl
theorem pRecur_j21 : (Rows.fnRecursivePredRow.loopsOut == Tryz.f7.resultTypes.toList.any (Tryz.checked.prog.loopsFrom ·)) = true := by kernel_rfl
theorem pRecur_j22 : (Rows.fnRecursivePredRow.plainKeys == Tryz.checked.prog.plainKeys) = true := by kernel_rfl
theorem pRecur_j23 : Rows.fnRecursivePredRow.shortTexts.isNone = true := by kernel_rfl
theorem pRecur_j24 : Tryz.checked.prog.stopsHeard = true := by kernel_rfl
theorem pRecur_j25 : Tryz.checked.prog.mayEnter = true := by kernel_rfl
theorem pRecur_j26 : (Rows.fnRecursivePredRow.lifted == Tryz.checked.prog.liftsFinal) = true := by kernel_rfl
theorem pRecur_j27 : (Tryz.checked.prog.make == some Rows.fnRecursivePredRow.make) = true := by kernel_rfl
theorem pRecur_j28 : (Rows.fnRecursivePredRow.kinds == (if Rows.fnRecursivePredRow.domain.isEmpty then [] else Tryz.f7.params.toList.map fun t => match Tryz.checked.prog.underlying t with | some (.int k) => some k | _ => none)) = true := by kernel_rfl
theorem pRecur_j29 : (Rows.fnRecursivePredRow.pinned == Rows.fnRecursivePredRow.pinnedBy) = true := by kernel_rfl
theorem pRecur_j30 : (Rows.fnRecursivePredRow.veiled == (Tryz.f7.params.toList ++ Rows.fnRecursivePredSpec.plain.varTypes Tryz.checked.prog ++ Tryz.f7.resultTypes.toList).any (Tryz.checked.prog.veiledRec ·)) = true := by kernel_rfl
theorem pRecur_j31 : Rows.fnRecursivePredRow.veiledFits Tryz.checked.prog Tryz.f7.params.toList (Tryz.f7.params.toList ++ Rows.fnRecursivePredSpec.plain.varTypes Tryz.checked.prog ++ Tryz.f7.resultTypes.toList) = true := by kernel_rfl
set_option maxRecDepth 100000 in
theorem pRecur_closed : joinedFacts Tryz.checked.prog n_l_FnRecursivePred Tryz.f7 Rows.fnRecursivePredSpec Rows.fnRecursivePredRow = true := by
  unfold joinedFacts
  exact pRecur_band (pRecur_band (pRecur_band (pRecur_band (pRecur_band (pRecur_band (pRecur_band (pRecur_band (pRecur_band (pRecur_band (pRecur_band (pRecur_band (pRecur_band (pRecur_band (pRecur_band (pRecur_band (pRecur_band (pRecur_band (pRecur_band (pRecur_band (pRecur_band (pRecur_band (pRecur_band (pRecur_band (pRecur_band (pRecur_band (pRecur_band (pRecur_band (pRecur_band (pRecur_band (pRecur_band pRecur_j0 pRecur_j1) pRecur_j2) pRecur_j3) pRecur_j4) pRecur_j5) pRecur_j6) pRecur_j7) pRecur_j8) pRecur_j9) pRecur_j10) pRecur_j11) pRecur_j12) pRecur_j13) pRecur_j14) pRecur_j15) pRecur_j16) pRecur_j17) pRecur_j18) pRecur_j19) pRecur_j20) pRecur_j21) pRecur_j22) pRecur_j23) pRecur_j24) pRecur_j25) pRecur_j26) pRecur_j27) pRecur_j28) pRecur_j29) pRecur_j30) pRecur_j31
theorem pRecur_named : Tryz.checked.prog.funcNamed Rows.fnRecursivePredRow.func = some n_l_FnRecursivePred := by kernel_rfl
theorem pRecur_inst : Tryz.f7.isInstance Tryz.checked.prog Rows.fnRecursivePredRow.origin Rows.fnRecursivePredRow.targs := of_decide_eq_true (by kernel_rfl)
theorem pRecur_wrap : Tryz.f7.isWrapper Tryz.checked.prog Rows.fnRecursivePredRow.wrapper Rows.fnRecursivePredRow.mainSum := by unfold Func.isWrapper; first | (rw [if_pos (by decide +kernel)]; kernel_rfl) | (rw [if_neg (by decide +kernel)]; exact ⟨rfl, rfl⟩)
theorem pRecur_holds : Rows.FnRecursivePredSaid :=
  OpenClaim.holds_of_wide n_l_FnRecursivePred Tryz.f7 rfl rfl rfl rfl rfl rfl rfl ⟨rfl, rfl, rfl, rfl, rfl⟩ rfl rfl rfl rfl rfl pRecur_named Tryz.func7 pRecur_closed pRecur_inst pRecur_wrap
    (fun os started H enc _ => pRecur_lifted os started H enc)

#print axioms pRecur_holds
end Go.Proofs.YtmnnpgdeecnfpaaGreat
