/- FnReachMore returns true, whatever bytes come in, and leaves them as they were. No condition. -/
import Derived.Test.YtmnnpgdeecnfpaaGreatZPb8
namespace Go.Proofs.YtmnnpgdeecnfpaaGreat
open Go Go.ChangeShapes Go.WideShapes Go.ChangeAt Go.RowKit

set_option maxRecDepth 100000 in
theorem pMore_lifted (os : Os) (started : os.Started) (H : Type) (enc : TypeId × Value → H) :
    ReturnsInHanded {} Tryz.checked os n_l_FnReachMore .any (Rows.fnReachMoreSpec.pre6 enc Tryz.prog Tryz.f10 Rows.fnReachMoreRow.domain false)
      (Rows.fnReachMoreSpec.post enc Tryz.prog Tryz.f10 false true false false) := by
  refine returnsInHanded_of_change (C := Tryz.checked) Tryz.own started (by kernel_rfl) Tryz.func10
    (ChangeSpec.witness6 (enc := enc) (C := Tryz.checked) false ⟨#[], #[.slice none 0 0], []⟩ 8 (by kernel_rfl) (by kernel_rfl) (by kernel_rfl) (by kernel_rfl)) ?_
  intro W base args ds gs before hval0 hW _ _
  have hval : ∀ (j : Nat) t v, Tryz.f10.params[j]? = some t → args[j]? = some v → Value.okWide Tryz.prog W .any base t v := hval0
  have hW' := hW
  obtain ⟨p, q, hA0, hV, hb, _, _⟩ := hW
  have hA : DataW.TrodAll enc Tryz.prog W 0 (fun _ => true) true Tryz.f10.params.toList args.toList ds p := hA0
  have hA1 := hA
  rw [Tryz.params10] at hA1 hval
  obtain ⟨v0, d0, rfl, rfl, h0⟩ := trodAll_one hA1
  obtain ⟨n, hn⟩ := h0
  obtain rfl := (trodVars_none (show DataW.TrodVars enc Tryz.prog W (fun _ => true) [] gs q from hV)).1
  obtain ⟨a, len, cap, rfl⟩ := okWide_slice (slice_parts sl_Suint8).1 (hval 0 _ _ rfl rfl)
  obtain ⟨xs, hxs⟩ := trod_bytes hn
  refine (lawPMore_calls hxs W (Inv.entry W)).mono fun e W' ⟨he, hI⟩ => ?_
  subst he
  exact ⟨_, rfl, post_true hW' hA hV hb rfl (by rw [Tryz.params10]; decide +kernel) (by kernel_rfl) rfl rfl rfl hI⟩

theorem pMore_band {a b : Bool} (ha : a = true) (hb : b = true) : (a && b) = true := by rw [ha, hb]; rfl
theorem pMore_j0 : Rows.fnReachMoreRow.wf (OpenSpec.ofChange Rows.fnReachMoreSpec) = true := by kernel_rfl
theorem pMore_j1 : laidOutB Tryz.checked.prog = true := by kernel_rfl
theorem pMore_j2 : mapsRowed Tryz.checked.prog = true := by kernel_rfl
theorem pMore_j3 : Tryz.f10.params.all (Tryz.checked.prog.readableRec ·) = true := by kernel_rfl
theorem pMore_j4 : namedTie Tryz.checked.prog Rows.fnReachMoreRow.named Rows.fnReachMoreSpec.vars = true := by kernel_rfl
theorem pMore_j5 : (Rows.fnReachMoreRow.stops == []) = true := by kernel_rfl
theorem pMore_j6 : (Tryz.checked.prog.stops == []) = true := by kernel_rfl
theorem pMore_j7 : (Rows.fnReachMoreRow.knobs == []) = true := by kernel_rfl
theorem pMore_j8 : (Tryz.checked.prog.stopKnobs == []) = true := by kernel_rfl
theorem pMore_j9 : (Rows.fnReachMoreRow.inPlace == Tryz.checked.prog.inPlace n_l_FnReachMore) = true := by kernel_rfl
theorem pMore_j10 : (Rows.fnReachMoreRow.unfollowed == Tryz.checked.prog.unfollowed n_l_FnReachMore) = true := by kernel_rfl
theorem pMore_j11 : (Rows.fnReachMoreRow.recurses == Tryz.checked.prog.recurses n_l_FnReachMore) = true := by kernel_rfl
theorem pMore_j12 : (Rows.fnReachMoreRow.named == Tryz.checked.prog.varsNamed n_l_FnReachMore) = true := by kernel_rfl
theorem pMore_j13 : (Rows.fnReachMoreRow.maps == (Tryz.f10.params.toList ++ Rows.fnReachMoreSpec.plain.varTypes Tryz.checked.prog).any (Tryz.checked.prog.mapsRec ·)) = true := by kernel_rfl
theorem pMore_j14 : (Rows.fnReachMoreRow.ifaces == (Tryz.f10.params.toList ++ Rows.fnReachMoreSpec.plain.varTypes Tryz.checked.prog).any (Tryz.checked.prog.ifacesRec ·)) = true := by kernel_rfl
theorem pMore_j15 : (Rows.fnReachMoreRow.mapsOut == Tryz.checked.prog.mapsAmong Tryz.f10.resultTypes.toList) = true := by kernel_rfl
theorem pMore_j16 : (Rows.fnReachMoreRow.loops == (Tryz.f10.params.toList ++ Rows.fnReachMoreSpec.plain.varTypes Tryz.checked.prog).any (Tryz.checked.prog.loopsFrom ·)) = true := by kernel_rfl
theorem pMore_j17 : (Rows.fnReachMoreRow.wideKeys == (Tryz.f10.params.toList ++ Rows.fnReachMoreSpec.plain.varTypes Tryz.checked.prog ++ Tryz.f10.resultTypes.toList).any (Tryz.checked.prog.wideKeysFrom ·)) = true := by kernel_rfl
theorem pMore_j18 : Rows.fnReachMoreSpec.vars.all (Tryz.checked.prog.varReadable ·) = true := by kernel_rfl
theorem pMore_j19 : Tryz.f10.resultTypes.all (fun t => Tryz.checked.prog.readableRec t && decide (t < Tryz.checked.prog.types.size)) = true := by kernel_rfl
theorem pMore_j20 : (Rows.fnReachMoreRow.ifacesOut == Tryz.f10.resultTypes.toList.any (Tryz.checked.prog.ifacesRec ·)) = true := by kernel_rfl
theorem pMore_j21 : (Rows.fnReachMoreRow.loopsOut == Tryz.f10.resultTypes.toList.any (Tryz.checked.prog.loopsFrom ·)) = true := by kernel_rfl
theorem pMore_j22 : (Rows.fnReachMoreRow.plainKeys == Tryz.checked.prog.plainKeys) = true := by kernel_rfl
theorem pMore_j23 : Rows.fnReachMoreRow.shortTexts.isNone = true := by kernel_rfl
theorem pMore_j24 : Tryz.checked.prog.stopsHeard = true := by kernel_rfl
theorem pMore_j25 : Tryz.checked.prog.mayEnter = true := by kernel_rfl
theorem pMore_j26 : (Rows.fnReachMoreRow.lifted == Tryz.checked.prog.liftsFinal) = true := by kernel_rfl
theorem pMore_j27 : (Tryz.checked.prog.make == some Rows.fnReachMoreRow.make) = true := by kernel_rfl
theorem pMore_j28 : (Rows.fnReachMoreRow.kinds == (if Rows.fnReachMoreRow.domain.isEmpty then [] else Tryz.f10.params.toList.map fun t => match Tryz.checked.prog.underlying t with | some (.int k) => some k | _ => none)) = true := by kernel_rfl
theorem pMore_j29 : (Rows.fnReachMoreRow.pinned == Rows.fnReachMoreRow.pinnedBy) = true := by kernel_rfl
theorem pMore_j30 : (Rows.fnReachMoreRow.veiled == (Tryz.f10.params.toList ++ Rows.fnReachMoreSpec.plain.varTypes Tryz.checked.prog ++ Tryz.f10.resultTypes.toList).any (Tryz.checked.prog.veiledRec ·)) = true := by kernel_rfl
theorem pMore_j31 : Rows.fnReachMoreRow.veiledFits Tryz.checked.prog Tryz.f10.params.toList (Tryz.f10.params.toList ++ Rows.fnReachMoreSpec.plain.varTypes Tryz.checked.prog ++ Tryz.f10.resultTypes.toList) = true := by kernel_rfl
set_option maxRecDepth 100000 in
theorem pMore_closed : joinedFacts Tryz.checked.prog n_l_FnReachMore Tryz.f10 Rows.fnReachMoreSpec Rows.fnReachMoreRow = true := by
  unfold joinedFacts
  exact pMore_band (pMore_band (pMore_band (pMore_band (pMore_band (pMore_band (pMore_band (pMore_band (pMore_band (pMore_band (pMore_band (pMore_band (pMore_band (pMore_band (pMore_band (pMore_band (pMore_band (pMore_band (pMore_band (pMore_band (pMore_band (pMore_band (pMore_band (pMore_band (pMore_band (pMore_band (pMore_band (pMore_band (pMore_band (pMore_band (pMore_band pMore_j0 pMore_j1) pMore_j2) pMore_j3) pMore_j4) pMore_j5) pMore_j6) pMore_j7) pMore_j8) pMore_j9) pMore_j10) pMore_j11) pMore_j12) pMore_j13) pMore_j14) pMore_j15) pMore_j16) pMore_j17) pMore_j18) pMore_j19) pMore_j20) pMore_j21) pMore_j22) pMore_j23) pMore_j24) pMore_j25) pMore_j26) pMore_j27) pMore_j28) pMore_j29) pMore_j30) pMore_j31
theorem pMore_named : Tryz.checked.prog.funcNamed Rows.fnReachMoreRow.func = some n_l_FnReachMore := by kernel_rfl
theorem pMore_inst : Tryz.f10.isInstance Tryz.checked.prog Rows.fnReachMoreRow.origin Rows.fnReachMoreRow.targs := of_decide_eq_true (by kernel_rfl)
theorem pMore_wrap : Tryz.f10.isWrapper Tryz.checked.prog Rows.fnReachMoreRow.wrapper Rows.fnReachMoreRow.mainSum := by unfold Func.isWrapper; first | (rw [if_pos (by decide +kernel)]; kernel_rfl) | (rw [if_neg (by decide +kernel)]; exact ⟨rfl, rfl⟩)
theorem pMore_holds : Rows.FnReachMoreSaid :=
  OpenClaim.holds_of_wide n_l_FnReachMore Tryz.f10 rfl rfl rfl rfl rfl rfl rfl ⟨rfl, rfl, rfl, rfl, rfl⟩ rfl rfl rfl rfl rfl pMore_named Tryz.func10 pMore_closed pMore_inst pMore_wrap
    (fun os started H enc _ => pMore_lifted os started H enc)

#print axioms pMore_holds
end Go.Proofs.YtmnnpgdeecnfpaaGreat
