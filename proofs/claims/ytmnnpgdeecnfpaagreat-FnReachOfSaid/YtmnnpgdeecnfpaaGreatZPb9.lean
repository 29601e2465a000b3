/- FnReachOf returns true, whatever bytes come in, and leaves them as they were. No condition. -/
import Derived.Test.YtmnnpgdeecnfpaaGreatZPb8
namespace Go.Proofs.YtmnnpgdeecnfpaaGreat
open Go Go.ChangeShapes Go.WideShapes Go.ChangeAt Go.RowKit

set_option maxRecDepth 100000 in
theorem pReach_lifted (os : Os) (started : os.Started) (H : Type) (enc : TypeId × Value → H) :
    ReturnsInHanded {} Tryz.checked os n_l_FnReachOf .any (Rows.fnReachOfSpec.pre6 enc Tryz.prog Tryz.f11 Rows.fnReachOfRow.domain false)
      (Rows.fnReachOfSpec.post enc Tryz.prog Tryz.f11 false true false false) := by
  refine returnsInHanded_of_change (C := Tryz.checked) Tryz.own started (by kernel_rfl) Tryz.func11
    (ChangeSpec.witness6 (enc := enc) (C := Tryz.checked) false ⟨#[], #[.slice none 0 0], []⟩ 8 (by kernel_rfl) (by kernel_rfl) (by kernel_rfl) (by kernel_rfl)) ?_
  intro W base args ds gs before hval0 hW _ _
  have hval : ∀ (j : Nat) t v, Tryz.f11.params[j]? = some t → args[j]? = some v → Value.okWide Tryz.prog W .any base t v := hval0
  have hW' := hW
  obtain ⟨p, q, hA0, hV, hb, _, _⟩ := hW
  have hA : DataW.TrodAll enc Tryz.prog W 0 (fun _ => true) true Tryz.f11.params.toList args.toList ds p := hA0
  have hA1 := hA
  rw [Tryz.params11] at hA1 hval
  obtain ⟨v0, d0, rfl, rfl, h0⟩ := trodAll_one hA1
  obtain ⟨n, hn⟩ := h0
  obtain rfl := (trodVars_none (show DataW.TrodVars enc Tryz.prog W (fun _ => true) [] gs q from hV)).1
  obtain ⟨a, len, cap, rfl⟩ := okWide_slice (slice_parts sl_Suint8).1 (hval 0 _ _ rfl rfl)
  obtain ⟨xs, hxs⟩ := trod_bytes hn
  refine (lawPReach_calls hxs W (Inv.entry W)).mono fun e W' ⟨he, hI⟩ => ?_
  subst he
  exact ⟨_, rfl, post_true hW' hA hV hb rfl (by rw [Tryz.params11]; decide +kernel) (by kernel_rfl) rfl rfl rfl hI⟩

theorem pReach_band {a b : Bool} (ha : a = true) (hb : b = true) : (a && b) = true := by rw [ha, hb]; rfl
theorem pReach_j0 : Rows.fnReachOfRow.wf (OpenSpec.ofChange Rows.fnReachOfSpec) = true := by kernel_rfl
theorem pReach_j1 : laidOutB Tryz.checked.prog = true := by kernel_rfl
theorem pReach_j2 : mapsRowed Tryz.checked.prog = true := by kernel_rfl
theorem pReach_j3 : Tryz.f11.params.all (Tryz.checked.prog.readableRec ·) = true := by kernel_rfl
theorem pReach_j4 : namedTie Tryz.checked.prog Rows.fnReachOfRow.named Rows.fnReachOfSpec.vars = true := by kernel_rfl
theorem pReach_j5 : (Rows.fnReachOfRow.stops == []) = true := by kernel_rfl
theorem pReach_j6 : (Tryz.checked.prog.stops == []) = true := by kernel_rfl
theorem pReach_j7 : (Rows.fnReachOfRow.knobs == []) = true := by kernel_rfl
theorem pReach_j8 : (Tryz.checked.prog.stopKnobs == []) = true := by kernel_rfl
theorem pReach_j9 : (Rows.fnReachOfRow.inPlace == Tryz.checked.prog.inPlace n_l_FnReachOf) = true := by kernel_rfl
theorem pReach_j10 : (Rows.fnReachOfRow.unfollowed == Tryz.checked.prog.unfollowed n_l_FnReachOf) = true := by kernel_rfl
theorem pReach_j11 : (Rows.fnReachOfRow.recurses == Tryz.checked.prog.recurses n_l_FnReachOf) = true := by kernel_rfl
theorem pReach_j12 : (Rows.fnReachOfRow.named == Tryz.checked.prog.varsNamed n_l_FnReachOf) = true := by kernel_rfl
theorem pReach_j13 : (Rows.fnReachOfRow.maps == (Tryz.f11.params.toList ++ Rows.fnReachOfSpec.plain.varTypes Tryz.checked.prog).any (Tryz.checked.prog.mapsRec ·)) = true := by kernel_rfl
theorem pReach_j14 : (Rows.fnReachOfRow.ifaces == (Tryz.f11.params.toList ++ Rows.fnReachOfSpec.plain.varTypes Tryz.checked.prog).any (Tryz.checked.prog.ifacesRec ·)) = true := by kernel_rfl
theorem pReach_j15 : (Rows.fnReachOfRow.mapsOut == Tryz.checked.prog.mapsAmong Tryz.f11.resultTypes.toList) = true := by kernel_rfl
theorem pReach_j16 : (Rows.fnReachOfRow.loops == (Tryz.f11.params.toList ++ Rows.fnReachOfSpec.plain.varTypes Tryz.checked.prog).any (Tryz.checked.prog.loopsFrom ·)) = true := by kernel_rfl
theorem pReach_j17 : (Rows.fnReachOfRow.wideKeys == (Tryz.f11.params.toList ++ Rows.fnReachOfSpec.plain.varTypes Tryz.checked.prog ++ Tryz.f11.resultTypes.toList).any (Tryz.checked.prog.wideKeysFrom ·)) = true := by kernel_rfl
theorem pReach_j18 : Rows.fnReachOfSpec.vars.all (Tryz.checked.prog.varReadable ·) = true := by kernel_rfl
theorem pReach_j19 : Tryz.f11.resultTypes.all (fun t => Tryz.checked.prog.readableRec t && decide (t < Tryz.checked.prog.types.size)) = true := by kernel_rfl
theorem pReach_j20 : (Rows.fnReachOfRow.ifacesOut == Tryz.f11.resultTypes.toList.any (Tryz.checked.prog.ifacesRec ·)) = true := by kernel_rfl
theorem pReach_j21 : (Rows.fnReachOfRow.loopsOut == Tryz.f11.resultTypes.toList.any (Tryz.checked.prog.loopsFrom ·)) = true := by kernel_rfl
theorem pReach_j22 : (Rows.fnReachOfRow.plainKeys == Tryz.checked.prog.plainKeys) = true := by kernel_rfl
theorem pReach_j23 : Rows.fnReachOfRow.shortTexts.isNone = true := by kernel_rfl
theorem pReach_j24 : Tryz.checked.prog.stopsHeard = true := by kernel_rfl
theorem pReach_j25 : Tryz.checked.prog.mayEnter = true := by kernel_rfl
theorem pReach_j26 : (Rows.fnReachOfRow.lifted == Tryz.checked.prog.liftsFinal) = true := by kernel_rfl
theorem pReach_j27 : (Tryz.checked.prog.make == some Rows.fnReachOfRow.make) = true := by kernel_rfl
theorem pReach_j28 : (Rows.fnReachOfRow.kinds == (if Rows.fnReachOfRow.domain.isEmpty then [] else Tryz.f11.params.toList.map fun t => match Tryz.checked.prog.underlying t with | some (.int k) => some k | _ => none)) = true := by kernel_rfl
theorem pReach_j29 : (Rows.fnReachOfRow.pinned == Rows.fnReachOfRow.pinnedBy) = true := by kernel_rfl
theorem pReach_j30 : (Rows.fnReachOfRow.veiled == (Tryz.f11.params.toList ++ Rows.fnReachOfSpec.plain.varTypes Tryz.checked.prog ++ Tryz.f11.resultTypes.toList).any (Tryz.checked.prog.veiledRec ·)) = true := by kernel_rfl
theorem pReach_j31 : Rows.fnReachOfRow.veiledFits Tryz.checked.prog Tryz.f11.params.toList (Tryz.f11.params.toList ++ Rows.fnReachOfSpec.plain.varTypes Tryz.checked.prog ++ Tryz.f11.resultTypes.toList) = true := by kernel_rfl
set_option maxRecDepth 100000 in
theorem pReach_closed : joinedFacts Tryz.checked.prog n_l_FnReachOf Tryz.f11 Rows.fnReachOfSpec Rows.fnReachOfRow = true := by
  unfold joinedFacts
  exact pReach_band (pReach_band (pReach_band (pReach_band (pReach_band (pReach_band (pReach_band (pReach_band (pReach_band (pReach_band (pReach_band (pReach_band (pReach_band (pReach_band (pReach_band (pReach_band (pReach_band (pReach_band (pReach_band (pReach_band (pReach_band (pReach_band (pReach_band (pReach_band (pReach_band (pReach_band (pReach_band (pReach_band (pReach_band (pReach_band (pReach_band pReach_j0 pReach_j1) pReach_j2) pReach_j3) pReach_j4) pReach_j5) pReach_j6) pReach_j7) pReach_j8) pReach_j9) pReach_j10) pReach_j11) pReach_j12) pReach_j13) pReach_j14) pReach_j15) pReach_j16) pReach_j17) pReach_j18) pReach_j19) pReach_j20) pReach_j21) pReach_j22) pReach_j23) pReach_j24) pReach_j25) pReach_j26) pReach_j27) pReach_j28) pReach_j29) pReach_j30) pReach_j31
theorem pReach_named : Tryz.checked.prog.funcNamed Rows.fnReachOfRow.func = some n_l_FnReachOf := by kernel_rfl
theorem pReach_inst : Tryz.f11.isInstance Tryz.checked.prog Rows.fnReachOfRow.origin Rows.fnReachOfRow.targs := of_decide_eq_true (by kernel_rfl)
theorem pReach_wrap : Tryz.f11.isWrapper Tryz.checked.prog Rows.fnReachOfRow.wrapper Rows.fnReachOfRow.mainSum := by unfold Func.isWrapper; first | (rw [if_pos (by decide +kernel)]; kernel_rfl) | (rw [if_neg (by decide +kernel)]; exact ⟨rfl, rfl⟩)
theorem pReach_holds : Rows.FnReachOfSaid :=
  OpenClaim.holds_of_wide n_l_FnReachOf Tryz.f11 rfl rfl rfl rfl rfl rfl rfl ⟨rfl, rfl, rfl, rfl, rfl⟩ rfl rfl rfl rfl rfl pReach_named Tryz.func11 pReach_closed pReach_inst pReach_wrap
    (fun os started H enc _ => pReach_lifted os started H enc)

#print axioms pReach_holds
end Go.Proofs.YtmnnpgdeecnfpaaGreat
