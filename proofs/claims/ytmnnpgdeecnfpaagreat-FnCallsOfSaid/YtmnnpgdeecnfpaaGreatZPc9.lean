/- FnCallsOf returns true, whatever bytes come in, and leaves them as they were. No condition. -/
import Derived.Test.YtmnnpgdeecnfpaaGreatZPc8
namespace Go.Proofs.YtmnnpgdeecnfpaaGreat
open Go Go.ChangeShapes Go.WideShapes Go.ChangeAt Go.RowKit

set_option maxRecDepth 100000 in
theorem pCalls_lifted (os : Os) (started : os.Started) (H : Type) (enc : TypeId × Value → H) :
    ReturnsInHanded {} Tryz.checked os n_l_FnCallsOf .any (Rows.fnCallsOfSpec.pre6 enc Tryz.prog Tryz.f9 Rows.fnCallsOfRow.domain false)
      (Rows.fnCallsOfSpec.post enc Tryz.prog Tryz.f9 false true false false) := by
  refine returnsInHanded_of_change (C := Tryz.checked) Tryz.own started (by kernel_rfl) Tryz.func9
    (ChangeSpec.witness6 (enc := enc) (C := Tryz.checked) false ⟨#[], #[.slice none 0 0], []⟩ 8 (by kernel_rfl) (by kernel_rfl) (by kernel_rfl) (by kernel_rfl)) ?_
  intro W base args ds gs before hval0 hW _ _
  have hval : ∀ (j : Nat) t v, Tryz.f9.params[j]? = some t → args[j]? = some v → Value.okWide Tryz.prog W .any base t v := hval0
  have hW' := hW
  obtain ⟨p, q, hA0, hV, hb, _, _⟩ := hW
  have hA : DataW.TrodAll enc Tryz.prog W 0 (fun _ => true) true Tryz.f9.params.toList args.toList ds p := hA0
  have hA1 := hA
  rw [Tryz.params9] at hA1 hval
  obtain ⟨v0, d0, rfl, rfl, h0⟩ := trodAll_one hA1
  obtain ⟨n, hn⟩ := h0
  obtain rfl := (trodVars_none (show DataW.TrodVars enc Tryz.prog W (fun _ => true) [] gs q from hV)).1
  obtain ⟨a, len, cap, rfl⟩ := okWide_slice (slice_parts sl_Suint8).1 (hval 0 _ _ rfl rfl)
  obtain ⟨xs, hxs⟩ := trod_bytes hn
  refine (lawPCalls_calls hxs W (Inv.entry W)).mono fun e W' ⟨he, hI⟩ => ?_
  subst he
  exact ⟨_, rfl, post_true hW' hA hV hb rfl (by rw [Tryz.params9]; decide +kernel) (by kernel_rfl) rfl rfl rfl hI⟩

theorem pCalls_band {a b : Bool} (ha : a = true) (hb : b = true) : (a && b) = true := by rw [ha, hb]; rfl
theorem pCalls_j0 : Rows.fnCallsOfRow.wf (OpenSpec.ofChange Rows.fnCallsOfSpec) = true := by kernel_rfl
theorem pCalls_j1 : laidOutB Tryz.checked.prog = true := by kernel_rfl
theorem pCalls_j2 : mapsRowed Tryz.checked.prog = true := by kernel_rfl
theorem pCalls_j3 : Tryz.f9.params.all (Tryz.checked.prog.readableRec ·) = true := by kernel_rfl
theorem pCalls_j4 : namedTie Tryz.checked.prog Rows.fnCallsOfRow.named Rows.fnCallsOfSpec.vars = true := by kernel_rfl
theorem pCalls_j5 : (Rows.fnCallsOfRow.stops == []) = true := by kernel_rfl
theorem pCalls_j6 : (Tryz.checked.prog.stops == []) = true := by kernel_rfl
theorem pCalls_j7 : (Rows.fnCallsOfRow.knobs == []) = true := by kernel_rfl
theorem pCalls_j8 : (Tryz.checked.prog.stopKnobs == []) = true := by kernel_rfl
theorem pCalls_j9 : (Rows.fnCallsOfRow.inPlace == Tryz.checked.prog.inPlace n_l_FnCallsOf) = true := by kernel_rfl
theorem pCalls_j10 : (Rows.fnCallsOfRow.unfollowed == Tryz.checked.prog.unfollowed n_l_FnCallsOf) = true := by kernel_rfl
theorem pCalls_j11 : (Rows.fnCallsOfRow.recurses == Tryz.checked.prog.recurses n_l_FnCallsOf) = true := by kernel_rfl
theorem pCalls_j12 : (Rows.fnCallsOfRow.named == Tryz.checked.prog.varsNamed n_l_FnCallsOf) = true := by kernel_rfl
theorem pCalls_j13 : (Rows.fnCallsOfRow.maps == (Tryz.f9.params.toList ++ Rows.fnCallsOfSpec.plain.varTypes Tryz.checked.prog).any (Tryz.checked.prog.mapsRec ·)) = true := by kernel_rfl
theorem pCalls_j14 : (Rows.fnCallsOfRow.ifaces == (Tryz.f9.params.toList ++ Rows.fnCallsOfSpec.plain.varTypes Tryz.checked.prog).any (Tryz.checked.prog.ifacesRec ·)) = true := by kernel_rfl
theorem pCalls_j15 : (Rows.fnCallsOfRow.mapsOut == Tryz.checked.prog.mapsAmong Tryz.f9.resultTypes.toList) = true := by kernel_rfl
theorem pCalls_j16 : (Rows.fnCallsOfRow.loops == (Tryz.f9.params.toList ++ Rows.fnCallsOfSpec.plain.varTypes Tryz.checked.prog).any (Tryz.checked.prog.loopsFrom ·)) = true := by kernel_rfl
theorem pCalls_j17 : (Rows.fnCallsOfRow.wideKeys == (Tryz.f9.params.toList ++ Rows.fnCallsOfSpec.plain.varTypes Tryz.checked.prog ++ Tryz.f9.resultTypes.toList).any (Tryz.checked.prog.wideKeysFrom ·)) = true := by kernel_rfl
theorem pCalls_j18 : Rows.fnCallsOfSpec.vars.all (Tryz.checked.prog.varReadable ·) = true := by kernel_rfl
theorem pCalls_j19 : Tryz.f9.resultTypes.all (fun t => Tryz.checked.prog.readableRec t && decide (t < Tryz.checked.prog.types.size)) = true := by kernel_rfl
theorem pCalls_j20 : (Rows.fnCallsOfRow.ifacesOut == Tryz.f9.resultTypes.toList.any (Tryz.checked.prog.ifacesRec ·)) = true := by kernel_rfl
theorem pCalls_j21 : (Rows.fnCallsOfRow.loopsOut == Tryz.f9.resultTypes.toList.any (Tryz.checked.prog.loopsFrom ·)) = true := by kernel_rfl
theorem pCalls_j22 : (Rows.fnCallsOfRow.plainKeys == Tryz.checked.prog.plainKeys) = true := by kernel_rfl
theorem pCalls_j23 : Rows.fnCallsOfRow.shortTexts.isNone = true := by kernel_rfl
theorem pCalls_j24 : Tryz.checked.prog.stopsHeard = true := by kernel_rfl
theorem pCalls_j25 : Tryz.checked.prog.mayEnter = true := by kernel_rfl
theorem pCalls_j26 : (Rows.fnCallsOfRow.lifted == Tryz.checked.prog.liftsFinal) = true := by kernel_rfl
theorem pCalls_j27 : (Tryz.checked.prog.make == some Rows.fnCallsOfRow.make) = true := by kernel_rfl
theorem pCalls_j28 : (Rows.fnCallsOfRow.kinds == (if Rows.fnCallsOfRow.domain.isEmpty then [] else Tryz.f9.params.toList.map fun t => match Tryz.checked.prog.underlying t with | some (.int k) => some k | _ => none)) = true := by kernel_rfl
theorem pCalls_j29 : (Rows.fnCallsOfRow.pinned == Rows.fnCallsOfRow.pinnedBy) = true := by kernel_rfl
theorem pCalls_j30 : (Rows.fnCallsOfRow.veiled == (Tryz.f9.params.toList ++ Rows.fnCallsOfSpec.plain.varTypes Tryz.checked.prog ++ Tryz.f9.resultTypes.toList).any (Tryz.checked.prog.veiledRec ·)) = true := by kernel_rfl
theorem pCalls_j31 : Rows.fnCallsOfRow.veiledFits Tryz.checked.prog Tryz.f9.params.toList (Tryz.f9.params.toList ++ Rows.fnCallsOfSpec.plain.varTypes Tryz.checked.prog ++ Tryz.f9.resultTypes.toList) = true := by kernel_rfl
set_option maxRecDepth 100000 in
theorem pCalls_closed : joinedFacts Tryz.checked.prog n_l_FnCallsOf Tryz.f9 Rows.fnCallsOfSpec Rows.fnCallsOfRow = true := by
  unfold joinedFacts
  exact pCalls_band (pCalls_band (pCalls_band (pCalls_band (pCalls_band (pCalls_band (pCalls_band (pCalls_band (pCalls_band (pCalls_band (pCalls_band (pCalls_band (pCalls_band (pCalls_band (pCalls_band (pCalls_band (pCalls_band (pCalls_band (pCalls_band (pCalls_band (pCalls_band (pCalls_band (pCalls_band (pCalls_band (pCalls_band (pCalls_band (pCalls_band (pCalls_band (pCalls_band (pCalls_band (pCalls_band pCalls_j0 pCalls_j1) pCalls_j2) pCalls_j3) pCalls_j4) pCalls_j5) pCalls_j6) pCalls_j7) pCalls_j8) pCalls_j9) pCalls_j10) pCalls_j11) pCalls_j12) pCalls_j13) pCalls_j14) pCalls_j15) pCalls_j16) pCalls_j17) pCalls_j18) pCalls_j19) pCalls_j20) pCalls_j21) pCalls_j22) pCalls_j23) pCalls_j24) pCalls_j25) pCalls_j26) pCalls_j27) pCalls_j28) pCalls_j29) pCalls_j30) pCalls_j31
theorem pCalls_named : Tryz.checked.prog.funcNamed Rows.fnCallsOfRow.func = some n_l_FnCallsOf := by kernel_rfl
theorem pCalls_inst : Tryz.f9.isInstance Tryz.checked.prog Rows.fnCallsOfRow.origin Rows.fnCallsOfRow.targs := of_decide_eq_true (by kernel_rfl)
theorem pCalls_wrap : Tryz.f9.isWrapper Tryz.checked.prog Rows.fnCallsOfRow.wrapper Rows.fnCallsOfRow.mainSum := by unfold Func.isWrapper; first | (rw [if_pos (by decide +kernel)]; kernel_rfl) | (rw [if_neg (by decide +kernel)]; exact ⟨rfl, rfl⟩)
theorem pCalls_holds : Rows.FnCallsOfSaid :=
  OpenClaim.holds_of_wide n_l_FnCallsOf Tryz.f9 rfl rfl rfl rfl rfl rfl rfl ⟨rfl, rfl, rfl, rfl, rfl⟩ rfl rfl rfl rfl rfl pCalls_named Tryz.func9 pCalls_closed pCalls_inst pCalls_wrap
    (fun os started H enc _ => pCalls_lifted os started H enc)

#print axioms pCalls_holds
end Go.Proofs.YtmnnpgdeecnfpaaGreat
