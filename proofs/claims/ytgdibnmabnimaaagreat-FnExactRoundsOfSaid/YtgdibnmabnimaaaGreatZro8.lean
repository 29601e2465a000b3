/- FnExactRoundsOf returns true whatever program comes in, and leaves them as they were. No condition. -/
import Derived.Test.YtgdibnmabnimaaaGreatZro7
namespace Go.Proofs.YtgdibnmabnimaaaGreat
open Go Go.ChangeShapes Go.WideShapes Go.ChangeAt Go.RowKit

set_option maxRecDepth 100000 in
theorem rounds_lifted (os : Os) (started : os.Started) (H : Type) (enc : TypeId × Value → H) :
    ReturnsInHanded {} Tryz.checked os n_l_FnExactRoundsOf .any (Rows.fnExactRoundsOfSpec.pre6 enc Tryz.prog Tryz.f3 Rows.fnExactRoundsOfRow.domain false)
      (Rows.fnExactRoundsOfSpec.post enc Tryz.prog Tryz.f3 false true false false) := by
  refine returnsInHanded_of_change (C := Tryz.checked) Tryz.own started (by kernel_rfl) Tryz.func3
    (ChangeSpec.witness6 (enc := enc) (C := Tryz.checked) false ⟨#[], #[.slice none 0 0], []⟩ 8 (by kernel_rfl) (by kernel_rfl) (by kernel_rfl) (by kernel_rfl)) ?_
  intro W base args ds gs before hval0 hW _ _
  have hval : ∀ (j : Nat) t v, Tryz.f3.params[j]? = some t → args[j]? = some v → Value.okWide Tryz.prog W .any base t v := hval0
  have hW' := hW
  obtain ⟨p, q, hA0, hV, hb, _, _⟩ := hW
  have hA : DataW.TrodAll enc Tryz.prog W 0 (fun _ => true) true Tryz.f3.params.toList args.toList ds p := hA0
  have hA1 := hA
  rw [Tryz.params3] at hA1 hval
  obtain ⟨v0, d0, rfl, rfl, h0⟩ := trodAll_one hA1
  obtain ⟨n, hn⟩ := h0
  obtain rfl := (trodVars_none (show DataW.TrodVars enc Tryz.prog W (fun _ => true) [] gs q from hV)).1
  obtain ⟨a, len, cap, rfl⟩ := okWide_slice (slice_parts sl_SlClause).1 (hval 0 _ _ rfl rfl)
  obtain ⟨xs, hxs⟩ := trod_clauses hn
  refine (lawRounds_calls hxs W (Inv.entry W)).mono fun e W' ⟨he, hI⟩ => ?_
  subst he
  exact ⟨_, rfl, post_true hW' hA hV hb rfl (by rw [Tryz.params3]; decide +kernel) (by kernel_rfl) rfl rfl rfl hI⟩

theorem rounds_band {a b : Bool} (ha : a = true) (hb : b = true) : (a && b) = true := by rw [ha, hb]; rfl
theorem rounds_j0 : Rows.fnExactRoundsOfRow.wf (OpenSpec.ofChange Rows.fnExactRoundsOfSpec) = true := by kernel_rfl
theorem rounds_j1 : laidOutB Tryz.checked.prog = true := by kernel_rfl
theorem rounds_j2 : mapsRowed Tryz.checked.prog = true := by kernel_rfl
theorem rounds_j3 : Tryz.f3.params.all (Tryz.checked.prog.readableRec ·) = true := by kernel_rfl
theorem rounds_j4 : namedTie Tryz.checked.prog Rows.fnExactRoundsOfRow.named Rows.fnExactRoundsOfSpec.vars = true := by kernel_rfl
theorem rounds_j5 : (Rows.fnExactRoundsOfRow.stops == []) = true := by kernel_rfl
theorem rounds_j6 : (Tryz.checked.prog.stops == []) = true := by kernel_rfl
theorem rounds_j7 : (Rows.fnExactRoundsOfRow.knobs == []) = true := by kernel_rfl
theorem rounds_j8 : (Tryz.checked.prog.stopKnobs == []) = true := by kernel_rfl
theorem rounds_j9 : (Rows.fnExactRoundsOfRow.inPlace == Tryz.checked.prog.inPlace n_l_FnExactRoundsOf) = true := by kernel_rfl
theorem rounds_j10 : (Rows.fnExactRoundsOfRow.unfollowed == Tryz.checked.prog.unfollowed n_l_FnExactRoundsOf) = true := by kernel_rfl
theorem rounds_j11 : (Rows.fnExactRoundsOfRow.recurses == Tryz.checked.prog.recurses n_l_FnExactRoundsOf) = true := by kernel_rfl
theorem rounds_j12 : (Rows.fnExactRoundsOfRow.named == Tryz.checked.prog.varsNamed n_l_FnExactRoundsOf) = true := by kernel_rfl
theorem rounds_j13 : (Rows.fnExactRoundsOfRow.maps == (Tryz.f3.params.toList ++ Rows.fnExactRoundsOfSpec.plain.varTypes Tryz.checked.prog).any (Tryz.checked.prog.mapsRec ·)) = true := by kernel_rfl
theorem rounds_j14 : (Rows.fnExactRoundsOfRow.ifaces == (Tryz.f3.params.toList ++ Rows.fnExactRoundsOfSpec.plain.varTypes Tryz.checked.prog).any (Tryz.checked.prog.ifacesRec ·)) = true := by kernel_rfl
theorem rounds_j15 : (Rows.fnExactRoundsOfRow.mapsOut == Tryz.checked.prog.mapsAmong Tryz.f3.resultTypes.toList) = true := by kernel_rfl
theorem rounds_j16 : (Rows.fnExactRoundsOfRow.loops == (Tryz.f3.params.toList ++ Rows.fnExactRoundsOfSpec.plain.varTypes Tryz.checked.prog).any (Tryz.checked.prog.loopsFrom ·)) = true := by kernel_rfl
theorem rounds_j17 : (Rows.fnExactRoundsOfRow.wideKeys == (Tryz.f3.params.toList ++ Rows.fnExactRoundsOfSpec.plain.varTypes Tryz.checked.prog ++ Tryz.f3.resultTypes.toList).any (Tryz.checked.prog.wideKeysFrom ·)) = true := by kernel_rfl
theorem rounds_j18 : Rows.fnExactRoundsOfSpec.vars.all (Tryz.checked.prog.varReadable ·) = true := by kernel_rfl
theorem rounds_j19 : Tryz.f3.resultTypes.all (fun t => Tryz.checked.prog.readableRec t && decide (t < Tryz.checked.prog.types.size)) = true := by kernel_rfl
theorem rounds_j20 : (Rows.fnExactRoundsOfRow.ifacesOut == Tryz.f3.resultTypes.toList.any (Tryz.checked.prog.ifacesRec ·)) = true := by kernel_rfl
theorem rounds_j21 : (Rows.fnExactRoundsOfRow.loopsOut == Tryz.f3.resultTypes.toList.any (Tryz.checked.prog.loopsFrom ·)) = true := by kernel_rfl
theorem rounds_j22 : (Rows.fnExactRoundsOfRow.plainKeys == Tryz.checked.prog.plainKeys) = true := by kernel_rfl
theorem rounds_j23 : Rows.fnExactRoundsOfRow.shortTexts.isNone = true := by kernel_rfl
theorem rounds_j24 : Tryz.checked.prog.stopsHeard = true := by kernel_rfl
theorem rounds_j25 : Tryz.checked.prog.mayEnter = true := by kernel_rfl
theorem rounds_j26 : (Rows.fnExactRoundsOfRow.lifted == Tryz.checked.prog.liftsFinal) = true := by kernel_rfl
theorem rounds_j27 : (Tryz.checked.prog.make == some Rows.fnExactRoundsOfRow.make) = true := by kernel_rfl
theorem rounds_j28 : (Rows.fnExactRoundsOfRow.kinds == (if Rows.fnExactRoundsOfRow.domain.isEmpty then [] else Tryz.f3.params.toList.map fun t => match Tryz.checked.prog.underlying t with | some (.int k) => some k | _ => none)) = true := by kernel_rfl
theorem rounds_j29 : (Rows.fnExactRoundsOfRow.pinned == Rows.fnExactRoundsOfRow.pinnedBy) = true := by kernel_rfl
theorem rounds_j30 : (Rows.fnExactRoundsOfRow.veiled == (Tryz.f3.params.toList ++ Rows.fnExactRoundsOfSpec.plain.varTypes Tryz.checked.prog ++ Tryz.f3.resultTypes.toList).any (Tryz.checked.prog.veiledRec ·)) = true := by kernel_rfl
theorem rounds_j31 : Rows.fnExactRoundsOfRow.veiledFits Tryz.checked.prog Tryz.f3.params.toList (Tryz.f3.params.toList ++ Rows.fnExactRoundsOfSpec.plain.varTypes Tryz.checked.prog ++ Tryz.f3.resultTypes.toList) = true := by kernel_rfl
set_option maxRecDepth 100000 in
theorem rounds_closed : joinedFacts Tryz.checked.prog n_l_FnExactRoundsOf Tryz.f3 Rows.fnExactRoundsOfSpec Rows.fnExactRoundsOfRow = true := by
  unfold joinedFacts
  exact rounds_band (rounds_band (rounds_band (rounds_band (rounds_band (rounds_band (rounds_band (rounds_band (rounds_band (rounds_band (rounds_band (rounds_band (rounds_band (rounds_band (rounds_band (rounds_band (rounds_band (rounds_band (rounds_band (rounds_band (rounds_band (rounds_band (rounds_band (rounds_band (rounds_band (rounds_band (rounds_band (rounds_band (rounds_band (rounds_band (rounds_band rounds_j0 rounds_j1) rounds_j2) rounds_j3) rounds_j4) rounds_j5) rounds_j6) rounds_j7) rounds_j8) rounds_j9) rounds_j10) rounds_j11) rounds_j12) rounds_j13) rounds_j14) rounds_j15) rounds_j16) rounds_j17) rounds_j18) rounds_j19) rounds_j20) rounds_j21) rounds_j22) rounds_j23) rounds_j24) rounds_j25) rounds_j26) rounds_j27) rounds_j28) rounds_j29) rounds_j30) rounds_j31
theorem rounds_named : Tryz.checked.prog.funcNamed Rows.fnExactRoundsOfRow.func = some n_l_FnExactRoundsOf := by kernel_rfl
theorem rounds_inst : Tryz.f3.isInstance Tryz.checked.prog Rows.fnExactRoundsOfRow.origin Rows.fnExactRoundsOfRow.targs := of_decide_eq_true (by kernel_rfl)
theorem rounds_wrap : Tryz.f3.isWrapper Tryz.checked.prog Rows.fnExactRoundsOfRow.wrapper Rows.fnExactRoundsOfRow.mainSum := by unfold Func.isWrapper; first | (rw [if_pos (by decide +kernel)]; kernel_rfl) | (rw [if_neg (by decide +kernel)]; exact ⟨rfl, rfl⟩)
theorem rounds_holds : Rows.FnExactRoundsOfSaid :=
  OpenClaim.holds_of_wide n_l_FnExactRoundsOf Tryz.f3 rfl rfl rfl rfl rfl rfl rfl ⟨rfl, rfl, rfl, rfl, rfl⟩ rfl rfl rfl rfl rfl rounds_named Tryz.func3 rounds_closed rounds_inst rounds_wrap
    (fun os started H enc _ => rounds_lifted os started H enc)

#print axioms rounds_holds
end Go.Proofs.YtgdibnmabnimaaaGreat
