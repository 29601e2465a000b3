/- FnMoveTwice returns true, whatever bytes come in, and leaves them as they were. No condition. -/
import Derived.Test.YtmnnpgdeecnfpaaGreatZPa7
namespace Go.Proofs.YtmnnpgdeecnfpaaGreat
open Go Go.ChangeShapes Go.WideShapes Go.ChangeAt Go.RowKit

set_option maxRecDepth 100000 in
theorem pMove_lifted (os : Os) (started : os.Started) (H : Type) (enc : TypeId × Value → H) :
    ReturnsInHanded {} Tryz.checked os n_l_FnMoveTwice .any (Rows.fnMoveTwiceSpec.pre6 enc Tryz.prog Tryz.f6 Rows.fnMoveTwiceRow.domain false)
      (Rows.fnMoveTwiceSpec.post enc Tryz.prog Tryz.f6 false true false false) := by
  refine returnsInHanded_of_change (C := Tryz.checked) Tryz.own started (by kernel_rfl) Tryz.func6
    (ChangeSpec.witness6 (enc := enc) (C := Tryz.checked) false ⟨#[], #[.slice none 0 0], []⟩ 8 (by kernel_rfl) (by kernel_rfl) (by kernel_rfl) (by kernel_rfl)) ?_
  intro W base args ds gs before hval0 hW _ _
  have hval : ∀ (j : Nat) t v, Tryz.f6.params[j]? = some t → args[j]? = some v → Value.okWide Tryz.prog W .any base t v := hval0
  have hW' := hW
  obtain ⟨p, q, hA0, hV, hb, _, _⟩ := hW
  have hA : DataW.TrodAll enc Tryz.prog W 0 (fun _ => true) true Tryz.f6.params.toList args.toList ds p := hA0
  have hA1 := hA
  rw [Tryz.params6] at hA1 hval
  obtain ⟨v0, d0, rfl, rfl, h0⟩ := trodAll_one hA1
  obtain ⟨n, hn⟩ := h0
  obtain rfl := (trodVars_none (show DataW.TrodVars enc Tryz.prog W (fun _ => true) [] gs q from hV)).1
  obtain ⟨a, len, cap, rfl⟩ := okWide_slice (slice_parts sl_Suint8).1 (hval 0 _ _ rfl rfl)
  obtain ⟨xs, hxs⟩ := trod_bytes hn
  refine (lawPMove_calls hxs W (Inv.entry W)).mono fun e W' ⟨he, hI⟩ => ?_
  subst he
  exact ⟨_, rfl, post_true hW' hA hV hb rfl (by rw [Tryz.params6]; decide +kernel) (by kernel_rfl) rfl rfl rfl hI⟩

theorem pMove_band {a b : Bool} (ha : a = true) (hb : b = true) : (a && b) = true := by rw [ha, hb]; rfl
theorem pMove_j0 : Rows.fnMoveTwiceRow.wf (OpenSpec.ofChange Rows.fnMoveTwiceSpec) = true := by kernel_rfl
theorem pMove_j1 : laidOutB Tryz.checked.prog = true := by kernel_rfl
theorem pMove_j2 : mapsRowed Tryz.checked.prog = true := by kernel_rfl
theorem pMove_j3 : Tryz.f6.params.all (Tryz.checked.prog.readableRec ·) = true := by kernel_rfl
theorem pMove_j4 : namedTie Tryz.checked.prog Rows.fnMoveTwiceRow.named Rows.fnMoveTwiceSpec.vars = true := by kernel_rfl
theorem pMove_j5 : (Rows.fnMoveTwiceRow.stops == []) = true := by kernel_rfl
theorem pMove_j6 : (Tryz.checked.prog.stops == []) = true := by kernel_rfl
theorem pMove_j7 : (Rows.fnMoveTwiceRow.knobs == []) = true := by kernel_rfl
theorem pMove_j8 : (Tryz.checked.prog.stopKnobs == []) = true := by kernel_rfl
theorem pMove_j9 : (Rows.fnMoveTwiceRow.inPlace == Tryz.checked.prog.inPlace n_l_FnMoveTwice) = true := by kernel_rfl
theorem pMove_j10 : (Rows.fnMoveTwiceRow.unfollowed == Tryz.checked.prog.unfollowed n_l_FnMoveTwice) = true := by kernel_rfl
theorem pMove_j11 : (Rows.fnMoveTwiceRow.recurses == Tryz.checked.prog.recurses n_l_FnMoveTwice) = true := by kernel_rfl
theorem pMove_j12 : (Rows.fnMoveTwiceRow.named == Tryz.checked.prog.varsNamed n_l_FnMoveTwice) = true := by kernel_rfl
theorem pMove_j13 : (Rows.fnMoveTwiceRow.maps == (Tryz.f6.params.toList ++ Rows.fnMoveTwiceSpec.plain.varTypes Tryz.checked.prog).any (Tryz.checked.prog.mapsRec ·)) = true := by kernel_rfl
theorem pMove_j14 : (Rows.fnMoveTwiceRow.ifaces == (Tryz.f6.params.toList ++ Rows.fnMoveTwiceSpec.plain.varTypes Tryz.checked.prog).any (Tryz.checked.prog.ifacesRec ·)) = true := by kernel_rfl
theorem pMove_j15 : (Rows.fnMoveTwiceRow.mapsOut == Tryz.checked.prog.mapsAmong Tryz.f6.resultTypes.toList) = true := by kernel_rfl
theorem pMove_j16 : (Rows.fnMoveTwiceRow.loops == (Tryz.f6.params.toList ++ Rows.fnMoveTwiceSpec.plain.varTypes Tryz.checked.prog).any (Tryz.checked.prog.loopsFrom ·)) = true := by kernel_rfl
theorem pMove_j17 : (Rows.fnMoveTwiceRow.wideKeys == (Tryz.f6.params.toList ++ Rows.fnMoveTwiceSpec.plain.varTypes Tryz.checked.prog ++ Tryz.f6.resultTypes.toList).any (Tryz.checked.prog.wideKeysFrom ·)) = true := by kernel_rfl
theorem pMove_j18 : Rows.fnMoveTwiceSpec.vars.all (Tryz.checked.prog.varReadable ·) = true := by kernel_rfl
theorem pMove_j19 : Tryz.f6.resultTypes.all (fun t => Tryz.checked.prog.readableRec t && decide (t < Tryz.checked.prog.types.size)) = true := by kernel_rfl
theorem pMove_j20 : (Rows.fnMoveTwiceRow.ifacesOut == Tryz.f6.resultTypes.toList.any (Tryz.checked.prog.ifacesRec ·)) = true := by kernel_rfl
theorem pMove_j21 : (Rows.fnMoveTwiceRow.loopsOut == Tryz.f6.resultTypes.toList.any (Tryz.checked.prog.loopsFrom ·)) = true := by kernel_rfl
theorem pMove_j22 : (Rows.fnMoveTwiceRow.plainKeys == Tryz.checked.prog.plainKeys) = true := by kernel_rfl
theorem pMove_j23 : Rows.fnMoveTwiceRow.shortTexts.isNone = true := by kernel_rfl
theorem pMove_j24 : Tryz.checked.prog.stopsHeard = true := by kernel_rfl
theorem pMove_j25 : Tryz.checked.prog.mayEnter = true := by kernel_rfl
theorem pMove_j26 : (Rows.fnMoveTwiceRow.lifted == Tryz.checked.prog.liftsFinal) = true := by kernel_rfl
theorem pMove_j27 : (Tryz.checked.prog.make == some Rows.fnMoveTwiceRow.make) = true := by kernel_rfl
theorem pMove_j28 : (Rows.fnMoveTwiceRow.kinds == (if Rows.fnMoveTwiceRow.domain.isEmpty then [] else Tryz.f6.params.toList.map fun t => match Tryz.checked.prog.underlying t with | some (.int k) => some k | _ => none)) = true := by kernel_rfl
theorem pMove_j29 : (Rows.fnMoveTwiceRow.pinned == Rows.fnMoveTwiceRow.pinnedBy) = true := by kernel_rfl
theorem pMove_j30 : (Rows.fnMoveTwiceRow.veiled == (Tryz.f6.params.toList ++ Rows.fnMoveTwiceSpec.plain.varTypes Tryz.checked.prog ++ Tryz.f6.resultTypes.toList).any (Tryz.checked.prog.veiledRec ·)) = true := by kernel_rfl
theorem pMove_j31 : Rows.fnMoveTwiceRow.veiledFits Tryz.checked.prog Tryz.f6.params.toList (Tryz.f6.params.toList ++ Rows.fnMoveTwiceSpec.plain.varTypes Tryz.checked.prog ++ Tryz.f6.resultTypes.toList) = true := by kernel_rfl
set_option maxRecDepth 100000 in
theorem pMove_closed : joinedFacts Tryz.checked.prog n_l_FnMoveTwice Tryz.f6 Rows.fnMoveTwiceSpec Rows.fnMoveTwiceRow = true := by
  unfold joinedFacts
  exact pMove_band (pMove_band (pMove_band (pMove_band (pMove_band (pMove_band (pMove_band (pMove_band (pMove_band (pMove_band (pMove_band (pMove_band (pMove_band (pMove_band (pMove_band (pMove_band (pMove_band (pMove_band (pMove_band (pMove_band (pMove_band (pMove_band (pMove_band (pMove_band (pMove_band (pMove_band (pMove_band (pMove_band (pMove_band (pMove_band (pMove_band pMove_j0 pMove_j1) pMove_j2) pMove_j3) pMove_j4) pMove_j5) pMove_j6) pMove_j7) pMove_j8) pMove_j9) pMove_j10) pMove_j11) pMove_j12) pMove_j13) pMove_j14) pMove_j15) pMove_j16) pMove_j17) pMove_j18) pMove_j19) pMove_j20) pMove_j21) pMove_j22) pMove_j23) pMove_j24) pMove_j25) pMove_j26) pMove_j27) pMove_j28) pMove_j29) pMove_j30) pMove_j31
theorem pMove_named : Tryz.checked.prog.funcNamed Rows.fnMoveTwiceRow.func = some n_l_FnMoveTwice := by kernel_rfl
theorem pMove_inst : Tryz.f6.isInstance Tryz.checked.prog Rows.fnMoveTwiceRow.origin Rows.fnMoveTwiceRow.targs := of_decide_eq_true (by kernel_rfl)
theorem pMove_wrap : Tryz.f6.isWrapper Tryz.checked.prog Rows.fnMoveTwiceRow.wrapper Rows.fnMoveTwiceRow.mainSum := by unfold Func.isWrapper; first | (rw [if_pos (by decide +kernel)]; kernel_rfl) | (rw [if_neg (by decide +kernel)]; exact ⟨rfl, rfl⟩)
theorem pMove_holds : Rows.FnMoveTwiceSaid :=
  OpenClaim.holds_of_wide n_l_FnMoveTwice Tryz.f6 rfl rfl rfl rfl rfl rfl rfl ⟨rfl, rfl, rfl, rfl, rfl⟩ rfl rfl rfl rfl rfl pMove_named Tryz.func6 pMove_closed pMove_inst pMove_wrap
    (fun os started H enc _ => pMove_lifted os started H enc)

#print axioms pMove_holds
end Go.Proofs.YtmnnpgdeecnfpaaGreat
