/- FnPredsOf returns true, whatever bytes come in, and leaves them as they were. No condition. -/
import Derived.Test.YtmnnpgdeecnfpaaGreatZPa7
namespace Go.Proofs.YtmnnpgdeecnfpaaGreat
open Go Go.ChangeShapes Go.WideShapes Go.ChangeAt Go.RowKit

set_option maxRecDepth 100000 in
theorem pPreds_lifted (os : Os) (started : os.Started) (H : Type) (enc : TypeId × Value → H) :
    ReturnsInHanded {} Tryz.checked os n_l_FnPredsOf .any (Rows.fnPredsOfSpec.pre6 enc Tryz.prog Tryz.f3 Rows.fnPredsOfRow.domain false)
      (Rows.fnPredsOfSpec.post enc Tryz.prog Tryz.f3 false true false false) := by
  refine returnsInHanded_of_change (C := Tryz.checked) Tryz.own started (by kernel_rfl) Tryz.func3
    (ChangeSpec.witness6 (enc := enc) (C := Tryz.checked) false ⟨#[], #[.slice none 0 0], []⟩ 8 (by kernel_rfl) (by kernel_rfl) (by kernel_rfl) (by kernel_rfl)) ?_
  intro W base args ds gs before hval0 hW _ _
  have hval : ∀ (j : Nat) t v, Tryz.f3.params[j]? = some t → args[j]? = some v → Value.okWide Tryz.prog W .any base t v := hval0
  have hW' := hW
  obtain ⟨p, q, hA0, hV, hb, _, _⟩ := hW
  have hA : DataW.TrodAll enc Tryz.prog W 0 (fun _ => true) true Tryz.f3.params.toList args.toList ds p := hA0
  have hA1 := hA
  rw [Tryz.params3] at hA1 hval
  obtain ⟨v0, d0, rfl, rfl, h0⟩ := trodAll_one hA1
  obtain ⟨n, hn⟩ := h0
  obtain rfl := (trodVars_none (show DataW.TrodVars enc Tryz.prog W (fun _ => true) [] gs q from hV)).1
  obtain ⟨a, len, cap, rfl⟩ := okWide_slice (slice_parts sl_Suint8).1 (hval 0 _ _ rfl rfl)
  obtain ⟨xs, hxs⟩ := trod_bytes hn
  refine (lawPPreds_calls hxs W (Inv.entry W)).mono fun e W' ⟨he, hI⟩ => ?_
  subst he
  exact ⟨_, rfl, post_true hW' hA hV hb rfl (by rw [Tryz.params3]; decide +kernel) (by kernel_rfl) rfl rfl rfl hI⟩

theorem pPreds_band {a b : Bool} (ha : a = true) (hb : b = true) : (a && b) = true := by rw [ha, hb]; rfl
theorem pPreds_j0 : Rows.fnPredsOfRow.wf (OpenSpec.ofChange Rows.fnPredsOfSpec) = true := by kernel_rfl
theorem pPreds_j1 : laidOutB Tryz.checked.prog = true := by kernel_rfl
theorem pPreds_j2 : mapsRowed Tryz.checked.prog = true := by kernel_rfl
theorem pPreds_j3 : Tryz.f3.params.all (Tryz.checked.prog.readableRec ·) = true := by kernel_rfl
theorem pPreds_j4 : namedTie Tryz.checked.prog Rows.fnPredsOfRow.named Rows.fnPredsOfSpec.vars = true := by kernel_rfl
theorem pPreds_j5 : (Rows.fnPredsOfRow.stops == []) = true := by kernel_rfl
theorem pPreds_j6 : (Tryz.checked.prog.stops == []) = true := by kernel_rfl
theorem pPreds_j7 : (Rows.fnPredsOfRow.knobs == []) = true := by kernel_rfl
theorem pPreds_j8 : (Tryz.checked.prog.stopKnobs == []) = true := by kernel_rfl
theorem pPreds_j9 : (Rows.fnPredsOfRow.inPlace == Tryz.checked.prog.inPlace n_l_FnPredsOf) = true := by kernel_rfl
theorem pPreds_j10 : (Rows.fnPredsOfRow.unfollowed == Tryz.checked.prog.unfollowed n_l_FnPredsOf) = true := by kernel_rfl
theorem pPreds_j11 : (Rows.fnPredsOfRow.recurses == Tryz.checked.prog.recurses n_l_FnPredsOf) = true := by kernel_rfl
theorem pPreds_j12 : (Rows.fnPredsOfRow.named == Tryz.checked.prog.varsNamed n_l_FnPredsOf) = true := by kernel_rfl
theorem pPreds_j13 : (Rows.fnPredsOfRow.maps == (Tryz.f3.params.toList ++ Rows.fnPredsOfSpec.plain.varTypes Tryz.checked.prog).any (Tryz.checked.prog.mapsRec ·)) = true := by kernel_rfl
theorem pPreds_j14 : (Rows.fnPredsOfRow.ifaces == (Tryz.f3.params.toList ++ Rows.fnPredsOfSpec.plain.varTypes Tryz.checked.prog).any (Tryz.checked.prog.ifacesRec ·)) = true := by kernel_rfl
theorem pPreds_j15 : (Rows.fnPredsOfRow.mapsOut == Tryz.checked.prog.mapsAmong Tryz.f3.resultTypes.toList) = true := by kernel_rfl
theorem pPreds_j16 : (Rows.fnPredsOfRow.loops == (Tryz.f3.params.toList ++ Rows.fnPredsOfSpec.plain.varTypes Tryz.checked.prog).any (Tryz.checked.prog.loopsFrom ·)) = true := by kernel_rfl
theorem pPreds_j17 : (Rows.fnPredsOfRow.wideKeys == (Tryz.f3.params.toList ++ Rows.fnPredsOfSpec.plain.varTypes Tryz.checked.prog ++ Tryz.f3.resultTypes.toList).any (Tryz.checked.prog.wideKeysFrom ·)) = true := by kernel_rfl
theorem pPreds_j18 : Rows.fnPredsOfSpec.vars.all (Tryz.checked.prog.varReadable ·) = true := by kernel_rfl
theorem pPreds_j19 : Tryz.f3.resultTypes.all (fun t => Tryz.checked.prog.readableRec t && decide (t < Tryz.checked.prog.types.size)) = true := by kernel_rfl
theorem pPreds_j20 : (Rows.fnPredsOfRow.ifacesOut == Tryz.f3.resultTypes.toList.any (Tryz.checked.prog.ifacesRec ·)) = true := by kernel_rfl
theorem pPreds_j21 : (Rows.fnPredsOfRow.loopsOut == Tryz.f3.resultTypes.toList.any (Tryz.checked.prog.loopsFrom ·)) = true := by kernel_rfl
theorem pPreds_j22 : (Rows.fnPredsOfRow.plainKeys == Tryz.checked.prog.plainKeys) = true := by kernel_rfl
theorem pPreds_j23 : Rows.fnPredsOfRow.shortTexts.isNone = true := by kernel_rfl
theorem pPreds_j24 : Tryz.checked.prog.stopsHeard = true := by kernel_rfl
theorem pPreds_j25 : Tryz.checked.prog.mayEnter = true := by kernel_rfl
theorem pPreds_j26 : (Rows.fnPredsOfRow.lifted == Tryz.checked.prog.liftsFinal) = true := by kernel_rfl
theorem pPreds_j27 : (Tryz.checked.prog.make == some Rows.fnPredsOfRow.make) = true := by kernel_rfl
theorem pPreds_j28 : (Rows.fnPredsOfRow.kinds == (if Rows.fnPredsOfRow.domain.isEmpty then [] else Tryz.f3.params.toList.map fun t => match Tryz.checked.prog.underlying t with | some (.int k) => some k | _ => none)) = true := by kernel_rfl
theorem pPreds_j29 : (Rows.fnPredsOfRow.pinned == Rows.fnPredsOfRow.pinnedBy) = true := by kernel_rfl
theorem pPreds_j30 : (Rows.fnPredsOfRow.veiled == (Tryz.f3.params.toList ++ Rows.fnPredsOfSpec.plain.varTypes Tryz.checked.prog ++ Tryz.f3.resultTypes.toList).any (Tryz.checked.prog.veiledRec ·)) = true := by kernel_rfl
theorem pPreds_j31 : Rows.fnPredsOfRow.veiledFits Tryz.checked.prog Tryz.f3.params.toList (Tryz.f3.params.toList ++ Rows.fnPredsOfSpec.plain.varTypes Tryz.checked.prog ++ Tryz.f3.resultTypes.toList) = true := by kernel_rfl
set_option maxRecDepth 100000 in
theorem pPreds_closed : joinedFacts Tryz.checked.prog n_l_FnPredsOf Tryz.f3 Rows.fnPredsOfSpec Rows.fnPredsOfRow = true := by
  unfold joinedFacts
  exact pPreds_band (pPreds_band (pPreds_band (pPreds_band (pPreds_band (pPreds_band (pPreds_band (pPreds_band (pPreds_band (pPreds_band (pPreds_band (pPreds_band (pPreds_band (pPreds_band (pPreds_band (pPreds_band (pPreds_band (pPreds_band (pPreds_band (pPreds_band (pPreds_band (pPreds_band (pPreds_band (pPreds_band (pPreds_band (pPreds_band (pPreds_band (pPreds_band (pPreds_band (pPreds_band (pPreds_band pPreds_j0 pPreds_j1) pPreds_j2) pPreds_j3) pPreds_j4) pPreds_j5) pPreds_j6) pPreds_j7) pPreds_j8) pPreds_j9) pPreds_j10) pPreds_j11) pPreds_j12) pPreds_j13) pPreds_j14) pPreds_j15) pPreds_j16) pPreds_j17) pPreds_j18) pPreds_j19) pPreds_j20) pPreds_j21) pPreds_j22) pPreds_j23) pPreds_j24) pPreds_j25) pPreds_j26) pPreds_j27) pPreds_j28) pPreds_j29) pPreds_j30) pPreds_j31
theorem pPreds_named : Tryz.checked.prog.funcNamed Rows.fnPredsOfRow.func = some n_l_FnPredsOf := by kernel_rfl
theorem pPreds_inst : Tryz.f3.isInstance Tryz.checked.prog Rows.fnPredsOfRow.origin Rows.fnPredsOfRow.targs := of_decide_eq_true (by kernel_rfl)
theorem pPreds_wrap : Tryz.f3.isWrapper Tryz.checked.prog Rows.fnPredsOfRow.wrapper Rows.fnPredsOfRow.mainSum := by unfold Func.isWrapper; first | (rw [if_pos (by decide +kernel)]; kernel_rfl) | (rw [if_neg (by decide +kernel)]; exact ⟨rfl, rfl⟩)
theorem pPreds_holds : Rows.FnPredsOfSaid :=
  OpenClaim.holds_of_wide n_l_FnPredsOf Tryz.f3 rfl rfl rfl rfl rfl rfl rfl ⟨rfl, rfl, rfl, rfl, rfl⟩ rfl rfl rfl rfl rfl pPreds_named Tryz.func3 pPreds_closed pPreds_inst pPreds_wrap
    (fun os started H enc _ => pPreds_lifted os started H enc)

#print axioms pPreds_holds
end Go.Proofs.YtmnnpgdeecnfpaaGreat
