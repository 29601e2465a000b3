/- FnExactRecursivePred returns true, whatever the program and the predicate that come in. -/
import Derived.Test.YtnoieadimkgjcaaSzP
import Derived.Test.YtnoieadimkgjcaaRecur
namespace Go.Proofs.Ytnoieadimkgjcaa
open Go Go.RowKit
section
attribute [local irreducible] Run CondV GuardV LoadV
theorem lawRecur_calls {p : List C} {S : Store} {v : Value} (x : Pd) (hs : x.name.size ≤ maxLen) (h : RdSl S 5 (RdC S) v p) : Pure Try.prog n_l_FnExactRecursivePred [v, .agg x.cells.toArray] S (.bool true) := by
  intro w hI
  refine calls_l_FnExactRecursivePred ?_
  unfold sh_l_FnExactRecursivePred
  refine r_box hI fun b3 w' hI => ?_
  have hI : Inv w [] [.blk b3 (.cells x.cells.toArray t_lPred)] S w' := hI
  refine Run.callPure fn_l_szClauseS nm_l_szClauseS hI (szClauseS_calls h (by omega) (by omega)) fun w' hI => ?_
  refine r_lss ?_
  refine condP (fun _ => done hI rfl) (fun hsz => ?_)
  have hw := sz_wPs (p := p) (left := 1048576) (by omega)
  refine r_loadW hI 0 ag_lPred rfl rfl ?_
  have hle0 := (szPs_le p 1048576 (by omega)).2
  refine Run.callPure fn_l_szPred nm_l_szPred hI (szPred_calls hs (by omega) (by omega)) fun w' hI => ?_
  refine r_lss ?_
  refine condP (fun _ => done hI rfl) (fun _ => ?_)
  have hw : p.length + wP p ≤ 1048576 := by omega
  refine ⟨fun D x6 x23 x22 x21 x20 x19 w_ => (D 0 = true → x19 = v) ∧ (D 1 = true → True) ∧ (D 2 = true → x21 = .agg x.cells.toArray) ∧ (D 3 = true → x22 = .agg x.cells.toArray) ∧ (D 4 = true → x23 = .bool (recurB p x)) ∧ (D 5 = true → x6 = .bool (recurB p x)) ∧ ∃ S1, Sle S S1 ∧ (D 1 = true → RdSl S1 5 (RdC S1) x20 p) ∧ Inv w [] [.blk b3 (.cells x.cells.toArray t_lPred)] S1 w_, ⟨fun h => Bool.noConfusion h, fun h => Bool.noConfusion h, fun h => Bool.noConfusion h, fun h => Bool.noConfusion h, fun h => Bool.noConfusion h, fun h => Bool.noConfusion h, ⟨S, Sle.refl S, fun h => Bool.noConfusion h, hI.draw⟩⟩, ⟨?_, ?_, ?_, ?_, ?_, ?_, trivial⟩, ?_⟩
  · intro D hD_  x6 x23 x22 x21 x20 x19 w_
    rintro ⟨h0_, h1_, h2_, h3_, h4_, h5_, ⟨S1, hle, h1, hI⟩⟩
    exact ⟨fun _ => rfl, h1_, h2_, h3_, h4_, h5_, ⟨S1, hle, h1, hI⟩⟩
  · intro D hD_ d0_0 x6 x23 x22 x21 x20 x19 w_
    rintro ⟨h0_, h1_, h2_, h3_, h4_, h5_, ⟨S1, hle, h1, hI⟩⟩
    obtain rfl := h0_ d0_0
    refine Run.toClauseS hI (h.monoC hle) hw fun v1 S1 w_ hle1 h1 hI => ?_
    have hle := hle.trans hle1
    have h1 := fun (_ : setD D 1 1 = true) => h1
    exact ⟨h0_, fun _ => by first | assumption | trivial, h2_, h3_, h4_, h5_, ⟨S1, hle, h1, hI⟩⟩
  · intro D hD_  x6 x23 x22 x21 x20 x19 w_
    rintro ⟨h0_, h1_, h2_, h3_, h4_, h5_, ⟨S1, hle, h1, hI⟩⟩
    refine r_loadW hI 0 ag_lPred rfl rfl ?_
    exact ⟨h0_, h1_, fun _ => rfl, h3_, h4_, h5_, ⟨S1, hle, h1, hI⟩⟩
  · intro D hD_ d2_0 d1_1 x6 x23 x22 x21 x20 x19 w_
    rintro ⟨h0_, h1_, h2_, h3_, h4_, h5_, ⟨S1, hle, h1, hI⟩⟩
    obtain rfl := h2_ d2_0
    refine Run.callPure fn_l_toPred nm_l_toPred hI toPred_calls fun w_ hI => ?_
    exact ⟨h0_, h1_, h2_, fun _ => rfl, h4_, h5_, ⟨S1, hle, h1, hI⟩⟩
  · intro D hD_ d1_0 d3_1 d3_2 x6 x23 x22 x21 x20 x19 w_
    rintro ⟨h0_, h1_, h2_, h3_, h4_, h5_, ⟨S1, hle, h1, hI⟩⟩
    have g1_ := h1_ d1_0
    obtain rfl := h3_ d3_1
    refine Run.callPure fn_s_RecursivePred nm_s_RecursivePred hI (s_RecursivePred_calls x (h1 d1_0) hw) fun w_ hI => ?_
    exact ⟨h0_, h1_, h2_, h3_, fun _ => rfl, h5_, ⟨S1, hle, h1, hI⟩⟩
  · intro D hD_ d4_0 d4_1 d0_2 d1_3 d2_4 d3_5 d4_6 x6 x23 x22 x21 x20 x19 w_
    rintro ⟨h0_, h1_, h2_, h3_, h4_, h5_, ⟨S1, hle, h1, hI⟩⟩
    obtain rfl := h4_ d4_0
    exact ⟨h0_, h1_, h2_, h3_, h4_, fun _ => rfl, ⟨S1, hle, h1, hI⟩⟩
  intro D d5_ d4_ d3_ d2_ d1_ d0_ x6 x23 x22 x21 x20 x19 w_
  rintro ⟨h0_, h1_, h2_, h3_, h4_, h5_, ⟨S1, hle, h1, hI⟩⟩
  obtain rfl := h5_ d5_
  obtain rfl := h4_ d4_
  obtain rfl := h3_ d3_
  obtain rfl := h2_ d2_
  have g1_ := h1_ d1_
  obtain rfl := h0_ d0_
  clear h0_ h1_ h2_ h3_ h4_ h5_
  clear h1
  refine Run.toClauseS hI (h.monoC hle) hw fun v2 S2 w' hle2 h2 hI => ?_
  refine r_loadW hI 0 ag_lPred rfl rfl ?_
  refine Run.callPure fn_l_toPred nm_l_toPred hI toPred_calls fun w' hI => ?_
  refine Run.callPure fn_i_RecursivePred nm_i_RecursivePred hI (i_RecursivePred_calls x h2 hw) fun w' hI => ?_
  refine r_bneq un_bool ?_
  refine condV (fun hb => by simp at hb) (fun _ => ?_)
  refine Run.toClauseS hI (h.monoC (hle.trans hle2)) hw fun v3 S3 w' hle3 h3 hI => ?_
  refine Run.callPure fn_l_eqClauseS nm_l_eqClauseS hI (eqClauseS_calls (h2.monoC hle3) h3) fun w' hI => ?_
  refine r_not ?_
  rw [(eqP_iff p p).2 rfl]
  have hle := hle.trans (hle2.trans hle3)
  exact condV (fun hb => by simp at hb) (fun _ => doneS hI hle rfl)
end

end Go.Proofs.Ytnoieadimkgjcaa
