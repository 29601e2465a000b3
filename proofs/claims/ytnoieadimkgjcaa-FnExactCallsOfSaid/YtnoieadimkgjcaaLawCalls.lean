/- FnExactCallsOf returns true, whatever the program and the predicate that come in. -/
import Derived.Test.YtnoieadimkgjcaaLawM
import Derived.Test.YtnoieadimkgjcaaPredsOf
import Derived.Test.YtnoieadimkgjcaaSzP
namespace Go.Proofs.Ytnoieadimkgjcaa
open Go Go.RowKit
section
attribute [local irreducible] Run CondV GuardV LoadV
theorem callsOf_len (p : List C) (x : Pd) : (callsOf p x).length ≤ wP p := by
  unfold callsOf
  split
  · have := callsP_len p x
    have := gPs_le p
    omega
  · exact Nat.zero_le _
theorem lawCalls_calls {p : List C} {S : Store} {v : Value} (x : Pd) (hs : x.name.size ≤ maxLen) (h : RdSl S 5 (RdC S) v p) : Pure Try.prog n_l_FnExactCallsOf [v, .agg x.cells.toArray] S (.bool true) := by
  intro w hI
  refine calls_l_FnExactCallsOf ?_
  unfold sh_l_FnExactCallsOf
  refine r_box hI fun b3 w' hI => ?_
  have hI : Inv w [] [.blk b3 (.cells x.cells.toArray t_lPred)] S w' := hI
  refine Run.callPure fn_l_szClauseS nm_l_szClauseS hI (szClauseS_calls h (by omega) (by omega)) fun w' hI => ?_
  refine r_lss ?_
  refine condP (fun _ => done hI rfl) (fun hsz => ?_)
  have hw := sz_wPs (p := p) (left := 1048576) (by omega)
  have hle0 := (szPs_le p 1048576 (by omega)).2
  refine r_loadW hI 0 ag_lPred rfl rfl ?_
  refine Run.callPure fn_l_szPred nm_l_szPred hI (szPred_calls hs (by omega) (by omega)) fun w' hI => ?_
  refine r_lss ?_
  refine condP (fun _ => done hI rfl) (fun _ => ?_)
  have hw : p.length + wP p ≤ 1048576 := by omega
  have hcn := cntP_wP p
  have hcp := cntP_pos p
  have hll := callsOf_len p x
  generalize hl : callsOf p x = l at hll
  refine ⟨fun D x6 x27 x26 x25 x24 x23 w_ => (D 0 = true → x23 = v) ∧ (D 1 = true → True) ∧ (D 2 = true → x25 = .agg x.cells.toArray) ∧ (D 3 = true → x26 = .agg x.cells.toArray) ∧ (D 4 = true → True) ∧ (D 5 = true → True) ∧ ∃ S1, Sle S S1 ∧ (D 1 = true → RdSl S1 5 (RdC S1) x24 p) ∧ (D 4 = true → RdSl S1 2 RdPd x27 l) ∧ (D 5 = true → RdSl S1 2 RdPd x6 l) ∧ Inv w [] [.blk b3 (.cells x.cells.toArray t_lPred)] S1 w_, ⟨fun h => Bool.noConfusion h, fun h => Bool.noConfusion h, fun h => Bool.noConfusion h, fun h => Bool.noConfusion h, fun h => Bool.noConfusion h, fun h => Bool.noConfusion h, ⟨S, Sle.refl S, fun h => Bool.noConfusion h, fun h => Bool.noConfusion h, fun h => Bool.noConfusion h, hI.draw⟩⟩, ⟨?_, ?_, ?_, ?_, ?_, ?_, trivial⟩, ?_⟩
  · intro D hD_  x6 x27 x26 x25 x24 x23 w_
    rintro ⟨h0_, h1_, h2_, h3_, h4_, h5_, ⟨S1, hle, h1, h4, h5, hI⟩⟩
    exact ⟨fun _ => rfl, h1_, h2_, h3_, h4_, h5_, ⟨S1, hle, h1, h4, h5, hI⟩⟩
  · intro D hD_ d0_0 x6 x27 x26 x25 x24 x23 w_
    rintro ⟨h0_, h1_, h2_, h3_, h4_, h5_, ⟨S1, hle, h1, h4, h5, hI⟩⟩
    obtain rfl := h0_ d0_0
    refine Run.toClauseS hI (h.monoC hle) hw fun v1 S1 w_ hle1 h1 hI => ?_
    have hle := hle.trans hle1
    have h4 := fun (e : setD D 1 4 = true) => (h4 e).mono hle1 fun _ _ h => h
    have h5 := fun (e : setD D 1 5 = true) => (h5 e).mono hle1 fun _ _ h => h
    have h1 := fun (_ : setD D 1 1 = true) => h1
    exact ⟨h0_, fun _ => by first | assumption | trivial, h2_, h3_, h4_, h5_, ⟨S1, hle, h1, h4, h5, hI⟩⟩
  · intro D hD_  x6 x27 x26 x25 x24 x23 w_
    rintro ⟨h0_, h1_, h2_, h3_, h4_, h5_, ⟨S1, hle, h1, h4, h5, hI⟩⟩
    refine r_loadW hI 0 ag_lPred rfl rfl ?_
    exact ⟨h0_, h1_, fun _ => rfl, h3_, h4_, h5_, ⟨S1, hle, h1, h4, h5, hI⟩⟩
  · intro D hD_ d2_0 d1_1 x6 x27 x26 x25 x24 x23 w_
    rintro ⟨h0_, h1_, h2_, h3_, h4_, h5_, ⟨S1, hle, h1, h4, h5, hI⟩⟩
    obtain rfl := h2_ d2_0
    refine Run.callPure fn_l_toPred nm_l_toPred hI toPred_calls fun w_ hI => ?_
    exact ⟨h0_, h1_, h2_, fun _ => rfl, h4_, h5_, ⟨S1, hle, h1, h4, h5, hI⟩⟩
  · intro D hD_ d1_0 d3_1 d3_2 x6 x27 x26 x25 x24 x23 w_
    rintro ⟨h0_, h1_, h2_, h3_, h4_, h5_, ⟨S1, hle, h1, h4, h5, hI⟩⟩
    have g1_ := h1_ d1_0
    obtain rfl := h3_ d3_1
    refine Run.pubRow (l := l) fn_s_CallsOf nm_s_CallsOf hI (by rw [← hl]; exact s_CallsOf_calls x (h1 d1_0) hw) fun v2 S1 w_ hle2 h2 hI => ?_
    have hle := hle.trans hle2
    have h1 := fun (e : setD D 4 1 = true) => (h1 e).monoC hle2
    have h5 := fun (e : setD D 4 5 = true) => (h5 e).mono hle2 fun _ _ h => h
    have h4 := fun (_ : setD D 4 4 = true) => h2
    exact ⟨h0_, h1_, h2_, h3_, fun _ => by first | assumption | trivial, h5_, ⟨S1, hle, h1, h4, h5, hI⟩⟩
  · intro D hD_ d4_0 d4_1 d0_2 d1_3 d2_4 d3_5 d4_6 x6 x27 x26 x25 x24 x23 w_
    rintro ⟨h0_, h1_, h2_, h3_, h4_, h5_, ⟨S1, hle, h1, h4, h5, hI⟩⟩
    have g4_ := h4_ d4_0
    have h5 := fun (_ : setD D 5 5 = true) => h4 d4_0
    exact ⟨h0_, h1_, h2_, h3_, h4_, fun _ => by first | assumption | trivial, ⟨S1, hle, h1, h4, h5, hI⟩⟩
  intro D d5_ d4_ d3_ d2_ d1_ d0_ x6 x27 x26 x25 x24 x23 w_
  rintro ⟨h0_, h1_, h2_, h3_, h4_, h5_, ⟨S1, hle, h1, h4, h5, hI⟩⟩
  have g5_ := h5_ d5_
  have g4_ := h4_ d4_
  obtain rfl := h3_ d3_
  obtain rfl := h2_ d2_
  have g1_ := h1_ d1_
  obtain rfl := h0_ d0_
  clear h0_ h1_ h2_ h3_ h4_ h5_
  have h2 := h5 d5_
  clear h1 h4
  refine Run.toClauseM hI (h.monoC hle) hw fun v3 M S3 w' hle3 h3 hT hI hback => ?_
  refine r_loadW hI 0 ag_lPred rfl rfl ?_
  refine Run.callPure fn_l_toPred nm_l_toPred hI toPred_calls fun w' hI => ?_
  refine Run.call0 fn_i_CallsOf nm_i_CallsOf hI (i_CallsOf_calls x h3 hw) fun v4 I' S' w' => ?_
  rintro ⟨rfl, rfl⟩ _ hI
  rw [hl] at hI
  refine Run.eqRow (A := [_]) hI (h2.mono hle3 fun _ _ h => h) fun w' hI => ?_
  refine r_not ?_
  refine condV (fun hb => by simp at hb) (fun _ => ?_)
  refine Run.toClauseS hI (h.monoC (hle.trans hle3)) hw fun v5 S5 w' hle5 h5 hI => ?_
  refine Run.callPure fn_l_eqClauseS nm_l_eqClauseS hI (eqClauseS_calls (h3.monoC hle5) h5) fun w' hI => ?_
  refine r_not ?_
  rw [(eqP_iff p p).2 rfl]
  refine condV (fun hb => by simp at hb) (fun _ => ?_)
  have hI := hback _ _ (hI.less hle5)
  refine Run.markP hI hT (by omega) (by omega) fun w' hI => ?_
  refine ⟨fun t w' => t = .bool false ∧ Inv w [] [.blk b3 (.cells x.cells.toArray t_lPred), rowP v4 l] S1 w', ?_, ?_⟩
  · refine r_lss ?_
    rw [decide_eq_false (by omega)]
    repeat (first | refine guard_true ?_ | refine guard_ne (by decide) ?_ | refine guard_undef ?_ | refine r_pickT ?_ | refine r_pickF ?_)
    refine Run.eqRow (A := [_]) hI h2 fun w' hI => ?_
    refine r_not ?_
    repeat (first | refine guard_true ?_ | refine guard_ne (by decide) ?_ | refine guard_undef ?_ | refine r_pickT ?_ | refine r_pickF ?_)
    exact ⟨rfl, hI⟩
  intro t _ _ _ _ _ _ _ w'
  rintro ⟨rfl, hI⟩
  refine condV (fun hb => by cases hb) (fun _ => ?_)
  refine Run.markRow (A := [_]) hI (by omega) (by omega) fun w' hI => ?_
  refine Run.heldRow (A := [_]) hI (by omega) (by omega) fun w' hI => ?_
  refine r_lss ?_
  refine condP (fun hb => by omega) (fun _ => ?_)
  refine r_neq ?_
  refine condV (fun hb => by simp at hb) (fun _ => ?_)
  refine ⟨fun D x12 x69 x68 x67 x66 x65 w_ => (D 0 = true → x65 = x23) ∧ (D 1 = true → True) ∧ (D 2 = true → x67 = .agg x.cells.toArray) ∧ (D 3 = true → x68 = .agg x.cells.toArray) ∧ (D 4 = true → True) ∧ (D 5 = true → True) ∧ ∃ S2, Sle S1 S2 ∧ (D 1 = true → RdSl S2 5 (RdC S2) x66 p) ∧ (D 4 = true → RdSl S2 2 RdPd x69 l) ∧ (D 5 = true → RdSl S2 2 RdPd x12 l) ∧ Inv w [] [.blk b3 (.cells x.cells.toArray t_lPred), rowP v4 (mkPd l 1)] S2 w_, ⟨fun h => Bool.noConfusion h, fun h => Bool.noConfusion h, fun h => Bool.noConfusion h, fun h => Bool.noConfusion h, fun h => Bool.noConfusion h, fun h => Bool.noConfusion h, ⟨S1, Sle.refl S1, fun h => Bool.noConfusion h, fun h => Bool.noConfusion h, fun h => Bool.noConfusion h, hI.draw⟩⟩, ⟨?_, ?_, ?_, ?_, ?_, ?_, trivial⟩, ?_⟩
  · intro D hD_  x12 x69 x68 x67 x66 x65 w_
    rintro ⟨h0_, h1_, h2_, h3_, h4_, h5_, ⟨S2, hle6, h1, h4, h5, hI⟩⟩
    exact ⟨fun _ => rfl, h1_, h2_, h3_, h4_, h5_, ⟨S2, hle6, h1, h4, h5, hI⟩⟩
  · intro D hD_ d0_0 x12 x69 x68 x67 x66 x65 w_
    rintro ⟨h0_, h1_, h2_, h3_, h4_, h5_, ⟨S2, hle6, h1, h4, h5, hI⟩⟩
    obtain rfl := h0_ d0_0
    refine Run.toClauseS hI (h.monoC (hle.trans hle6)) hw fun v1 S2 w_ hle1 h1 hI => ?_
    have hle6 := hle6.trans hle1
    have h4 := fun (e : setD D 1 4 = true) => (h4 e).mono hle1 fun _ _ h => h
    have h5 := fun (e : setD D 1 5 = true) => (h5 e).mono hle1 fun _ _ h => h
    have h1 := fun (_ : setD D 1 1 = true) => h1
    exact ⟨h0_, fun _ => by first | assumption | trivial, h2_, h3_, h4_, h5_, ⟨S2, hle6, h1, h4, h5, hI⟩⟩
  · intro D hD_  x12 x69 x68 x67 x66 x65 w_
    rintro ⟨h0_, h1_, h2_, h3_, h4_, h5_, ⟨S2, hle6, h1, h4, h5, hI⟩⟩
    refine r_loadW hI 0 ag_lPred rfl rfl ?_
    exact ⟨h0_, h1_, fun _ => rfl, h3_, h4_, h5_, ⟨S2, hle6, h1, h4, h5, hI⟩⟩
  · intro D hD_ d2_0 d1_1 x12 x69 x68 x67 x66 x65 w_
    rintro ⟨h0_, h1_, h2_, h3_, h4_, h5_, ⟨S2, hle6, h1, h4, h5, hI⟩⟩
    obtain rfl := h2_ d2_0
    refine Run.callPure fn_l_toPred nm_l_toPred hI toPred_calls fun w_ hI => ?_
    exact ⟨h0_, h1_, h2_, fun _ => rfl, h4_, h5_, ⟨S2, hle6, h1, h4, h5, hI⟩⟩
  · intro D hD_ d1_0 d3_1 d3_2 x12 x69 x68 x67 x66 x65 w_
    rintro ⟨h0_, h1_, h2_, h3_, h4_, h5_, ⟨S2, hle6, h1, h4, h5, hI⟩⟩
    have g1_ := h1_ d1_0
    obtain rfl := h3_ d3_1
    refine Run.pubRow (l := l) fn_i_CallsOf nm_i_CallsOf hI (by rw [← hl]; exact i_CallsOf_calls x (h1 d1_0) hw) fun v2 S2 w_ hle2 h2 hI => ?_
    have hle6 := hle6.trans hle2
    have h1 := fun (e : setD D 4 1 = true) => (h1 e).monoC hle2
    have h5 := fun (e : setD D 4 5 = true) => (h5 e).mono hle2 fun _ _ h => h
    have h4 := fun (_ : setD D 4 4 = true) => h2
    exact ⟨h0_, h1_, h2_, h3_, fun _ => by first | assumption | trivial, h5_, ⟨S2, hle6, h1, h4, h5, hI⟩⟩
  · intro D hD_ d4_0 d4_1 d0_2 d1_3 d2_4 d3_5 d4_6 x12 x69 x68 x67 x66 x65 w_
    rintro ⟨h0_, h1_, h2_, h3_, h4_, h5_, ⟨S2, hle6, h1, h4, h5, hI⟩⟩
    have g4_ := h4_ d4_0
    have h5 := fun (_ : setD D 5 5 = true) => h4 d4_0
    exact ⟨h0_, h1_, h2_, h3_, h4_, fun _ => by first | assumption | trivial, ⟨S2, hle6, h1, h4, h5, hI⟩⟩
  intro D d5_ d4_ d3_ d2_ d1_ d0_ x12 x69 x68 x67 x66 x65 w_
  rintro ⟨h0_, h1_, h2_, h3_, h4_, h5_, ⟨S2, hle6, h1, h4, h5, hI⟩⟩
  have g5_ := h5_ d5_
  have g4_ := h4_ d4_
  obtain rfl := h3_ d3_
  obtain rfl := h2_ d2_
  have g1_ := h1_ d1_
  obtain rfl := h0_ d0_
  clear h0_ h1_ h2_ h3_ h4_ h5_
  have h7 := h5 d5_
  clear h1 h4
  refine Run.callPure fn_l_eqPredS nm_l_eqPredS hI (eqPredS_calls h7 (h2.mono hle6 fun _ _ h => h)) fun w' hI => ?_
  refine r_not ?_
  refine condV (fun hb => by simp at hb) (fun _ => ?_)
  refine Run.heldRow (A := [_]) hI (by omega) (by omega) fun w' hI => ?_
  refine r_lss ?_
  refine condP (fun hb => by omega) (fun _ => ?_)
  refine r_neq ?_
  have hle := hle.trans hle6
  exact condV (fun hb => by simp at hb) (fun _ => doneS hI hle rfl)
end

end Go.Proofs.Ytnoieadimkgjcaa
