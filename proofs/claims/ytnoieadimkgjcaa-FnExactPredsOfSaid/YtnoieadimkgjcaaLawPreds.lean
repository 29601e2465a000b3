/- FnExactPredsOf returns true, whatever the program that comes in. -/
import Derived.Test.YtnoieadimkgjcaaLawM
import Derived.Test.YtnoieadimkgjcaaPredsOf
namespace Go.Proofs.Ytnoieadimkgjcaa
open Go Go.RowKit
section
attribute [local irreducible] Run CondV GuardV LoadV
theorem predsOf_len (p : List C) : (predsOf p).length ≤ p.length := by
  unfold predsOf
  split
  · have := predsFrom_len p []
    simpa using this
  · exact Nat.zero_le _
theorem lawPreds_calls {p : List C} {S : Store} {v : Value} (h : RdSl S 5 (RdC S) v p) : Pure Try.prog n_l_FnExactPredsOf [v] S (.bool true) := by
  intro w hI
  refine calls_l_FnExactPredsOf ?_
  unfold sh_l_FnExactPredsOf
  refine Run.callPure fn_l_szClauseS nm_l_szClauseS hI (szClauseS_calls h (by omega) (by omega)) fun w' hI => ?_
  refine r_lss ?_
  refine condP (fun _ => done hI rfl) (fun hsz => ?_)
  have hw := sz_wPs (p := p) (left := 1048576) (by omega)
  have hw : p.length + wP p ≤ 1048576 := by omega
  have hcn := cntP_wP p
  have hcp := cntP_pos p
  have hll := predsOf_len p
  generalize hl : predsOf p = l at hll
  refine Run.toClauseS hI h hw fun v1 S1 w' hle1 h1 hI => ?_
  refine Run.pubRow (l := l) fn_s_PredsOf nm_s_PredsOf hI (by rw [← hl]; exact s_PredsOf_calls h1 hw) fun v2 S2 w' hle2 h2 hI => ?_
  have hle := hle1.trans hle2
  refine Run.toClauseM hI (h.monoC hle) hw fun v3 M S3 w' hle3 h3 hT hI hback => ?_
  refine Run.call0 fn_i_PredsOf nm_i_PredsOf hI (i_PredsOf_calls h3 hw) fun v4 I' S' w' => ?_
  rintro ⟨rfl, rfl⟩ _ hI
  rw [hl] at hI
  refine Run.eqRow (A := []) hI (h2.mono hle3 fun _ _ h => h) fun w' hI => ?_
  refine r_not ?_
  refine condV (fun hb => by simp at hb) (fun _ => ?_)
  refine Run.toClauseS hI (h.monoC (hle.trans hle3)) hw fun v5 S5 w' hle5 h5 hI => ?_
  refine Run.callPure fn_l_eqClauseS nm_l_eqClauseS hI (eqClauseS_calls (h3.monoC hle5) h5) fun w' hI => ?_
  refine r_not ?_
  rw [(eqP_iff p p).2 rfl]
  refine condV (fun hb => by simp at hb) (fun _ => ?_)
  have hI := hback _ _ (hI.less hle5)
  refine Run.markP hI hT (by omega) (by omega) fun w' hI => ?_
  refine ⟨fun t w' => t = .bool false ∧ Inv w [] [rowP v4 l] S2 w', ?_, ?_⟩
  · refine r_lss ?_
    rw [decide_eq_false (by omega)]
    repeat (first | refine guard_true ?_ | refine guard_ne (by decide) ?_ | refine guard_undef ?_ | refine r_pickT ?_ | refine r_pickF ?_)
    refine Run.eqRow (A := []) hI h2 fun w' hI => ?_
    refine r_not ?_
    repeat (first | refine guard_true ?_ | refine guard_ne (by decide) ?_ | refine guard_undef ?_ | refine r_pickT ?_ | refine r_pickF ?_)
    exact ⟨rfl, hI⟩
  intro t _ _ _ _ _ _ _ w'
  rintro ⟨rfl, hI⟩
  refine condV (fun hb => by cases hb) (fun _ => ?_)
  refine Run.markRow (A := []) hI (by omega) (by omega) fun w' hI => ?_
  refine Run.heldRow (A := []) hI (by omega) (by omega) fun w' hI => ?_
  refine r_lss ?_
  refine condP (fun hb => by omega) (fun _ => ?_)
  refine r_neq ?_
  refine condV (fun hb => by simp at hb) (fun _ => ?_)
  refine Run.toClauseS hI (h.monoC hle) hw fun v6 S6 w' hle6 h6 hI => ?_
  refine Run.pubRow (l := l) fn_i_PredsOf nm_i_PredsOf hI (by rw [← hl]; exact i_PredsOf_calls h6 hw) fun v7 S7 w' hle7 h7 hI => ?_
  refine Run.callPure fn_l_eqPredS nm_l_eqPredS hI (eqPredS_calls h7 (h2.mono (hle6.trans hle7) fun _ _ h => h)) fun w' hI => ?_
  refine r_not ?_
  refine condV (fun hb => by simp at hb) (fun _ => ?_)
  refine Run.heldRow (A := []) hI (by omega) (by omega) fun w' hI => ?_
  refine r_lss ?_
  refine condP (fun hb => by omega) (fun _ => ?_)
  refine r_neq ?_
  have hle := hle.trans (hle6.trans hle7)
  exact condV (fun hb => by simp at hb) (fun _ => doneS hI hle rfl)
end

end Go.Proofs.Ytnoieadimkgjcaa
