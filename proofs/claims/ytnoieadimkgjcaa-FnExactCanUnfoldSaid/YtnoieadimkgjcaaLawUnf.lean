/- FnExactCanUnfold returns true, whatever the program and the number that come in. -/
import Derived.Test.YtnoieadimkgjcaaSzC
import Derived.Test.YtnoieadimkgjcaaCanUnfI
namespace Go.Proofs.Ytnoieadimkgjcaa
open Go Go.RowKit
section
attribute [local irreducible] Run CondV GuardV LoadV
theorem lawUnf_calls {p : List C} {S : Store} {v : Value} (i : Int) (h : RdSl S 5 (RdC S) v p) : Pure Try.prog n_l_FnExactCanUnfold [v, .int .i64 i] S (.bool true) := by
  intro w hI
  refine calls_l_FnExactCanUnfold ?_
  unfold sh_l_FnExactCanUnfold
  refine Run.callPure fn_l_szClauseS nm_l_szClauseS hI (szClauseS_calls h (by omega) (by omega)) fun w' hI => ?_
  refine r_lss ?_
  refine condP (fun _ => done hI rfl) (fun hsz => ?_)
  have hw := sz_wPs (p := p) (left := 1048576) (by omega)
  refine Run.toClauseS hI h (by omega) fun v1 S1 w' hle1 h1 hI => ?_
  refine Run.callPure fn_s_CanUnfold nm_s_CanUnfold hI (sCanUnfold_calls i h1 (by omega)) fun w' hI => ?_
  refine Run.toClauseS hI (h.monoC hle1) (by omega) fun v2 S2 w' hle2 h2 hI => ?_
  refine Run.callPure fn_i_CanUnfold nm_i_CanUnfold hI (iCanUnfold_calls i h2 (by omega)) fun w' hI => ?_
  refine r_bneq un_bool ?_
  refine condV (fun hb => by simp at hb) (fun _ => ?_)
  refine Run.toClauseS hI (h.monoC (hle1.trans hle2)) (by omega) fun v3 S3 w' hle3 h3 hI => ?_
  refine Run.callPure fn_l_eqClauseS nm_l_eqClauseS hI (eqClauseS_calls (h2.monoC hle3) h3) fun w' hI => ?_
  refine r_not ?_
  rw [(eqP_iff p p).2 rfl]
  have hle := hle1.trans (hle2.trans hle3)
  exact condV (fun hb => by simp at hb) (fun _ => doneS hI hle rfl)
end

end Go.Proofs.Ytnoieadimkgjcaa
