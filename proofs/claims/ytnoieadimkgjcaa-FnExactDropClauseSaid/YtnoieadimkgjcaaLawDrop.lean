/- FnExactDropClause returns true, whatever the program and the number that come in. -/
import Derived.Test.YtnoieadimkgjcaaLawT
import Derived.Test.YtnoieadimkgjcaaDropC
namespace Go.Proofs.Ytnoieadimkgjcaa
open Go Go.RowKit
section
attribute [local irreducible] Run CondV GuardV LoadV
theorem dropPs_w (p : List C) (i : Int) : (dropPs p i).length + wP (dropPs p i) ≤ p.length + wP p := by
  unfold dropPs
  split
  · exact erase_w p _
  · simp [wP]
theorem lawDrop_calls {p : List C} {S : Store} {v : Value} (i : Int) (h : RdSl S 5 (RdC S) v p) : Pure Try.prog n_l_FnExactDropClause [v, .int .i64 i] S (.bool true) := by
  intro w hI
  refine calls_l_FnExactDropClause ?_
  unfold sh_l_FnExactDropClause
  refine Run.callPure fn_l_szClauseS nm_l_szClauseS hI (szClauseS_calls h (by omega) (by omega)) fun w' hI => ?_
  refine r_lss ?_
  refine condP (fun _ => done hI rfl) (fun hsz => ?_)
  have hw := sz_wPs (p := p) (left := 1048576) (by omega)
  have hw : p.length + wP p ≤ 1048576 := by omega
  have hcn := cntP_wP p
  have hcp := cntP_pos p
  have hll := dropPs_w p i
  have hln := cntP_wP (dropPs p i)
  have hlp := cntP_pos (dropPs p i)
  generalize hl : dropPs p i = l at hll hln hlp
  generalize hok : dropB p i = ok
  have hs : ∀ {S : Store} {v : Value}, RdSl S 5 (RdC S) v p → Tri Try.prog n_s_DropClause [v, .int .i64 i] [] S (PostCB S l ok) := fun a => by rw [← hl, ← hok]; exact s_DropClause_calls i a hw
  have hi : ∀ {S : Store} {v : Value}, RdSl S 5 (RdC S) v p → Tri Try.prog n_i_DropClause [v, .int .i64 i] [] S (PostCB S l ok) := fun a => by rw [← hl, ← hok]; exact i_DropClause_calls i a hw
  refine Run.toClauseS hI h hw fun v1 S1 w' hle1 h1 hI => ?_
  refine Run.pubTree fn_s_DropClause nm_s_DropClause hI (hs h1) fun v2 S2 w' hle2 h2 hI => ?_
  have hle := hle1.trans hle2
  refine r_extract rfl ?_
  refine r_extract rfl ?_
  refine Run.toClauseM hI (h.monoC hle) hw fun v3 M S3 w' hle3 h3 hT hI hback => ?_
  refine Run.call0 fn_i_DropClause nm_i_DropClause hI (hi h3) fun v4 I' S' w' => ?_
  rintro ⟨rfl, g, G, rfl, rfl, hG⟩ _ hI
  refine r_extract rfl ?_
  refine r_extract rfl ?_
  refine ⟨fun t w' => t = .bool false ∧ Inv w [] ([] ++ blks G) S' w', ?_, ?_⟩
  · refine Run.eqTreeC (A := []) hI hG (h2.monoC hle3) fun w' hI => ?_
    refine r_not ?_
    repeat (first | refine guard_true ?_ | refine guard_ne (by decide) ?_ | refine guard_undef ?_ | refine r_pickT ?_ | refine r_pickF ?_)
    refine r_bneq un_bool ?_
    repeat (first | refine guard_true ?_ | refine guard_ne (by decide) ?_ | refine guard_undef ?_ | refine r_pickT ?_ | refine r_pickF ?_)
    exact ⟨by simp, hI⟩
  intro t _ _ _ _ _ _ _ _ w'
  rintro ⟨rfl, hI⟩
  refine condV (fun hb => by cases hb) (fun _ => ?_)
  refine Run.toClauseS hI (h.monoC (hle.trans hle3)) hw fun v5 S5 w' hle5 h5 hI => ?_
  refine Run.callPure fn_l_eqClauseS nm_l_eqClauseS hI (eqClauseS_calls (h3.monoC hle5) h5) fun w' hI => ?_
  refine r_not ?_
  rw [(eqP_iff p p).2 rfl]
  refine condV (fun hb => by simp at hb) (fun _ => ?_)
  have hI := hback _ _ (hI.less hle5)
  refine Run.markP hI hT (by omega) (by omega) fun w' hI => ?_
  refine ⟨fun t w' => t = .bool false ∧ Inv w [] ([] ++ blks G) S2 w', ?_, ?_⟩
  · refine r_lss ?_
    rw [decide_eq_false (by omega)]
    repeat (first | refine guard_true ?_ | refine guard_ne (by decide) ?_ | refine guard_undef ?_ | refine r_pickT ?_ | refine r_pickF ?_)
    refine Run.eqTreeC (A := []) hI hG h2 fun w' hI => ?_
    refine r_not ?_
    repeat (first | refine guard_true ?_ | refine guard_ne (by decide) ?_ | refine guard_undef ?_ | refine r_pickT ?_ | refine r_pickF ?_)
    refine r_bneq un_bool ?_
    repeat (first | refine guard_true ?_ | refine guard_ne (by decide) ?_ | refine guard_undef ?_ | refine r_pickT ?_ | refine r_pickF ?_)
    exact ⟨by simp, hI⟩
  intro t _ _ _ _ _ _ _ _ _ _ _ _ w'
  rintro ⟨rfl, hI⟩
  refine condV (fun hb => by cases hb) (fun _ => ?_)
  refine Run.markTreeC hI hG (by omega) (by omega) fun G' w' hG' hI => ?_
  refine Run.heldTreeC hI hG' (by omega) (by omega) fun w' hI => ?_
  refine r_lss ?_
  refine condP (fun hb => by omega) (fun _ => ?_)
  refine r_neq ?_
  refine condV (fun hb => by simp at hb) (fun _ => ?_)
  refine Run.toClauseS hI (h.monoC hle) hw fun v6 S6 w' hle6 h6 hI => ?_
  refine Run.pubTree fn_i_DropClause nm_i_DropClause hI (hi h6) fun v7 S7 w' hle7 h7 hI => ?_
  refine r_extract rfl ?_
  refine r_extract rfl ?_
  refine ⟨fun t w' => t = .bool false ∧ Inv w [] ([] ++ blks G') S7 w', ?_, ?_⟩
  · refine Run.callPure fn_l_eqClauseS nm_l_eqClauseS hI (eqClauseS_calls h7 (h2.monoC (hle6.trans hle7))) fun w' hI => ?_
    rw [(eqP_iff l l).2 rfl]
    refine r_not ?_
    repeat (first | refine guard_true ?_ | refine guard_ne (by decide) ?_ | refine guard_undef ?_ | refine r_pickT ?_ | refine r_pickF ?_)
    refine r_bneq un_bool ?_
    repeat (first | refine guard_true ?_ | refine guard_ne (by decide) ?_ | refine guard_undef ?_ | refine r_pickT ?_ | refine r_pickF ?_)
    exact ⟨by simp, hI⟩
  intro t _ _ _ _ _ _ _ _ w'
  rintro ⟨rfl, hI⟩
  refine condV (fun hb => by cases hb) (fun _ => ?_)
  refine Run.heldTreeC hI hG' (by omega) (by omega) fun w' hI => ?_
  refine r_lss ?_
  refine condP (fun hb => by omega) (fun _ => ?_)
  refine r_neq ?_
  have hle := hle.trans (hle6.trans hle7)
  exact condV (fun hb => by simp at hb) (fun _ => doneS hI hle rfl)
end

end Go.Proofs.Ytnoieadimkgjcaa
