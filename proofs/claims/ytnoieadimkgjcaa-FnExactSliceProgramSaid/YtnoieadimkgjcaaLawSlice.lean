/- FnExactSliceProgram returns true, whatever the program and the query that come in. -/
import Derived.Test.YtnoieadimkgjcaaLawT
import Derived.Test.YtnoieadimkgjcaaSlice
namespace Go.Proofs.Ytnoieadimkgjcaa
open Go Go.RowKit
section
attribute [local irreducible] Run CondV GuardV LoadV
theorem slicePs_w (p : List C) (q : List T) : (slicePs p q).length + wP (slicePs p q) ≤ p.length + wP p := by
  unfold slicePs
  split
  · exact filter_w _ p
  · simp [wP]
theorem lawSlice_calls {p : List C} {q : List T} {S : Store} {v u : Value} (h : RdSl S 5 (RdC S) v p) (hq : RdSl S 4 (RdT S) u q) : Pure Try.prog n_l_FnExactSliceProgram [v, u] S (.bool true) := by
  intro w hI
  refine calls_l_FnExactSliceProgram ?_
  unfold sh_l_FnExactSliceProgram
  refine Run.callPure fn_l_szClauseS nm_l_szClauseS hI (szClauseS_calls h (by omega) (by omega)) fun w' hI => ?_
  refine r_lss ?_
  refine condP (fun _ => done hI rfl) (fun hsz => ?_)
  have hw := sz_wPs (p := p) (left := 1048576) (by omega)
  have hle0 := (szPs_le p 1048576 (by omega)).2
  refine Run.callPure fn_l_szTermS nm_l_szTermS hI (szTermS_calls hq (by omega) (by omega)) fun w' hI => ?_
  refine r_lss ?_
  refine condP (fun _ => done hI rfl) (fun hsq => ?_)
  have hw2 := sz_wTs (ts := q) (left := szPs p 1048576) (by omega)
  have hw2 : q.length + wL q ≤ 1048576 := by omega
  have hqn := cnt_wL q
  have hqp := cntL_pos q
  have hw : p.length + wP p ≤ 1048576 := by omega
  have hcn := cntP_wP p
  have hcp := cntP_pos p
  have hll := slicePs_w p q
  have hln := cntP_wP (slicePs p q)
  have hlp := cntP_pos (slicePs p q)
  generalize hl : slicePs p q = l at hll hln hlp
  generalize hok : (progB p && queryB q) = ok
  have hs : ∀ {S : Store} {v u : Value}, RdSl S 5 (RdC S) v p → RdSl S 4 (RdT S) u q → Tri Try.prog n_s_SliceProgram [v, u] [] S (PostCB S l ok) := fun a b => by rw [← hl, ← hok]; exact s_SliceProgram_calls a b hw hw2
  have hi : ∀ {S : Store} {v u : Value}, RdSl S 5 (RdC S) v p → RdSl S 4 (RdT S) u q → Tri Try.prog n_i_SliceProgram [v, u] [] S (PostCB S l ok) := fun a b => by rw [← hl, ← hok]; exact i_SliceProgram_calls a b hw hw2
  refine Run.toClauseS hI h hw fun v1 S0 w' hle0 h1 hI => ?_
  refine Run.toTermS hI (hq.monoT hle0) hw2 fun u1 S1 w' hle1 q1 hI => ?_
  have h1 := h1.monoC hle1
  have hle1 := hle0.trans hle1
  refine Run.pubTree fn_s_SliceProgram nm_s_SliceProgram hI (hs h1 q1) fun v2 S2 w' hle2 h2 hI => ?_
  have hle := hle1.trans hle2
  refine r_extract rfl ?_
  refine r_extract rfl ?_
  refine Run.toClauseM hI (h.monoC hle) hw fun v3 M S3 w' hle3 h3 hT hI hback => ?_
  refine Run.toTermM hI (hq.monoT (hle.trans hle3)) hw2 fun u3 N S4 w' hle4 q3 hqT hI hback2 => ?_
  have h3 := h3.monoC hle4
  refine Run.call0 fn_i_SliceProgram nm_i_SliceProgram hI (hi h3 q3) fun v4 I' S' w' => ?_
  rintro ⟨rfl, g, G, rfl, rfl, hG⟩ _ hI
  refine r_extract rfl ?_
  refine r_extract rfl ?_
  refine ⟨fun t w' => t = .bool false ∧ Inv w [] ([] ++ blks G) S' w', ?_, ?_⟩
  · refine Run.eqTreeC (A := []) hI hG (h2.monoC (hle3.trans hle4)) fun w' hI => ?_
    refine r_not ?_
    repeat (first | refine guard_true ?_ | refine guard_ne (by decide) ?_ | refine guard_undef ?_ | refine r_pickT ?_ | refine r_pickF ?_)
    refine r_bneq un_bool ?_
    repeat (first | refine guard_true ?_ | refine guard_ne (by decide) ?_ | refine guard_undef ?_ | refine r_pickT ?_ | refine r_pickF ?_)
    exact ⟨by simp, hI⟩
  intro t _ _ _ _ _ _ _ _ w'
  rintro ⟨rfl, hI⟩
  refine condV (fun hb => by cases hb) (fun _ => ?_)
  refine Run.toClauseS hI (h.monoC (hle.trans (hle3.trans hle4))) hw fun v5 S5 w' hle5 h5 hI => ?_
  refine Run.callPure fn_l_eqClauseS nm_l_eqClauseS hI (eqClauseS_calls (h3.monoC hle5) h5) fun w' hI => ?_
  refine r_not ?_
  rw [(eqP_iff p p).2 rfl]
  refine condV (fun hb => by simp at hb) (fun _ => ?_)
  refine Run.toTermS hI (hq.monoT ((hle.trans (hle3.trans hle4)).trans hle5)) hw2 fun u5 S8 w' hle8 q5 hI => ?_
  refine Run.callPure fn_l_eqTermS nm_l_eqTermS hI (eqTermS_calls (q3.monoT (hle5.trans hle8)) q5) fun w' hI => ?_
  refine r_not ?_
  rw [(eqL_iff q q).2 rfl]
  refine condV (fun hb => by simp at hb) (fun _ => ?_)
  have hI := hback _ _ (hback2 _ _ (hI.less (hle5.trans hle8)))
  have hI := hI.perm (M := (blks G ++ blks N) ++ blks M) (by simp)
  refine Run.markP hI hT (by omega) (by omega) fun w' hI => ?_
  refine Run.markL hI hqT (by omega) (by omega) fun w' hI => ?_
  refine ⟨fun t w' => t = .bool false ∧ Inv w [] ([] ++ blks G) S2 w', ?_, ?_⟩
  · refine r_lss ?_
    rw [decide_eq_false (by omega)]
    repeat (first | refine guard_true ?_ | refine guard_ne (by decide) ?_ | refine guard_undef ?_ | refine r_pickT ?_ | refine r_pickF ?_)
    refine Run.eqTreeC (A := []) hI hG h2 fun w' hI => ?_
    refine r_not ?_
    repeat (first | refine guard_true ?_ | refine guard_ne (by decide) ?_ | refine guard_undef ?_ | refine r_pickT ?_ | refine r_pickF ?_)
    refine r_bneq un_bool ?_
    repeat (first | refine guard_true ?_ | refine guard_ne (by decide) ?_ | refine guard_undef ?_ | refine r_pickT ?_ | refine r_pickF ?_)
    exact ⟨by simp, hI⟩
  intro t _ _ _ _ _ _ _ _ _ _ _ _ w'
  rintro ⟨rfl, hI⟩
  refine condV (fun hb => by cases hb) (fun _ => ?_)
  refine Run.markTreeC hI hG (by omega) (by omega) fun G' w' hG' hI => ?_
  refine Run.heldTreeC hI hG' (by omega) (by omega) fun w' hI => ?_
  refine r_lss ?_
  refine condP (fun hb => by omega) (fun _ => ?_)
  refine r_neq ?_
  refine condV (fun hb => by simp at hb) (fun _ => ?_)
  refine Run.toClauseS hI (h.monoC hle) hw fun v6 S5 w' hle5 h6 hI => ?_
  refine Run.toTermS hI (hq.monoT (hle.trans hle5)) hw2 fun u6 S6 w' hle9 q6 hI => ?_
  have h6 := h6.monoC hle9
  have hle6 := hle5.trans hle9
  refine Run.pubTree fn_i_SliceProgram nm_i_SliceProgram hI (hi h6 q6) fun v7 S7 w' hle7 h7 hI => ?_
  refine r_extract rfl ?_
  refine r_extract rfl ?_
  refine ⟨fun t w' => t = .bool false ∧ Inv w [] ([] ++ blks G') S7 w', ?_, ?_⟩
  · refine Run.callPure fn_l_eqClauseS nm_l_eqClauseS hI (eqClauseS_calls h7 (h2.monoC (hle6.trans hle7))) fun w' hI => ?_
    rw [(eqP_iff l l).2 rfl]
    refine r_not ?_
    repeat (first | refine guard_true ?_ | refine guard_ne (by decide) ?_ | refine guard_undef ?_ | refine r_pickT ?_ | refine r_pickF ?_)
    refine r_bneq un_bool ?_
    repeat (first | refine guard_true ?_ | refine guard_ne (by decide) ?_ | refine guard_undef ?_ | refine r_pickT ?_ | refine r_pickF ?_)
    exact ⟨by simp, hI⟩
  intro t _ _ _ _ _ _ _ _ w'
  rintro ⟨rfl, hI⟩
  refine condV (fun hb => by cases hb) (fun _ => ?_)
  refine Run.heldTreeC hI hG' (by omega) (by omega) fun w' hI => ?_
  refine r_lss ?_
  refine condP (fun hb => by omega) (fun _ => ?_)
  refine r_neq ?_
  have hle := hle.trans (hle6.trans hle7)
  exact condV (fun hb => by simp at hb) (fun _ => doneS hI hle rfl)
end

end Go.Proofs.Ytnoieadimkgjcaa
