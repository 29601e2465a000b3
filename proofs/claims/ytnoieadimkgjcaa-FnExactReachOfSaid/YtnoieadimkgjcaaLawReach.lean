/- FnExactReachOf returns true, whatever the program and the query that come in. -/
import Derived.Test.YtnoieadimkgjcaaLawM
import Derived.Test.YtnoieadimkgjcaaPredsOf
namespace Go.Proofs.Ytnoieadimkgjcaa
open Go Go.RowKit
section
attribute [local irreducible] Run CondV GuardV LoadV
theorem addAll_pot {G : List Pd} : ∀ (m l : List Pd), (∀ y ∈ m, y ∈ G) → (addAll l m).length + pot G (addAll l m) ≤ l.length + pot G l
  | [], l, _ => Nat.le_refl _
  | y :: m, l, h => by
    have h1 := addP_pot (l := l) (h y (List.mem_cons_self ..))
    have h2 := addAll_pot m (addP l y) fun z hz => h z (List.mem_cons_of_mem _ hz)
    have e : addAll l (y :: m) = addAll (addP l y) m := rfl
    rw [e]
    omega
theorem reachF_len (p : List C) : ∀ (n : Nat) (l : List Pd) (i : Nat), (reachF n p l i).length ≤ l.length + pot (gPs p) l
  | 0, l, i => Nat.le_add_right _ _
  | n + 1, l, i => by
    rw [reachF]
    split
    · have h1 := reachF_len p n (addAll l (callsP p l[i])) (i + 1)
      have h2 := addAll_pot (G := gPs p) (callsP p l[i]) l fun y hy => callsP_mem hy
      omega
    · omega
theorem reachOf_len (p : List C) (q : List T) : (reachOf p q).length ≤ q.length + wP p := by
  unfold reachOf
  split
  · have h1 := reachF_len p ((goalsP [] q).length + (gPs p).length) (goalsP [] q) 0
    have h2 := goalsP_len q []
    have h3 := pot_le (gPs p) (goalsP [] q)
    have h4 := gPs_le p
    simp only [List.length_nil] at h2
    rw [reachP]
    omega
  · exact Nat.zero_le _
theorem lawReach_calls {p : List C} {q : List T} {S : Store} {v u : Value} (h : RdSl S 5 (RdC S) v p) (hq : RdSl S 4 (RdT S) u q) : Pure Try.prog n_l_FnExactReachOf [v, u] S (.bool true) := by
  intro w hI
  refine calls_l_FnExactReachOf ?_
  unfold sh_l_FnExactReachOf
  refine Run.callPure fn_l_szClauseS nm_l_szClauseS hI (szClauseS_calls h (by omega) (by omega)) fun w' hI => ?_
  refine r_lss ?_
  refine condP (fun _ => done hI rfl) (fun hsz => ?_)
  have hw := sz_wPs (p := p) (left := 1048576) (by omega)
  have hle0 := (szPs_le p 1048576 (by omega)).2
  refine Run.callPure fn_l_szTermS nm_l_szTermS hI (szTermS_calls hq (by omega) (by omega)) fun w' hI => ?_
  refine r_lss ?_
  refine condP (fun _ => done hI rfl) (fun hsq => ?_)
  have hw2 := sz_wTs (ts := q) (left := szPs p 1048576) (by omega)
  have hw2 : q.length + wL q ≤ 1048576 := by omega
  have hqn := cnt_wL q
  have hqp := cntL_pos q
  have hw : p.length + wP p ≤ 1048576 := by omega
  have hcn := cntP_wP p
  have hcp := cntP_pos p
  have hll := reachOf_len p q
  generalize hl : reachOf p q = l at hll
  refine Run.toClauseS hI h hw fun v1 S0 w' hle0 h1 hI => ?_
  refine Run.toTermS hI (hq.monoT hle0) hw2 fun u1 S1 w' hle1 q1 hI => ?_
  have h1 := h1.monoC hle1
  have hle1 := hle0.trans hle1
  refine Run.pubRow (l := l) fn_s_ReachOf nm_s_ReachOf hI (by rw [← hl]; exact s_ReachOf_calls h1 q1 hw hw2) fun v2 S2 w' hle2 h2 hI => ?_
  have hle := hle1.trans hle2
  refine Run.toClauseM hI (h.monoC hle) hw fun v3 M S3 w' hle3 h3 hT hI hback => ?_
  refine Run.toTermM hI (hq.monoT (hle.trans hle3)) hw2 fun u3 N S4 w' hle4 q3 hqT hI hback2 => ?_
  have h3 := h3.monoC hle4
  refine Run.call0 fn_i_ReachOf nm_i_ReachOf hI (i_ReachOf_calls h3 q3 hw hw2) fun v4 I' S' w' => ?_
  rintro ⟨rfl, rfl⟩ _ hI
  rw [hl] at hI
  refine Run.eqRow (A := []) hI (h2.mono (hle3.trans hle4) fun _ _ h => h) fun w' hI => ?_
  refine r_not ?_
  refine condV (fun hb => by simp at hb) (fun _ => ?_)
  refine Run.toClauseS hI (h.monoC (hle.trans (hle3.trans hle4))) hw fun v5 S5 w' hle5 h5 hI => ?_
  refine Run.callPure fn_l_eqClauseS nm_l_eqClauseS hI (eqClauseS_calls (h3.monoC hle5) h5) fun w' hI => ?_
  refine r_not ?_
  rw [(eqP_iff p p).2 rfl]
  refine condV (fun hb => by simp at hb) (fun _ => ?_)
  refine Run.toTermS hI (hq.monoT ((hle.trans (hle3.trans hle4)).trans hle5)) hw2 fun u5 S8 w' hle8 q5 hI => ?_
  refine Run.callPure fn_l_eqTermS nm_l_eqTermS hI (eqTermS_calls (q3.monoT (hle5.trans hle8)) q5) fun w' hI => ?_
  refine r_not ?_
  rw [(eqL_iff q q).2 rfl]
  refine condV (fun hb => by simp at hb) (fun _ => ?_)
  have hI := hback _ _ (hback2 _ _ (hI.less (hle5.trans hle8)))
  refine Run.markP hI hT (by omega) (by omega) fun w' hI => ?_
  refine Run.markL hI hqT (by omega) (by omega) fun w' hI => ?_
  refine ⟨fun t w' => t = .bool false ∧ Inv w [] [rowP v4 l] S2 w', ?_, ?_⟩
  · refine r_lss ?_
    rw [decide_eq_false (by omega)]
    repeat (first | refine guard_true ?_ | refine guard_ne (by decide) ?_ | refine guard_undef ?_ | refine r_pickT ?_ | refine r_pickF ?_)
    refine Run.eqRow (A := []) hI h2 fun w' hI => ?_
    refine r_not ?_
    repeat (first | refine guard_true ?_ | refine guard_ne (by decide) ?_ | refine guard_undef ?_ | refine r_pickT ?_ | refine r_pickF ?_)
    exact ⟨rfl, hI⟩
  intro t _ _ _ _ _ _ _ w'
  rintro ⟨rfl, hI⟩
  refine condV (fun hb => by cases hb) (fun _ => ?_)
  refine Run.markRow (A := []) hI (by omega) (by omega) fun w' hI => ?_
  refine Run.heldRow (A := []) hI (by omega) (by omega) fun w' hI => ?_
  refine r_lss ?_
  refine condP (fun hb => by omega) (fun _ => ?_)
  refine r_neq ?_
  refine condV (fun hb => by simp at hb) (fun _ => ?_)
  refine Run.toClauseS hI (h.monoC hle) hw fun v6 S5 w' hle5 h6 hI => ?_
  refine Run.toTermS hI (hq.monoT (hle.trans hle5)) hw2 fun u6 S6 w' hle9 q6 hI => ?_
  have h6 := h6.monoC hle9
  have hle6 := hle5.trans hle9
  refine Run.pubRow (l := l) fn_i_ReachOf nm_i_ReachOf hI (by rw [← hl]; exact i_ReachOf_calls h6 q6 hw hw2) fun v7 S7 w' hle7 h7 hI => ?_
  refine Run.callPure fn_l_eqPredS nm_l_eqPredS hI (eqPredS_calls h7 (h2.mono (hle6.trans hle7) fun _ _ h => h)) fun w' hI => ?_
  refine r_not ?_
  refine condV (fun hb => by simp at hb) (fun _ => ?_)
  refine Run.heldRow (A := []) hI (by omega) (by omega) fun w' hI => ?_
  refine r_lss ?_
  refine condP (fun hb => by omega) (fun _ => ?_)
  refine r_neq ?_
  have hle := hle.trans (hle6.trans hle7)
  exact condV (fun hb => by simp at hb) (fun _ => doneS hI hle rfl)
end

end Go.Proofs.Ytnoieadimkgjcaa
