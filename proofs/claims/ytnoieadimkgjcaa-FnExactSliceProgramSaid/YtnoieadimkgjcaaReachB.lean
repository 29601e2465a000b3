/- What some predicates can lead to: both sides. -/
import Derived.Test.YtnoieadimkgjcaaCalls
namespace Go.Proofs.Ytnoieadimkgjcaa
open Go Go.RowKit
attribute [local irreducible] Run CondV GuardV LoadV

theorem reachF_end (n : Nat) (p : List C) (l : List Pd) (i : Nat) (h : ¬ i < l.length) : reachF n p l i = l := by
  cases n with
  | zero => rfl
  | succ n => rw [reachF, dif_neg h]
theorem addP_ge (l : List Pd) (x : Pd) : l.length ≤ (addP l x).length := by
  unfold addP
  split
  · exact Nat.le_refl _
  · simp
theorem s_l14Reach_calls {p : List C} {S : Store} {pv v : Value} (l : List Pd) (h : RdSl S 5 (RdC S) pv p) (hp : p.length ≤ 1100000) (hw : wP p ≤ 1100000) (hl : l.length ≤ 1100000) :
    Tri Try.prog n_s_l14Reach [pv, v] [rowP v l] S (PostP S (reachP p l)) := by
  intro w hI
  have hg := gPs_le p
  have : p.length + wP p ≤ 2200000 := by omega
  obtain ⟨X, hX⟩ : ∃ X, X = feet [rowP v l] := ⟨_, rfl⟩
  rw [← hX] at hI ⊢
  refine calls_s_l14Reach ?_
  unfold sh_s_l14Reach
  obtain ⟨M, hM⟩ : ∃ M, M = l.length + (gPs p).length := ⟨_, rfl⟩
  have hr : reachP p l = reachF M p l 0 := by rw [reachP, hM]
  rw [hr]
  have hpot := pot_le (gPs p) l
  refine ⟨fun i t w' => ∃ (k : Nat) (m : List Pd), k ≤ m.length ∧ i = .int .i64 k ∧ reachF (M - k) p m k = reachF M p l 0 ∧ m.length + pot (gPs p) m ≤ M ∧ Inv w X [rowP t m] S w', fun i _ _ => M - (intOf i).toNat, ⟨0, l, Nat.zero_le _, rfl, rfl, by omega, hI⟩, ?_⟩
  intro t6 _ _ _ _ t5 _ _ _ _ _ _ _ _ _ _ _ _ _ _ _ _ _ _ _ _ _ _ w'
  rintro ⟨k, m, hk, rfl, hrel, hm, hI⟩
  refine r_lenRow hI 0 rfl sl_SiPred ?_
  refine r_lss ?_
  refine condP (fun hki => ?_) (fun hki => ?_)
  · have hk' : k < m.length := by omega
    obtain ⟨n, hn⟩ : ∃ n, M - k = n + 1 := ⟨M - k - 1, by omega⟩
    rw [hn, reachF, dif_pos hk'] at hrel
    refine r_elemRow hI 0 rfl sl_SiPred ag_iPred hk' ?_
    have hc := callsP_len p m[k]
    have hcm : ∀ y ∈ callsP p m[k], y ∈ gPs p := fun y hy => callsP_mem hy
    have hcalls : ∀ x : Pd, Tri Try.prog n_s_l14Calls [pv, .agg x.cells.toArray] [] S (PostP S (callsP p x)) := fun x => s_l14Calls_calls x h hw
    refine Run.call0 fn_s_l14Calls nm_s_l14Calls hI (hcalls m[k]) fun u I' S2 w' => ?_
    rintro ⟨rfl, rfl⟩ _ hI
    generalize callsP p m[k] = cs at hc hcm hrel hI
    have hI := hI.perm (M := [rowP u cs, rowP t5 m]) (List.Perm.swap _ _ _)
    refine ⟨fun i t w' => ∃ (j : Nat) (m' : List Pd), j ≤ cs.length ∧ i = .int .i64 j ∧ addAll m' (cs.drop j) = addAll m cs ∧ m'.length + pot (gPs p) m' ≤ M ∧ m.length ≤ m'.length ∧ Inv w X [rowP u cs, rowP t m'] S2 w', fun i _ _ => cs.length - (intOf i).toNat, ⟨0, m, Nat.zero_le _, rfl, rfl, hm, Nat.le_refl _, hI⟩, ?_⟩
    intro t8 _ _ t5 _ _ _ _ _ _ _ _ _ _ w'
    rintro ⟨j, m', hj, rfl, hrel2, hm', hmm, hI⟩
    refine r_lenRow hI 0 rfl sl_SiPred ?_
    refine r_lss ?_
    refine condP (fun hji => ?_) (fun hji => ?_)
    · have hj' : j < cs.length := by omega
      rw [addAll_drop m' cs j hj'] at hrel2
      have hpp := addP_pot (l := m') (hcm _ (List.getElem_mem hj'))
      have hge := addP_ge m' cs[j]
      refine r_elemRow hI 0 rfl sl_SiPred ag_iPred hj' ?_
      refine Run.call (A := [_]) fn_s_l14Add nm_s_l14Add hI (l14Add_calls cs[j] m' t5 S2 (by omega)) fun v' I' S3 w' => ?_
      rintro ⟨rfl, rfl⟩ _ hI
      refine r_add (by omega) ?_
      exact ⟨⟨j + 1, _, hj', rfl, hrel2, by omega, by omega, hI⟩, by simp [intOf]; omega⟩
    · have : j = cs.length := by omega
      subst this
      rw [List.drop_length] at hrel2
      have hrel2 : m' = addAll m cs := hrel2
      subst hrel2
      refine r_add (by omega) ?_
      exact ⟨⟨k + 1, _, by omega, rfl, by rw [show M - (k + 1) = n by omega]; exact hrel, hm', hI.pick [false, true]⟩, by simp [intOf]; omega⟩
  · have : k = m.length := by omega
    rw [reachF_end _ _ _ _ (by omega)] at hrel
    rw [← hrel]
    exact ⟨_, _, _, rfl, hI, Ext.refl _ _ _, rfl, rfl⟩
theorem i_reach_calls {p : List C} {S : Store} {pv v : Value} (l : List Pd) (h : RdSl S 5 (RdC S) pv p) (hp : p.length ≤ 1100000) (hw : wP p ≤ 1100000) (hl : l.length ≤ 1100000) :
    Tri Try.prog n_i_reach [pv, v] [rowP v l] S (PostP S (reachP p l)) := by
  intro w hI
  have hg := gPs_le p
  have : p.length + wP p ≤ 2200000 := by omega
  obtain ⟨X, hX⟩ : ∃ X, X = feet [rowP v l] := ⟨_, rfl⟩
  rw [← hX] at hI ⊢
  refine calls_i_reach ?_
  unfold sh_i_reach
  obtain ⟨M, hM⟩ : ∃ M, M = l.length + (gPs p).length := ⟨_, rfl⟩
  have hr : reachP p l = reachF M p l 0 := by rw [reachP, hM]
  rw [hr]
  have hpot := pot_le (gPs p) l
  refine ⟨fun i t w' => ∃ (k : Nat) (m : List Pd), k ≤ m.length ∧ i = .int .i64 k ∧ reachF (M - k) p m k = reachF M p l 0 ∧ m.length + pot (gPs p) m ≤ M ∧ Inv w X [rowP t m] S w', fun i _ _ => M - (intOf i).toNat, ⟨0, l, Nat.zero_le _, rfl, rfl, by omega, hI⟩, ?_⟩
  intro t5 _ _ _ t1 _ _ _ _ _ _ _ _ _ _ _ _ _ _ _ _ _ _ _ w'
  rintro ⟨k, m, hk, rfl, hrel, hm, hI⟩
  refine r_lenRow hI 0 rfl sl_SiPred ?_
  refine r_lss ?_
  refine condP (fun hki => ?_) (fun hki => ?_)
  · have hk' : k < m.length := by omega
    obtain ⟨n, hn⟩ : ∃ n, M - k = n + 1 := ⟨M - k - 1, by omega⟩
    rw [hn, reachF, dif_pos hk'] at hrel
    refine r_elemRow hI 0 rfl sl_SiPred ag_iPred hk' ?_
    have hc := callsP_len p m[k]
    have hcm : ∀ y ∈ callsP p m[k], y ∈ gPs p := fun y hy => callsP_mem hy
    have hcalls : ∀ x : Pd, Tri Try.prog n_i_callsOf [pv, .agg x.cells.toArray] [] S (PostP S (callsP p x)) := fun x => i_callsOf_calls x h hp hw
    refine Run.call0 fn_i_callsOf nm_i_callsOf hI (hcalls m[k]) fun u I' S2 w' => ?_
    rintro ⟨rfl, rfl⟩ _ hI
    generalize callsP p m[k] = cs at hc hcm hrel hI
    have hI := hI.perm (M := [rowP u cs, rowP t1 m]) (List.Perm.swap _ _ _)
    refine r_lenRow hI 0 rfl sl_SiPred ?_
    refine ⟨fun i t w' => ∃ (j : Nat) (m' : List Pd), j ≤ cs.length ∧ i = .int .i64 j ∧ addAll m' (cs.drop j) = addAll m cs ∧ m'.length + pot (gPs p) m' ≤ M ∧ m.length ≤ m'.length ∧ Inv w X [rowP u cs, rowP t m'] S2 w', fun i _ _ => cs.length - (intOf i).toNat, ⟨0, m, Nat.zero_le _, rfl, rfl, hm, Nat.le_refl _, hI⟩, ?_⟩
    intro t21 _ t1 _ _ _ _ _ _ _ w'
    rintro ⟨j, m', hj, rfl, hrel2, hm', hmm, hI⟩
    refine r_lss ?_
    refine condP (fun hji => ?_) (fun hji => ?_)
    · have hj' : j < cs.length := by omega
      rw [addAll_drop m' cs j hj'] at hrel2
      have hpp := addP_pot (l := m') (hcm _ (List.getElem_mem hj'))
      have hge := addP_ge m' cs[j]
      refine r_elemRow hI 0 rfl sl_SiPred ag_iPred hj' ?_
      refine r_alloc hI zo_iPred fun b7 w' hI => ?_
      refine r_storeW hI 2 rfl ag_iPred rfl rfl (by simp [Pd.cells, Value.oneCell']) fun w' hI => ?_
      refine r_loadW hI 2 ag_iPred rfl rfl ?_
      have hI := hI.pick [true, true, false]
      refine Run.call (A := [_]) fn_i_addPred nm_i_addPred hI (addPred_calls cs[j] m' t1 S2 (by omega)) fun v' I' S3 w' => ?_
      rintro ⟨rfl, rfl⟩ _ hI
      refine r_add (by omega) ?_
      exact ⟨⟨j + 1, _, hj', rfl, hrel2, by omega, by omega, hI⟩, by simp [intOf]; omega⟩
    · have : j = cs.length := by omega
      subst this
      rw [List.drop_length] at hrel2
      have hrel2 : m' = addAll m cs := hrel2
      subst hrel2
      refine r_add (by omega) ?_
      exact ⟨⟨k + 1, _, by omega, rfl, by rw [show M - (k + 1) = n by omega]; exact hrel, hm', hI.pick [false, true]⟩, by simp [intOf]; omega⟩
  · have : k = m.length := by omega
    rw [reachF_end _ _ _ _ (by omega)] at hrel
    rw [← hrel]
    exact ⟨_, _, _, rfl, hI, Ext.refl _ _ _, rfl, rfl⟩

end Go.Proofs.Ytnoieadimkgjcaa
