/- PredsOf, CallsOf, ReachOf: both sides. -/
import Derived.Test.YtnoieadimkgjcaaPredM
import Derived.Test.YtnoieadimkgjcaaRecur
namespace Go.Proofs.Ytnoieadimkgjcaa
open Go Go.RowKit
attribute [local irreducible] Run CondV GuardV LoadV

def predsFrom (l : List Pd) (p : List C) : List Pd := p.foldl (fun l c => addP l (predT c.head)) l
def predsOf (p : List C) : List Pd := if progB p = true then predsFrom [] p else []
def callsOf (p : List C) (x : Pd) : List Pd := if progB p = true then callsP p x else []
def reachOf (p : List C) (q : List T) : List Pd := if (progB p && queryB q) = true then reachP p (goalsP [] q) else []
theorem predsFrom_drop (l : List Pd) (p : List C) (k : Nat) (h : k < p.length) : predsFrom l (p.drop k) = predsFrom (addP l (predT p[k].head)) (p.drop (k + 1)) := by
  rw [List.drop_eq_getElem_cons h]; rfl
theorem predsFrom_len : ∀ (p : List C) (l : List Pd), (predsFrom l p).length ≤ l.length + p.length
  | [], l => Nat.le_refl _
  | c :: p, l => by
    have h := predsFrom_len p (addP l (predT c.head))
    have h2 := addP_len l (predT c.head)
    have e : predsFrom l (c :: p) = predsFrom (addP l (predT c.head)) p := rfl
    rw [e, List.length_cons]
    omega

theorem s_l14Preds_calls {p : List C} {S : Store} {v : Value} (h : RdSl S 5 (RdC S) v p) (hp : p.length ≤ 1100000) : Tri Try.prog n_s_l14Preds [v] [] S (PostP S (predsFrom [] p)) := by
  intro w hI
  refine calls_s_l14Preds ?_
  unfold sh_s_l14Preds
  refine r_slice0 hI mk_SiPred fun v0 w' hI => ?_
  refine ⟨fun i t w' => ∃ (k : Nat) (l : List Pd), k ≤ p.length ∧ i = .int .i64 k ∧ predsFrom l (p.drop k) = predsFrom [] p ∧ l.length ≤ k ∧ Inv w [] [rowP t l] S w', fun i _ _ => p.length - (intOf i).toNat, ⟨0, [], Nat.zero_le _, rfl, rfl, Nat.le_refl _, hI⟩, ?_⟩
  intro t4 _ _ t3 _ _ _ _ _ _ _ _ _ _ _ _ w'
  rintro ⟨k, l, hk, rfl, hrel, hl, hI⟩
  refine r_lenSl h sl_SiClause ?_
  refine r_lss ?_
  refine condP (fun hki => ?_) (fun hki => ?_)
  · have hk' : k < p.length := by omega
    rw [predsFrom_drop l p k hk'] at hrel
    have hal := addP_len l (predT p[k].head)
    obtain ⟨b, o, cap, c, E, fz, rfl, hS, hR⟩ := h.at_ hk'
    obtain ⟨hd, ks2, hcs, h1, h2⟩ := hR
    obtain ⟨kv, rfl, _, _, hs1, hk1⟩ := RdT.iff.1 h1
    refine r_indexAddr sl_SiClause hk' ?_
    refine r_field fo_iClause_0 ?_
    rw [Nat.add_zero]
    refine r_loadA (cs := [.int .i64 p[k].head.kind, .int .i64 p[k].head.n, .string p[k].head.name, kv]) ag_iTerm rfl (fun j v hj => by rw [hI.cellS hS]; exact cellsAt_get hcs j v (by match j, hj with | 0, hj => exact hj | 1, hj => exact hj | 2, hj => exact hj | 3, hj => exact hj | j + 4, hj => simp at hj)) ?_
    refine Run.callPure fn_s_l14Of nm_s_l14Of hI (s_l14Of_calls h1) fun w' hI => ?_
    refine Run.call (A := []) fn_s_l14Add nm_s_l14Add hI (l14Add_calls (predT p[k].head) l t3 S (by omega)) fun v' I' S' w' => ?_
    rintro ⟨rfl, rfl⟩ _ hI
    refine r_add (by omega) ?_
    exact ⟨⟨k + 1, _, hk', rfl, hrel, by omega, hI⟩, by simp [intOf]; omega⟩
  · have : k = p.length := by omega
    subst this
    rw [List.drop_length] at hrel
    have hrel : l = predsFrom [] p := hrel
    rw [← hrel]
    exact ⟨_, _, _, rfl, hI, Ext.refl _ _ _, rfl, rfl⟩
theorem s_PredsOf_calls {p : List C} {S : Store} {v : Value} (h : RdSl S 5 (RdC S) v p) (hw : p.length + wP p ≤ 1048576) : Tri Try.prog n_s_PredsOf [v] [] S (PostP S (predsOf p)) := by
  intro w hI
  refine calls_s_PredsOf ?_
  unfold sh_s_PredsOf
  refine Run.callPure fn_s_ProgramValid nm_s_ProgramValid hI (s_ProgramValid_calls h (by omega)) fun w' hI => ?_
  refine r_not ?_
  refine condV (fun hb => ?_) (fun hb => ?_)
  · rw [predsOf, if_neg (by simp at hb; simp [hb])]
    refine r_slice0 hI mk_SiPred fun v0 w' hI => ?_
    exact ⟨_, _, _, rfl, hI, Ext.refl _ _ _, rfl, rfl⟩
  · rw [predsOf, if_pos (by simpa using hb)]
    refine Run.call0 fn_s_l14Preds nm_s_l14Preds hI (s_l14Preds_calls h (by omega)) fun v' I' S' w' => ?_
    rintro ⟨rfl, rfl⟩ _ hI
    exact ⟨_, _, _, rfl, hI, Ext.refl _ _ _, rfl, rfl⟩
theorem i_PredsOf_calls {p : List C} {S : Store} {v : Value} (h : RdSl S 5 (RdC S) v p) (hw : p.length + wP p ≤ 1048576) : Tri Try.prog n_i_PredsOf [v] [] S (PostP S (predsOf p)) := by
  intro w hI
  refine calls_i_PredsOf ?_
  unfold sh_i_PredsOf
  refine Run.callPure fn_i_ProgramValid nm_i_ProgramValid hI (iProgramValid_calls h) fun w' hI => ?_
  refine r_not ?_
  refine condV (fun hb => ?_) (fun hb => ?_)
  · rw [predsOf, if_neg (by simp at hb; simp [hb])]
    exact ⟨_, _, _, rfl, hI.rowNil t_iPred 2, Ext.refl _ _ _, rfl, rfl⟩
  rw [predsOf, if_pos (by simpa using hb)]
  refine r_lenSl h sl_SiClause ?_
  refine ⟨fun i t w' => ∃ (k : Nat) (l : List Pd), k ≤ p.length ∧ i = .int .i64 k ∧ predsFrom l (p.drop k) = predsFrom [] p ∧ l.length ≤ k ∧ Inv w [] [rowP t l] S w', fun i _ _ => p.length - (intOf i).toNat, ⟨0, [], Nat.zero_le _, rfl, rfl, Nat.le_refl _, hI.rowNil t_iPred 2⟩, ?_⟩
  intro t11 _ t3 _ _ _ _ _ _ _ _ _ w'
  rintro ⟨k, l, hk, rfl, hrel, hl, hI⟩
  refine r_lss ?_
  refine condP (fun hki => ?_) (fun hki => ?_)
  · have hk' : k < p.length := by omega
    rw [predsFrom_drop l p k hk'] at hrel
    have hal := addP_len l (predT p[k].head)
    refine r_elem hI h sl_SiClause ag_iClause hk' (fun _ _ => RdC.length) fun cs hcs => ?_
    obtain ⟨hd, ks, rfl, h1, h2⟩ := hcs
    have h1' := h1
    obtain ⟨kv, rfl, _, _, hs, hks⟩ := RdT.iff.1 h1
    have hkv : kv.oneCell' = true ∧ ks.oneCell' = true := by
      obtain ⟨a, cap, rfl, _⟩ := hks
      obtain ⟨a, cap, rfl, _⟩ := h2
      exact ⟨rfl, rfl⟩
    refine r_alloc hI zo_iClause fun b7 w' hI => ?_
    refine r_storeW hI 1 rfl ag_iClause rfl rfl (by
      intro u hu
      have hu' : u ∈ ([.int .i64 p[k].head.kind, .int .i64 p[k].head.n, .string p[k].head.name, kv, ks] : List Value) := hu
      simp at hu'
      rcases hu' with rfl | rfl | rfl | rfl | rfl <;> first | rfl | exact hkv.1 | exact hkv.2) fun w' hI => ?_
    refine r_field fo_iClause_0 ?_
    refine r_loadLA hI 1 [.int .i64 p[k].head.kind, .int .i64 p[k].head.n, .string p[k].head.name, kv] ag_iTerm rfl rfl sub4 ?_
    refine Run.callPure fn_i_pred nm_i_pred hI (i_pred_calls h1') fun w' hI => ?_
    have hI := hI.pick [true, false]
    refine Run.call (A := []) fn_i_addPred nm_i_addPred hI (addPred_calls (predT p[k].head) l t3 S (by omega)) fun v' I' S' w' => ?_
    rintro ⟨rfl, rfl⟩ _ hI
    refine r_add (by omega) ?_
    exact ⟨⟨k + 1, _, hk', rfl, hrel, by omega, hI⟩, by simp [intOf]; omega⟩
  · have : k = p.length := by omega
    subst this
    rw [List.drop_length] at hrel
    have hrel : l = predsFrom [] p := hrel
    rw [← hrel]
    exact ⟨_, _, _, rfl, hI, Ext.refl _ _ _, rfl, rfl⟩

theorem s_CallsOf_calls {p : List C} {S : Store} {v : Value} (x : Pd) (h : RdSl S 5 (RdC S) v p) (hw : p.length + wP p ≤ 1048576) : Tri Try.prog n_s_CallsOf [v, .agg x.cells.toArray] [] S (PostP S (callsOf p x)) := by
  intro w hI
  obtain ⟨xs, xn⟩ := x
  refine calls_s_CallsOf ?_
  unfold sh_s_CallsOf
  refine r_box hI fun b3 w' hI => ?_
  refine Run.callPure fn_s_ProgramValid nm_s_ProgramValid hI (s_ProgramValid_calls h (by omega)) fun w' hI => ?_
  refine r_not ?_
  refine condV (fun hb => ?_) (fun hb => ?_)
  · rw [callsOf, if_neg (by simp at hb; simp [hb])]
    refine r_slice0 hI mk_SiPred fun v0 w' hI => ?_
    exact ⟨_, _, _, rfl, hI.pick [false, true], Ext.refl _ _ _, rfl, rfl⟩
  · rw [callsOf, if_pos (by simpa using hb)]
    refine r_loadW hI 0 ag_iPred rfl rfl ?_
    refine Run.call0 fn_s_l14Calls nm_s_l14Calls hI (s_l14Calls_calls ⟨xs, xn⟩ h (by omega)) fun v' I' S' w' => ?_
    rintro ⟨rfl, rfl⟩ _ hI
    exact ⟨_, _, _, rfl, hI.pick [false, true], Ext.refl _ _ _, rfl, rfl⟩
theorem i_CallsOf_calls {p : List C} {S : Store} {v : Value} (x : Pd) (h : RdSl S 5 (RdC S) v p) (hw : p.length + wP p ≤ 1048576) : Tri Try.prog n_i_CallsOf [v, .agg x.cells.toArray] [] S (PostP S (callsOf p x)) := by
  intro w hI
  obtain ⟨xs, xn⟩ := x
  refine calls_i_CallsOf ?_
  unfold sh_i_CallsOf
  refine r_box hI fun b3 w' hI => ?_
  refine Run.callPure fn_i_ProgramValid nm_i_ProgramValid hI (iProgramValid_calls h) fun w' hI => ?_
  refine r_not ?_
  refine condV (fun hb => ?_) (fun hb => ?_)
  · rw [callsOf, if_neg (by simp at hb; simp [hb])]
    exact ⟨_, _, _, rfl, (hI.rowNil t_iPred 2).pick [false, true], Ext.refl _ _ _, rfl, rfl⟩
  · rw [callsOf, if_pos (by simpa using hb)]
    refine r_loadW hI 0 ag_iPred rfl rfl ?_
    refine Run.call0 fn_i_callsOf nm_i_callsOf hI (i_callsOf_calls ⟨xs, xn⟩ h (by omega) (by omega)) fun v' I' S' w' => ?_
    rintro ⟨rfl, rfl⟩ _ hI
    exact ⟨_, _, _, rfl, hI.pick [false, true], Ext.refl _ _ _, rfl, rfl⟩

theorem s_ReachOf_calls {p : List C} {q : List T} {S : Store} {v u : Value} (h : RdSl S 5 (RdC S) v p) (hq : RdSl S 4 (RdT S) u q) (hw : p.length + wP p ≤ 1048576) (hw2 : q.length + wL q ≤ 1048576) : Tri Try.prog n_s_ReachOf [v, u] [] S (PostP S (reachOf p q)) := by
  intro w hI
  have hgl := goalsP_len q []
  refine calls_s_ReachOf ?_
  unfold sh_s_ReachOf
  refine ⟨fun t w' => t = .bool (!(progB p && queryB q)) ∧ Inv w [] [] S w', ?_, ?_⟩
  · refine Run.callPure fn_s_ProgramValid nm_s_ProgramValid hI (s_ProgramValid_calls h (by omega)) fun w' hI => ?_
    refine r_not ?_
    cases hv : progB p
    · repeat (first | refine guard_true ?_ | refine guard_ne (by decide) ?_ | refine guard_undef ?_ | refine r_pickT ?_ | refine r_pickF ?_)
      exact ⟨rfl, hI⟩
    · repeat (first | refine guard_true ?_ | refine guard_ne (by decide) ?_ | refine guard_undef ?_ | refine r_pickT ?_ | refine r_pickF ?_)
      refine Run.callPure fn_s_QueryValid nm_s_QueryValid hI (s_QueryValid_calls hq (by omega)) fun w' hI => ?_
      refine r_not ?_
      repeat (first | refine guard_true ?_ | refine guard_ne (by decide) ?_ | refine guard_undef ?_ | refine r_pickT ?_ | refine r_pickF ?_)
      exact ⟨rfl, hI⟩
  intro t _ _ _ _ _ _ _ w'
  rintro ⟨rfl, hI⟩
  refine condV (fun hb => ?_) (fun hb => ?_)
  · rw [reachOf, if_neg (by rw [Bool.not_eq_true'] at hb; rw [hb]; decide)]
    refine r_slice0 hI mk_SiPred fun v0 w' hI => ?_
    exact ⟨_, _, _, rfl, hI, Ext.refl _ _ _, rfl, rfl⟩
  · rw [reachOf, if_pos (by simpa using hb)]
    refine r_slice0 hI mk_SiPred fun v0 w' hI => ?_
    refine Run.call (A := []) fn_s_l14Goals nm_s_l14Goals hI (s_l14Goals_calls [] hq (by simp; omega)) fun v' I' S' w' => ?_
    rintro ⟨rfl, rfl⟩ _ hI
    refine Run.call (A := []) fn_s_l14Reach nm_s_l14Reach hI (s_l14Reach_calls (goalsP [] q) h (by omega) (by omega) (by simp at hgl; omega)) fun v' I' S' w' => ?_
    rintro ⟨rfl, rfl⟩ _ hI
    exact ⟨_, _, _, rfl, hI, Ext.refl _ _ _, rfl, rfl⟩
theorem i_ReachOf_calls {p : List C} {q : List T} {S : Store} {v u : Value} (h : RdSl S 5 (RdC S) v p) (hq : RdSl S 4 (RdT S) u q) (hw : p.length + wP p ≤ 1048576) (hw2 : q.length + wL q ≤ 1048576) : Tri Try.prog n_i_ReachOf [v, u] [] S (PostP S (reachOf p q)) := by
  intro w hI
  have hgl := goalsP_len q []
  refine calls_i_ReachOf ?_
  unfold sh_i_ReachOf
  refine ⟨fun t w' => t = .bool (!(progB p && queryB q)) ∧ Inv w [] [] S w', ?_, ?_⟩
  · refine Run.callPure fn_i_ProgramValid nm_i_ProgramValid hI (iProgramValid_calls h) fun w' hI => ?_
    refine r_not ?_
    cases hv : progB p
    · repeat (first | refine guard_true ?_ | refine guard_ne (by decide) ?_ | refine guard_undef ?_ | refine r_pickT ?_ | refine r_pickF ?_)
      exact ⟨rfl, hI⟩
    · repeat (first | refine guard_true ?_ | refine guard_ne (by decide) ?_ | refine guard_undef ?_ | refine r_pickT ?_ | refine r_pickF ?_)
      refine Run.callPure fn_i_QueryValid nm_i_QueryValid hI (iQueryValid_calls hq) fun w' hI => ?_
      refine r_not ?_
      repeat (first | refine guard_true ?_ | refine guard_ne (by decide) ?_ | refine guard_undef ?_ | refine r_pickT ?_ | refine r_pickF ?_)
      exact ⟨rfl, hI⟩
  intro t _ _ _ _ _ _ _ w'
  rintro ⟨rfl, hI⟩
  refine condV (fun hb => ?_) (fun hb => ?_)
  · rw [reachOf, if_neg (by rw [Bool.not_eq_true'] at hb; rw [hb]; decide)]
    exact ⟨_, _, _, rfl, hI.rowNil t_iPred 2, Ext.refl _ _ _, rfl, rfl⟩
  · rw [reachOf, if_pos (by simpa using hb)]
    refine Run.call (A := []) fn_i_called nm_i_called (hI.rowNil t_iPred 2) (i_called_calls [] hq (by simp; omega)) fun v' I' S' w' => ?_
    rintro ⟨rfl, rfl⟩ _ hI
    refine Run.call (A := []) fn_i_reach nm_i_reach hI (i_reach_calls (goalsP [] q) h (by omega) (by omega) (by simp at hgl; omega)) fun v' I' S' w' => ?_
    rintro ⟨rfl, rfl⟩ _ hI
    exact ⟨_, _, _, rfl, hI, Ext.refl _ _ _, rfl, rfl⟩

end Go.Proofs.Ytnoieadimkgjcaa
