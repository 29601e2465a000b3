/- Whether terms are the same: the program's side. -/
import Derived.Test.YtnoieadimkgjcaaSame
namespace Go.Proofs.Ytnoieadimkgjcaa
open Go Go.RowKit
attribute [local irreducible] Run CondV GuardV LoadV

theorem EqualFunc_of {xs : List T} (ih : ∀ t ∈ xs, ∀ (u : T) (S : Store) (cs ds : List Value), RdT S cs t → RdT S ds u → Pure Try.prog n_i_TermSame [.agg cs.toArray, .agg ds.toArray] S (.bool (eqT t u)))
    {ys : List T} {S : Store} {v u : Value} (h : RdSl S 4 (RdT S) v xs) (h' : RdSl S 4 (RdT S) u ys) : Pure Try.prog n_x_EqualFunc_Term [v, u, .func (.func n_i_TermSame) #[] #[]] S (.bool (eqL xs ys)) := by
  intro w hI
  have hlen : (xs.length : Int) ≤ 9223372036854775807 := by have := h.le; simp only [maxLen] at this; omega
  refine calls_x_EqualFunc_Term ?_
  unfold sh_x_EqualFunc_Term
  refine r_lenSl h sl_SiTerm ?_
  refine r_lenSl h' sl_SiTerm ?_
  refine r_neq ?_
  refine condV (fun hne => ?_) (fun he => ?_)
  · exact done hI (by rw [eqL_len (by simp at hne; omega)])
  have he : xs.length = ys.length := by simp at he; omega
  refine r_lenSl h sl_SiTerm ?_
  refine ⟨fun i w' => ∃ (k : Nat), k ≤ xs.length ∧ i = .int .i64 k ∧ eqL (xs.drop k) (ys.drop k) = eqL xs ys ∧ Inv w [] [] S w', fun i _ => xs.length - (intOf i).toNat, ⟨0, Nat.zero_le _, rfl, rfl, hI⟩, ?_⟩
  intro t5 _ _ _ _ _ _ _ _ _ _ _ _ _ _ _ _ _ _ w'
  rintro ⟨k, hk, rfl, hrel, hI⟩
  refine r_lss ?_
  refine condP (fun hki => ?_) (fun hki => ?_)
  · have hk1 : k < xs.length := by omega
    have hk2 : k < ys.length := by omega
    have hstep : eqL (xs.drop k) (ys.drop k) = (eqT xs[k] ys[k] && eqL (xs.drop (k + 1)) (ys.drop (k + 1))) := by
      rw [List.drop_eq_getElem_cons hk1, List.drop_eq_getElem_cons hk2, eqL]
    refine r_elem hI h sl_SiTerm ag_iTerm hk1 (fun _ _ => RdT.length) fun cs hcs => ?_
    have hlc := hcs.length
    refine r_alloc hI zo_iTerm fun b8 w' hI => ?_
    refine r_storeW hI 0 rfl ag_iTerm (by simpa using hlc) rfl (by simpa using hcs.one) fun w' hI => ?_
    refine r_elem hI h' sl_SiTerm ag_iTerm hk2 (fun _ _ => RdT.length) fun ds hds => ?_
    have hld := hds.length
    refine r_alloc hI zo_iTerm fun b9 w' hI => ?_
    refine r_storeW hI 1 rfl ag_iTerm (by simpa using hld) rfl (by simpa using hds.one) fun w' hI => ?_
    refine r_loadW hI 0 ag_iTerm rfl (by simpa using hlc) ?_
    refine r_loadW hI 1 ag_iTerm rfl (by simpa using hld) ?_
    refine Run.callPure fn_i_TermSame nm_i_TermSame hI (ih _ (List.getElem_mem hk1) _ S _ _ hcs hds) fun w' hI => ?_
    refine r_not ?_
    refine condV (fun hne => ?_) (fun he' => ?_)
    · exact done hI (by rw [← hrel, hstep]; simp at hne; rw [hne]; rfl)
    · refine r_add (by omega) ?_
      refine ⟨⟨k + 1, hk1, rfl, ?_, hI.nil⟩, by simp [intOf]; omega⟩
      rw [← hrel, hstep]
      simp at he'
      rw [he', Bool.true_and]
  · have : k = xs.length := by omega
    subst this
    refine done hI ?_
    rw [← hrel, List.drop_length, he, List.drop_length]
    rfl
theorem i_TermSame_calls : ∀ (t u : T) (S : Store) (cs ds : List Value), RdT S cs t → RdT S ds u → Pure Try.prog n_i_TermSame [.agg cs.toArray, .agg ds.toArray] S (.bool (eqT t u)) := by
  refine T.ind fun k n s ks ih u S cs ds h h' => ?_
  intro w hI
  obtain ⟨kv, rfl, _, _, _, hks⟩ := RdT.iff.1 h
  obtain ⟨kv', rfl, _, _, _, hks'⟩ := RdT.iff.1 h'
  obtain ⟨k', n', s', ks'⟩ := u
  simp only [T.name, T.kids, T.kind, T.n] at hks hks' ⊢
  refine calls_i_TermSame ?_
  unfold sh_i_TermSame
  refine r_box hI fun b1 w' hI => ?_
  refine r_box hI fun b2 w' hI => ?_
  refine r_fieldL hI 0 rfl fo_iTerm_0 sc_int rfl ?_
  refine r_fieldL hI 1 rfl fo_iTerm_0 sc_int rfl ?_
  refine r_eql ?_
  by_cases e1 : k = k'
  · rw [decide_eq_true e1]
    repeat (first | refine guard_true ?_ | refine guard_ne (by decide) ?_ | refine guard_undef ?_ | refine r_pickT ?_ | refine r_pickF ?_)
    refine r_fieldL hI 0 rfl fo_iTerm_1 sc_int rfl ?_
    refine r_fieldL hI 1 rfl fo_iTerm_1 sc_int rfl ?_
    refine r_eql ?_
    by_cases e2 : n = n'
    · rw [decide_eq_true e2]
      repeat (first | refine guard_true ?_ | refine guard_ne (by decide) ?_ | refine guard_undef ?_ | refine r_pickT ?_ | refine r_pickF ?_)
      refine r_fieldL hI 0 rfl fo_iTerm_2 sc_string rfl ?_
      refine r_fieldL hI 1 rfl fo_iTerm_2 sc_string rfl ?_
      refine r_seql ?_
      by_cases e3 : s = s'
      · rw [decide_eq_true e3]
        repeat (first | refine guard_true ?_ | refine guard_ne (by decide) ?_ | refine guard_undef ?_ | refine r_pickT ?_ | refine r_pickF ?_)
        refine r_fieldL hI 0 rfl fo_iTerm_3 sc_SiTerm rfl ?_
        refine r_fieldL hI 1 rfl fo_iTerm_3 sc_SiTerm rfl ?_
        refine Run.callPure fn_x_EqualFunc_Term nm_x_EqualFunc_Term hI (EqualFunc_of ih hks hks') fun w' hI => ?_
        repeat (first | refine guard_true ?_ | refine guard_ne (by decide) ?_ | refine guard_undef ?_ | refine r_pickT ?_ | refine r_pickF ?_)
        exact done hI (by rw [eqT, decide_eq_true e1, decide_eq_true e2, decide_eq_true e3]; rfl)
      · rw [decide_eq_false e3]
        repeat (first | refine guard_true ?_ | refine guard_ne (by decide) ?_ | refine guard_undef ?_ | refine r_pickT ?_ | refine r_pickF ?_)
        exact done hI (by rw [eqT, decide_eq_true e1, decide_eq_true e2, decide_eq_false e3]; rfl)
    · rw [decide_eq_false e2]
      repeat (first | refine guard_true ?_ | refine guard_ne (by decide) ?_ | refine guard_undef ?_ | refine r_pickT ?_ | refine r_pickF ?_)
      exact done hI (by rw [eqT, decide_eq_true e1, decide_eq_false e2]; rfl)
  · rw [decide_eq_false e1]
    repeat (first | refine guard_true ?_ | refine guard_ne (by decide) ?_ | refine guard_undef ?_ | refine r_pickT ?_ | refine r_pickF ?_)
    exact done hI (by rw [eqT, decide_eq_false e1]; rfl)

end Go.Proofs.Ytnoieadimkgjcaa
