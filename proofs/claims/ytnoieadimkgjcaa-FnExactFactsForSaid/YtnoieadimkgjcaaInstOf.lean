/- InstanceOf and FactsFor: both sides. -/
import Derived.Test.YtnoieadimkgjcaaDelF
import Derived.Test.YtnoieadimkgjcaaSubs
namespace Go.Proofs.Ytnoieadimkgjcaa
open Go Go.RowKit

def instB (u t : T) : Bool := validB u && (validB t && (matchT t u st0).1)
def ioItems (B : List Item) (K : Item) (d2 : Bool) : List Item := B ++ (match d2 with | true => [K] | false => [])
section
attribute [local irreducible] Run CondV GuardV LoadV
theorem s_InstanceOf_calls {u t : T} {S : Store} {ds cs : List Value} (h : RdT S ds u) (h' : RdT S cs t) (hw : cntT u ≤ 4611686018427387904) (hw2 : cntT t ≤ 4611686018427387904) : Pure Try.prog n_s_InstanceOf [.agg ds.toArray, .agg cs.toArray] S (.bool (instB u t)) := by
  intro w hI
  have hds := h
  have hcs := h'
  obtain ⟨kv, rfl, _, _, _, hks⟩ := RdT.iff.1 h
  obtain ⟨kv', rfl, _, _, _, hks'⟩ := RdT.iff.1 h'
  obtain ⟨k, n, s, ks⟩ := u
  obtain ⟨k', n', s', ks'⟩ := t
  simp only [T.name, T.kids, T.kind, T.n] at hks hks' hds hcs ⊢
  refine calls_s_InstanceOf ?_
  unfold sh_s_InstanceOf
  refine r_box hI fun b1 w' hI => ?_
  refine r_box hI fun b2 w' hI => ?_
  have hI : Inv w [] [.blk b1 (.cells #[.int .i64 k, .int .i64 n, .string s, kv] t_iTerm), .blk b2 (.cells #[.int .i64 k', .int .i64 n', .string s', kv'] t_iTerm)] S w' := hI
  refine ⟨fun q w' => q = .bool (!(validB (.mk k n s ks) && validB (.mk k' n' s' ks'))) ∧ Inv w [] [.blk b1 (.cells #[.int .i64 k, .int .i64 n, .string s, kv] t_iTerm), .blk b2 (.cells #[.int .i64 k', .int .i64 n', .string s', kv'] t_iTerm)] S w', ?_, ?_⟩
  · refine r_loadW hI 0 ag_iTerm rfl rfl ?_
    refine Run.callPure fn_s_TermValid nm_s_TermValid hI (sTermValid_calls hds hw) fun w' hI => ?_
    refine r_not ?_
    cases hv1 : validB (.mk k n s ks)
    · repeat (first | refine guard_true ?_ | refine guard_ne (by decide) ?_ | refine guard_undef ?_ | refine r_pickT ?_ | refine r_pickF ?_)
      exact ⟨rfl, hI⟩
    repeat (first | refine guard_true ?_ | refine guard_ne (by decide) ?_ | refine guard_undef ?_ | refine r_pickT ?_ | refine r_pickF ?_)
    refine r_loadW hI 1 ag_iTerm rfl rfl ?_
    refine Run.callPure fn_s_TermValid nm_s_TermValid hI (sTermValid_calls hcs hw2) fun w' hI => ?_
    refine r_not ?_
    repeat (first | refine guard_true ?_ | refine guard_ne (by decide) ?_ | refine guard_undef ?_ | refine r_pickT ?_ | refine r_pickF ?_)
    exact ⟨rfl, hI⟩
  intro q _ _ _ _ _ _ _ w'
  rintro ⟨rfl, hI⟩
  rw [instB, ← Bool.and_assoc]
  cases hv : (validB (.mk k n s ks) && validB (.mk k' n' s' ks'))
  · refine condV (fun _ => done hI rfl) (fun hb => by cases hb)
  refine condV (fun hb => by cases hb) (fun _ => ?_)
  rw [Bool.and_eq_true] at hv
  rw [Bool.true_and]
  have hcall : ∀ (kb : Nat) (kc : Array Value), KnownC S kc st0 → _ := fun kb kc hkc => l3Match_calls _ _ S _ _ kb kc st0 hcs hds (valid_ok hv.2).1 (valid_ok hv.1).2 st0_ok hkc
  generalize matchT (.mk k' n' s' ks') (.mk k n s ks) st0 = r at hcall ⊢
  refine ⟨fun D x4 x16 x15 x14 x13 w_ => (D 0 = true → x13 = .agg #[.int .i64 k', .int .i64 n', .string s', kv']) ∧ (D 1 = true → x14 = .agg #[.int .i64 k, .int .i64 n, .string s, kv]) ∧ (D 2 = true → True) ∧ (D 3 = true → x16 = .bool r.1) ∧ (D 4 = true → x4 = .bool r.1) ∧ ∃ kb kc, (D 2 = true → x15 = kv0 kb) ∧ (D 3 = true → D 2 = true) ∧ (D 3 = false → D 2 = true → KnownC S kc st0) ∧ Inv w [] (ioItems [.blk b1 (.cells #[.int .i64 k, .int .i64 n, .string s, kv] t_iTerm), .blk b2 (.cells #[.int .i64 k', .int .i64 n', .string s', kv'] t_iTerm)] (.blk kb (.cells kc t_iTerm)) (D 2)) S w_, ⟨fun h => Bool.noConfusion h, fun h => Bool.noConfusion h, fun h => Bool.noConfusion h, fun h => Bool.noConfusion h, fun h => Bool.noConfusion h, ⟨0, #[], fun h => Bool.noConfusion h, fun h => Bool.noConfusion h, fun _ h => Bool.noConfusion h, hI.draw⟩⟩, ⟨?_, ?_, ?_, ?_, ?_, trivial⟩, ?_⟩
  · intro D hD_  x4 x16 x15 x14 x13 w_
    rintro ⟨h0_, h1_, h2_, h3_, h4_, ⟨kb, kc, e2, k3, e3, hI⟩⟩
    refine r_loadW hI 1 ag_iTerm rfl rfl ?_
    exact ⟨fun _ => rfl, h1_, h2_, h3_, h4_, ⟨kb, kc, e2, k3, e3, hI⟩⟩
  · intro D hD_  x4 x16 x15 x14 x13 w_
    rintro ⟨h0_, h1_, h2_, h3_, h4_, ⟨kb, kc, e2, k3, e3, hI⟩⟩
    refine r_loadW hI 0 ag_iTerm rfl rfl ?_
    exact ⟨h0_, fun _ => rfl, h2_, h3_, h4_, ⟨kb, kc, e2, k3, e3, hI⟩⟩
  · intro D hD_  x4 x16 x15 x14 x13 w_
    rintro ⟨h0_, h1_, h2_, h3_, h4_, ⟨kb, kc, e2, k3, e3, hI⟩⟩
    have f3 : D 3 = false := Bool.eq_false_iff.2 fun h => by rw [k3 h] at hD_; cases hD_
    rw [hD_] at hI
    refine r_makeSliceZ (n := 26) hI mk_SiTerm (by omega) (by omega) (by omega) fun kb w_ hI => ?_
    have hkc0 := noTable _ rfl S
    obtain ⟨kc, hkce⟩ : ∃ kc, kc = (Array.range 104).map ((#[.int .i64 0, .int .i64 0, .string ⟨#[]⟩, .slice none 0 0] : Array Value)[· % (#[.int .i64 0, .int .i64 0, .string ⟨#[]⟩, .slice none 0 0] : Array Value).size]!) := ⟨_, rfl⟩
    rw [← hkce] at hkc0
    have e2 : setD D 2 2 = true → kv0 kb = kv0 kb := fun _ => rfl
    have k3 := fun (_ : setD D 2 3 = true) => (rfl : setD D 2 2 = true)
    have e3 := fun (_ : setD D 2 3 = false) (_ : setD D 2 2 = true) => hkc0
    have hI : Inv w [] (ioItems [.blk b1 (.cells #[.int .i64 k, .int .i64 n, .string s, kv] t_iTerm), .blk b2 (.cells #[.int .i64 k', .int .i64 n', .string s', kv'] t_iTerm)] (.blk kb (.cells kc t_iTerm)) true) S w_ := by rw [hkce]; exact hI
    exact ⟨h0_, h1_, fun _ => by first | assumption | trivial, h3_, h4_, ⟨kb, kc, e2, k3, e3, hI⟩⟩
  · intro D hD_ d0_0 d1_1 d2_2 x4 x16 x15 x14 x13 w_
    rintro ⟨h0_, h1_, h2_, h3_, h4_, ⟨kb, kc, e2, k3, e3, hI⟩⟩
    obtain rfl := h0_ d0_0
    obtain rfl := h1_ d1_1
    have g2_ := h2_ d2_2
    have q2 := e2 d2_2
    subst q2
    have hkc := e3 hD_ d2_2
    rw [d2_2] at hI
    refine Run.call (A := [_, _]) fn_s_l3Match nm_s_l3Match hI (hcall kb kc hkc) fun v' I' S' w_ => ?_
    rintro ⟨rfl, rfl, kc, rfl, _⟩ _ hI
    have e3 := fun (h : setD D 3 3 = false) => (Bool.noConfusion h : setD D 3 2 = true → KnownC S' kc st0)
    have k3 := fun (_ : setD D 3 3 = true) => d2_2
    have hI : Inv w [] (ioItems [.blk b1 (.cells #[.int .i64 k, .int .i64 n, .string s, kv] t_iTerm), .blk b2 (.cells #[.int .i64 k', .int .i64 n', .string s', kv'] t_iTerm)] (.blk kb (.cells kc t_iTerm)) (D 2)) S' w_ := by rw [d2_2]; exact hI
    exact ⟨h0_, h1_, h2_, fun _ => rfl, h4_, ⟨kb, kc, e2, k3, e3, hI⟩⟩
  · intro D hD_ d3_0 d3_1 d0_2 d1_3 d2_4 d3_5 x4 x16 x15 x14 x13 w_
    rintro ⟨h0_, h1_, h2_, h3_, h4_, ⟨kb, kc, e2, k3, e3, hI⟩⟩
    obtain rfl := h3_ d3_0
    exact ⟨h0_, h1_, h2_, h3_, fun _ => rfl, ⟨kb, kc, e2, k3, e3, hI⟩⟩
  intro D d4_ d3_ d2_ d1_ d0_ x4 x16 x15 x14 x13 w_
  rintro ⟨h0_, h1_, h2_, h3_, h4_, ⟨kb, kc, e2, k3, e3, hI⟩⟩
  obtain rfl := h4_ d4_
  obtain rfl := h3_ d3_
  have g2_ := h2_ d2_
  obtain rfl := h1_ d1_
  obtain rfl := h0_ d0_
  clear h0_ h1_ h2_ h3_ h4_
  exact done hI rfl
theorem i_InstanceOf_calls {u t : T} {S : Store} {ds cs : List Value} (h : RdT S ds u) (h' : RdT S cs t) : Pure Try.prog n_i_InstanceOf [.agg ds.toArray, .agg cs.toArray] S (.bool (instB u t)) := by
  intro w hI
  have hds := h
  have hcs := h'
  obtain ⟨kv, rfl, _, _, _, hks⟩ := RdT.iff.1 h
  obtain ⟨kv', rfl, _, _, _, hks'⟩ := RdT.iff.1 h'
  obtain ⟨k, n, s, ks⟩ := u
  obtain ⟨k', n', s', ks'⟩ := t
  simp only [T.name, T.kids, T.kind, T.n] at hks hks' hds hcs ⊢
  refine calls_i_InstanceOf ?_
  unfold sh_i_InstanceOf
  refine r_box hI fun b1 w' hI => ?_
  refine r_box hI fun b2 w' hI => ?_
  have hI : Inv w [] [.blk b1 (.cells #[.int .i64 k, .int .i64 n, .string s, kv] t_iTerm), .blk b2 (.cells #[.int .i64 k', .int .i64 n', .string s', kv'] t_iTerm)] S w' := hI
  refine r_loadW hI 0 ag_iTerm rfl rfl ?_
  refine Run.callPure fn_i_TermValid nm_i_TermValid hI (iTermValid_calls hds) fun w' hI => ?_
  rw [instB]
  cases hv1 : validB (.mk k n s ks)
  · repeat (first | refine guard_true ?_ | refine guard_ne (by decide) ?_ | refine guard_undef ?_ | refine r_pickT ?_ | refine r_pickF ?_)
    exact done hI rfl
  repeat (first | refine guard_true ?_ | refine guard_ne (by decide) ?_ | refine guard_undef ?_ | refine r_pickT ?_ | refine r_pickF ?_)
  refine r_loadW hI 1 ag_iTerm rfl rfl ?_
  refine Run.callPure fn_i_TermValid nm_i_TermValid hI (iTermValid_calls hcs) fun w' hI => ?_
  cases hv2 : validB (.mk k' n' s' ks')
  · repeat (first | refine guard_true ?_ | refine guard_ne (by decide) ?_ | refine guard_undef ?_ | refine r_pickT ?_ | refine r_pickF ?_)
    exact done hI rfl
  repeat (first | refine guard_true ?_ | refine guard_ne (by decide) ?_ | refine guard_undef ?_ | refine r_pickT ?_ | refine r_pickF ?_)
  refine r_loadW hI 0 ag_iTerm rfl rfl ?_
  refine r_loadW hI 1 ag_iTerm rfl rfl ?_
  refine r_makeMap hI fun mb w' hI => ?_
  refine Run.call (A := [_, _]) fn_i_instance nm_i_instance hI (instance_calls _ _ S _ _ mb 0 #[] st0 hcs hds (valid_ok hv2).1 (valid_ok hv1).2 st0_ok (KnownM.empty S)) fun v' I' S' w' => ?_
  rintro ⟨rfl, rfl, es, ck, rfl, _⟩ _ hI
  repeat (first | refine guard_true ?_ | refine guard_ne (by decide) ?_ | refine guard_undef ?_ | refine r_pickT ?_ | refine r_pickF ?_)
  exact done hI rfl
end

end Go.Proofs.Ytnoieadimkgjcaa
