/- Matching a general term to a special one: the plain form, and spec.l3Match. -/
import Derived.Test.YtnoieadimkgjcaaMap
import Derived.Test.YtnoieadimkgjcaaGoals
namespace Go.Proofs.Ytnoieadimkgjcaa
open Go Go.RowKit

abbrev Known := List (Option T)
mutual
def matchT : T → T → Known → Bool × Known
  | .mk k n s ks, u, st => if k = 1 then (match st[n.toNat]? with
      | some (some t) => (eqT t u, st)
      | _ => (true, st.set n.toNat (some u)))
    else if hdEq (.mk k n s ks) u = true then matchL ks u.kids st else (false, st)
def matchL : List T → List T → Known → Bool × Known
  | [], _, st => (true, st)
  | _ :: _, [], st => (true, st)
  | t :: ts, u :: us, st => if (matchT t u st).1 = true then matchL ts us (matchT t u st).2 else (false, (matchT t u st).2)
end
theorem matchL_drop (ts us : List T) (st : Known) (j : Nat) (h : j < ts.length) (h' : j < us.length) :
    matchL (ts.drop j) (us.drop j) st = if (matchT ts[j] us[j] st).1 = true then matchL (ts.drop (j + 1)) (us.drop (j + 1)) (matchT ts[j] us[j] st).2 else (false, (matchT ts[j] us[j] st).2) := by
  rw [List.drop_eq_getElem_cons h, List.drop_eq_getElem_cons h', matchL]
/- variables within the table; kinds that are kinds -/
mutual
def okV : T → Prop
  | .mk k n _ ks => (k = 1 → 0 ≤ n ∧ n ≤ 25) ∧ okVL ks
def okVL : List T → Prop
  | [] => True
  | t :: ts => okV t ∧ okVL ts
end
theorem okVL_mem : ∀ {ts : List T}, okVL ts → ∀ t ∈ ts, okV t
  | _ :: _, h, t, ht => by
    rcases List.mem_cons.1 ht with rfl | ht
    · exact h.1
    · exact okVL_mem h.2 t ht
mutual
def okK : T → Prop
  | .mk k _ _ ks => k ≠ 0 ∧ okKL ks
def okKL : List T → Prop
  | [] => True
  | t :: ts => okK t ∧ okKL ts
end
theorem okKL_mem : ∀ {ts : List T}, okKL ts → ∀ t ∈ ts, okK t
  | _ :: _, h, t, ht => by
    rcases List.mem_cons.1 ht with rfl | ht
    · exact h.1
    · exact okKL_mem h.2 t ht
theorem ownB_v {t : T} (h : ownB t = true) : (t.kind = 1 → 0 ≤ t.n ∧ t.n ≤ 25) ∧ t.kind ≠ 0 := by
  unfold ownB at h
  refine ⟨fun hk => ?_, fun hk => ?_⟩
  · rw [if_pos hk] at h
    simp only [Bool.and_eq_true, decide_eq_true_eq] at h
    exact ⟨h.1, h.2.1⟩
  · rw [if_neg (by omega), if_neg (by omega), if_neg (by omega)] at h
    cases h
mutual
theorem shape_ok : ∀ (t : T) (d : Int), shapeT t d = true → okV t ∧ okK t
  | .mk k n s ks, d, h => by
    rw [shapeT] at h
    split at h
    · cases h
    · simp only [Bool.and_eq_true] at h
      obtain ⟨h1, h2⟩ := h
      obtain ⟨h3, h4⟩ := shapeL_ok ks (d - 1) h2
      rw [okV, okK]
      obtain ⟨h5, h6⟩ := ownB_v h1
      exact ⟨⟨h5, h3⟩, ⟨h6, h4⟩⟩
theorem shapeL_ok : ∀ (ts : List T) (d : Int), shapeL ts d = true → okVL ts ∧ okKL ts
  | [], d, h => by simp [okVL, okKL]
  | t :: ts, d, h => by
    rw [shapeL, Bool.and_eq_true] at h
    obtain ⟨h1, h2⟩ := shape_ok t d h.1
    obtain ⟨h3, h4⟩ := shapeL_ok ts d h.2
    rw [okVL, okKL]
    exact ⟨⟨h1, h3⟩, ⟨h2, h4⟩⟩
end
theorem valid_ok {t : T} (h : validB t = true) : okV t ∧ okK t := by
  rw [validB, Bool.and_eq_true] at h
  exact shape_ok t 30 h.1
def stOk (st : Known) : Prop := st.length = 26 ∧ ∀ t, some t ∈ st → okK t
theorem stOk_set {st : Known} {n : Nat} {u : T} (h : stOk st) (hu : okK u) : stOk (st.set n (some u)) := by
  refine ⟨by rw [List.length_set]; exact h.1, fun t ht => ?_⟩
  rcases List.mem_or_eq_of_mem_set ht with ht | ht
  · exact h.2 t ht
  · simp only [Option.some.injEq] at ht
    rw [ht]; exact hu
mutual
theorem match_ok : ∀ (t u : T) (st : Known), stOk st → okK u → stOk (matchT t u st).2
  | .mk k n s ks, u, st, h, hu => by
    rw [matchT]
    split
    · split
      · exact h
      · exact stOk_set h hu
    · split
      · obtain ⟨k', n', s', ks'⟩ := u
        rw [okK] at hu
        exact matchL_ok ks ks' st h hu.2
      · exact h
theorem matchL_ok : ∀ (ts us : List T) (st : Known), stOk st → okKL us → stOk (matchL ts us st).2
  | [], _, st, h, _ => by rw [matchL]; exact h
  | _ :: _, [], st, h, _ => by rw [matchL]; exact h
  | t :: ts, u :: us, st, h, hu => by
    rw [matchL]
    rw [okKL] at hu
    split
    · exact matchL_ok ts us _ (match_ok t u st h hu.1) hu.2
    · exact match_ok t u st h hu.1
end
def noCells : List Value := [.int .i64 0, .int .i64 0, .string ⟨#[]⟩, .slice none 0 0]
/- the table of spec.l3Match -/
def KnownC (S : Store) (c : Array Value) (st : Known) : Prop := c.size = 104 ∧ ∀ i (h : i < st.length), (st[i] = none → cellsAt c (i * 4) 4 = noCells) ∧ (∀ t, st[i] = some t → RdT S (cellsAt c (i * 4) 4) t)
theorem KnownC.set {S : Store} {c : Array Value} {st : Known} (h : KnownC S c st) {n : Nat} (hn : n < 26) {cs : List Value} {u : T} (hu : RdT S cs u) : KnownC S (putCells c (n * 4) cs) (st.set n (some u)) := by
  have hlc := hu.length
  have hs : (putCells c (n * 4) cs).size = 104 := by rw [putCells_size _ _ _ (by rw [h.1]; omega)]; exact h.1
  refine ⟨hs, fun i hi => ?_⟩
  rw [List.length_set] at hi
  by_cases e : n = i
  · subst e
    rw [List.getElem_set_self]
    refine ⟨fun h => (by cases h), fun t ht => ?_⟩
    simp only [Option.some.injEq] at ht
    subst ht
    have := cellsAt_put_self (c := c) (o := n * 4) (vs := cs) (by rw [h.1]; omega)
    rw [hlc] at this
    rw [this]
    exact hu
  · rw [List.getElem_set_ne e, cellsAt_put_ne (by rw [h.1]; omega) (by omega)]
    exact h.2 i hi
section
attribute [local irreducible] Run CondV GuardV LoadV
abbrev kv0 (kb : Nat) : Value := .slice (some ⟨kb, 0, none⟩) 26 26
theorem l3Match_calls : ∀ (t u : T) (S : Store) (cs ds : List Value) (kb : Nat) (kc : Array Value) (st : Known), RdT S cs t → RdT S ds u → okV t → okK u → stOk st → KnownC S kc st →
    Tri Try.prog n_s_l3Match [.agg cs.toArray, .agg ds.toArray, kv0 kb] [.blk kb (.cells kc t_iTerm)] S fun r I' S' => S' = S ∧ r = .bool (matchT t u st).1 ∧ ∃ kc', I' = [.blk kb (.cells kc' t_iTerm)] ∧ KnownC S kc' (matchT t u st).2 := by
  refine T.ind fun k n s ks ih u S cs ds kb kc st h h' hv hu hst hkc => ?_
  intro w hI
  have hds := h'
  obtain ⟨kv, rfl, _, _, _, hks⟩ := RdT.iff.1 h
  obtain ⟨kv', rfl, _, _, _, hks'⟩ := RdT.iff.1 h'
  obtain ⟨k', n', s', ks'⟩ := u
  simp only [T.name, T.kids, T.kind, T.n] at hks hks' ⊢
  have hlen := hks.le
  simp only [maxLen] at hlen
  rw [okV] at hv
  obtain ⟨hv1, hv2⟩ := hv
  have huk := hu
  rw [okK] at hu
  obtain ⟨X, hX⟩ : ∃ X, X = feet [Item.blk kb (.cells kc t_iTerm)] := ⟨_, rfl⟩
  rw [← hX] at hI ⊢
  refine calls_s_l3Match ?_
  unfold sh_s_l3Match
  refine r_box hI fun b1 w' hI => ?_
  refine r_box hI fun b2 w' hI => ?_
  have hI : Inv w X [.blk b1 (.cells #[.int .i64 k, .int .i64 n, .string s, kv] t_iTerm), .blk b2 (.cells #[.int .i64 k', .int .i64 n', .string s', kv'] t_iTerm), .blk kb (.cells kc t_iTerm)] S w' := hI.perm (by
    refine (List.perm_append_comm (l₁ := [_, _]) (l₂ := [_])).trans ?_
    exact List.Perm.refl _)
  refine r_fieldL hI 0 rfl fo_iTerm_0 sc_int rfl ?_
  refine r_eql ?_
  refine condP (fun hk1 => ?_) (fun hk1 => ?_)
  · obtain ⟨hn0, hn25⟩ := hv1 hk1
    obtain ⟨j, rfl⟩ : ∃ j : Nat, n = j := ⟨n.toNat, by omega⟩
    have hj : j < 26 := by omega
    have hjs : j < st.length := by rw [hst.1]; exact hj
    refine r_fieldL hI 0 rfl fo_iTerm_1 sc_int rfl ?_
    refine r_indexAddr sl_SiTerm hj ?_
    refine r_field fo_iTerm_0 ?_
    rw [Nat.zero_add, Nat.add_zero]
    obtain ⟨hno, hso⟩ := hkc.2 j hjs
    cases hst2 : st[j] with
    | none =>
      have hcell := hno hst2
      refine r_loadL hI 2 sc_int rfl (by have := cellsAt_get hcell 0 _ rfl; exact this) ?_
      refine r_neq ?_
      refine condV (fun hb => by simp at hb) (fun _ => ?_)
      refine r_fieldL hI 0 rfl fo_iTerm_1 sc_int rfl ?_
      refine r_loadW hI 1 ag_iTerm rfl rfl ?_
      refine r_indexAddr sl_SiTerm hj ?_
      rw [Nat.zero_add]
      refine r_storeB hI 2 rfl ag_iTerm rfl (by rw [hkc.1]; exact Nat.ble_eq_true_of_le (by omega)) hds.one fun w' hI => ?_
      have hm : matchT (.mk k j s ks) (.mk k' n' s' ks') st = (true, st.set j (some (.mk k' n' s' ks'))) := by
        rw [matchT, if_pos hk1, Int.toNat_natCast, List.getElem?_eq_getElem hjs, hst2]
      rw [hm]
      exact ⟨_, _, _, rfl, hI.pick [false, false, true], Ext.refl _ _ _, rfl, rfl, _, rfl, hkc.set hj hds⟩
    | some t0 =>
      have hR := hso t0 hst2
      have hk0 : t0.kind ≠ 0 := by
        have := hst.2 t0 (by rw [← hst2]; exact List.getElem_mem hjs)
        obtain ⟨a, b, c, d⟩ := t0
        rw [okK] at this
        exact this.1
      obtain ⟨kv0', hcell, _, _, _, _⟩ := RdT.iff.1 hR
      refine r_loadL hI 2 sc_int rfl (by have := cellsAt_get hcell 0 _ rfl; exact this) ?_
      refine r_neq ?_
      rw [decide_eq_false hk0]
      refine condV (fun _ => ?_) (fun hb => by cases hb)
      refine ⟨fun D x6 x24 x23 x22 x21 x20 x19 x18 w_ => (D 0 = true → x18 = kv0 kb) ∧ (D 1 = true → x19 = .pointer (some ⟨b1, 1, none⟩)) ∧ (D 2 = true → x20 = .int .i64 j) ∧ (D 3 = true → x21 = .pointer (some ⟨kb, j * 4, none⟩)) ∧ (D 4 = true → x22 = .agg (cellsAt kc (j * 4) 4).toArray) ∧ (D 5 = true → x23 = .agg #[.int .i64 k', .int .i64 n', .string s', kv']) ∧ (D 6 = true → x24 = .bool (eqT t0 (.mk k' n' s' ks'))) ∧ (D 7 = true → x6 = .bool (eqT t0 (.mk k' n' s' ks'))) ∧ Inv w X [.blk b1 (.cells #[.int .i64 k, .int .i64 (j : Int), .string s, kv] t_iTerm), .blk b2 (.cells #[.int .i64 k', .int .i64 n', .string s', kv'] t_iTerm), .blk kb (.cells kc t_iTerm)] S w_, ⟨fun h => Bool.noConfusion h, fun h => Bool.noConfusion h, fun h => Bool.noConfusion h, fun h => Bool.noConfusion h, fun h => Bool.noConfusion h, fun h => Bool.noConfusion h, fun h => Bool.noConfusion h, fun h => Bool.noConfusion h, hI.draw⟩, ⟨?_, ?_, ?_, ?_, ?_, ?_, ?_, ?_, trivial⟩, ?_⟩
      · intro D hD_  x6 x24 x23 x22 x21 x20 x19 x18 w_
        rintro ⟨h0_, h1_, h2_, h3_, h4_, h5_, h6_, h7_, hI⟩
        exact ⟨fun _ => rfl, h1_, h2_, h3_, h4_, h5_, h6_, h7_, hI⟩
      · intro D hD_  x6 x24 x23 x22 x21 x20 x19 x18 w_
        rintro ⟨h0_, h1_, h2_, h3_, h4_, h5_, h6_, h7_, hI⟩
        refine r_field fo_iTerm_1 ?_
        exact ⟨h0_, fun _ => rfl, h2_, h3_, h4_, h5_, h6_, h7_, hI⟩
      · intro D hD_ d1_0 x6 x24 x23 x22 x21 x20 x19 x18 w_
        rintro ⟨h0_, h1_, h2_, h3_, h4_, h5_, h6_, h7_, hI⟩
        obtain rfl := h1_ d1_0
        refine r_loadL hI 0 sc_int rfl rfl ?_
        exact ⟨h0_, h1_, fun _ => rfl, h3_, h4_, h5_, h6_, h7_, hI⟩
      · intro D hD_ d0_0 d2_1 x6 x24 x23 x22 x21 x20 x19 x18 w_
        rintro ⟨h0_, h1_, h2_, h3_, h4_, h5_, h6_, h7_, hI⟩
        obtain rfl := h0_ d0_0
        obtain rfl := h2_ d2_1
        refine r_indexAddr sl_SiTerm hj ?_; rw [Nat.zero_add]
        exact ⟨h0_, h1_, h2_, fun _ => rfl, h4_, h5_, h6_, h7_, hI⟩
      · intro D hD_ d3_0 x6 x24 x23 x22 x21 x20 x19 x18 w_
        rintro ⟨h0_, h1_, h2_, h3_, h4_, h5_, h6_, h7_, hI⟩
        obtain rfl := h3_ d3_0
        refine r_loadLA hI 2 (cellsAt kc (j * 4) 4) ag_iTerm rfl hR.length (fun i v hi => cellsAt_get rfl i v hi) ?_
        exact ⟨h0_, h1_, h2_, h3_, fun _ => rfl, h5_, h6_, h7_, hI⟩
      · intro D hD_  x6 x24 x23 x22 x21 x20 x19 x18 w_
        rintro ⟨h0_, h1_, h2_, h3_, h4_, h5_, h6_, h7_, hI⟩
        refine r_loadW hI 1 ag_iTerm rfl rfl ?_
        exact ⟨h0_, h1_, h2_, h3_, h4_, fun _ => rfl, h6_, h7_, hI⟩
      · intro D hD_ d4_0 d5_1 x6 x24 x23 x22 x21 x20 x19 x18 w_
        rintro ⟨h0_, h1_, h2_, h3_, h4_, h5_, h6_, h7_, hI⟩
        obtain rfl := h4_ d4_0
        obtain rfl := h5_ d5_1
        refine Run.callPure fn_s_TermSame nm_s_TermSame hI (s_TermSame_calls t0 _ S _ _ hR hds) fun w_ hI => ?_
        exact ⟨h0_, h1_, h2_, h3_, h4_, h5_, fun _ => rfl, h7_, hI⟩
      · intro D hD_ d6_0 d6_1 d0_2 d1_3 d2_4 d3_5 d4_6 d5_7 d6_8 x6 x24 x23 x22 x21 x20 x19 x18 w_
        rintro ⟨h0_, h1_, h2_, h3_, h4_, h5_, h6_, h7_, hI⟩
        obtain rfl := h6_ d6_0
        exact ⟨h0_, h1_, h2_, h3_, h4_, h5_, h6_, fun _ => rfl, hI⟩
      intro D d7_ d6_ d5_ d4_ d3_ d2_ d1_ d0_ x6 x24 x23 x22 x21 x20 x19 x18 w_
      rintro ⟨h0_, h1_, h2_, h3_, h4_, h5_, h6_, h7_, hI⟩
      obtain rfl := h7_ d7_
      obtain rfl := h6_ d6_
      obtain rfl := h5_ d5_
      obtain rfl := h4_ d4_
      obtain rfl := h3_ d3_
      obtain rfl := h2_ d2_
      obtain rfl := h1_ d1_
      obtain rfl := h0_ d0_
      clear h0_ h1_ h2_ h3_ h4_ h5_ h6_ h7_
      have hm : matchT (.mk k j s ks) (.mk k' n' s' ks') st = (eqT t0 (.mk k' n' s' ks'), st) := by
        rw [matchT, if_pos hk1, Int.toNat_natCast, List.getElem?_eq_getElem hjs, hst2]
      rw [hm]
      exact ⟨_, _, _, rfl, hI.pick [false, false, true], Ext.refl _ _ _, rfl, rfl, _, rfl, hkc⟩
  refine ⟨fun q w' => q = .bool (!hdEq (.mk k n s ks) (.mk k' n' s' ks')) ∧ Inv w X [.blk b1 (.cells #[.int .i64 k, .int .i64 n, .string s, kv] t_iTerm), .blk b2 (.cells #[.int .i64 k', .int .i64 n', .string s', kv'] t_iTerm), .blk kb (.cells kc t_iTerm)] S w', ?_, ?_⟩
  · refine r_fieldL hI 0 rfl fo_iTerm_0 sc_int rfl ?_
    refine r_fieldL hI 1 rfl fo_iTerm_0 sc_int rfl ?_
    refine r_neq ?_
    by_cases e1 : k = k'
    · rw [decide_eq_true e1]
      repeat (first | refine guard_true ?_ | refine guard_ne (by decide) ?_ | refine guard_undef ?_ | refine r_pickT ?_ | refine r_pickF ?_)
      refine r_fieldL hI 0 rfl fo_iTerm_1 sc_int rfl ?_
      refine r_fieldL hI 1 rfl fo_iTerm_1 sc_int rfl ?_
      refine r_neq ?_
      by_cases e2 : n = n'
      · rw [decide_eq_true e2]
        repeat (first | refine guard_true ?_ | refine guard_ne (by decide) ?_ | refine guard_undef ?_ | refine r_pickT ?_ | refine r_pickF ?_)
        refine r_fieldL hI 0 rfl fo_iTerm_2 sc_string rfl ?_
        refine r_fieldL hI 1 rfl fo_iTerm_2 sc_string rfl ?_
        refine r_sneq ?_
        by_cases e3 : s = s'
        · rw [decide_eq_true e3]
          repeat (first | refine guard_true ?_ | refine guard_ne (by decide) ?_ | refine guard_undef ?_ | refine r_pickT ?_ | refine r_pickF ?_)
          refine r_fieldL hI 0 rfl fo_iTerm_3 sc_SiTerm rfl ?_
          refine r_lenSl hks sl_SiTerm ?_
          refine r_fieldL hI 1 rfl fo_iTerm_3 sc_SiTerm rfl ?_
          refine r_lenSl hks' sl_SiTerm ?_
          refine r_neq ?_
          repeat (first | refine guard_true ?_ | refine guard_ne (by decide) ?_ | refine guard_undef ?_ | refine r_pickT ?_ | refine r_pickF ?_)
          exact ⟨by rw [hdEq_mk, decide_eq_true e1, decide_eq_true e2, decide_eq_true e3, lenEq]; rfl, hI⟩
        · rw [decide_eq_false e3]
          repeat (first | refine guard_true ?_ | refine guard_ne (by decide) ?_ | refine guard_undef ?_ | refine r_pickT ?_ | refine r_pickF ?_)
          exact ⟨by rw [hdEq_mk, decide_eq_true e1, decide_eq_true e2, decide_eq_false e3]; rfl, hI⟩
      · rw [decide_eq_false e2]
        repeat (first | refine guard_true ?_ | refine guard_ne (by decide) ?_ | refine guard_undef ?_ | refine r_pickT ?_ | refine r_pickF ?_)
        exact ⟨by rw [hdEq_mk, decide_eq_true e1, decide_eq_false e2]; rfl, hI⟩
    · rw [decide_eq_false e1]
      repeat (first | refine guard_true ?_ | refine guard_ne (by decide) ?_ | refine guard_undef ?_ | refine r_pickT ?_ | refine r_pickF ?_)
      exact ⟨by rw [hdEq_mk, decide_eq_false e1]; rfl, hI⟩

  intro q _ _ _ _ _ _ _ _ _ _ _ _ _ _ _ _ _ _ _ _ _ _ _ _ _ _ _ w'
  rintro ⟨rfl, hI⟩
  cases hd : hdEq (.mk k n s ks) (.mk k' n' s' ks')
  · refine condV (fun _ => ?_) (fun hb => by cases hb)
    have hm : matchT (.mk k n s ks) (.mk k' n' s' ks') st = (false, st) := by rw [matchT, if_neg hk1, if_neg (by rw [hd]; decide)]
    rw [hm]
    exact ⟨_, _, _, rfl, hI.pick [false, false, true], Ext.refl _ _ _, rfl, rfl, _, rfl, hkc⟩
  refine condV (fun hb => by cases hb) (fun _ => ?_)
  have hle : ks.length = ks'.length := by
    rw [hdEq_mk] at hd
    simp only [Bool.and_eq_true, decide_eq_true_eq] at hd
    exact hd.2.2.2
  have hm : matchT (.mk k n s ks) (.mk k' n' s' ks') st = matchL ks ks' st := by rw [matchT, if_neg hk1, if_pos hd]; rfl
  rw [hm]
  have hu2 := hu.2
  refine ⟨fun i w' => ∃ (j : Nat) (st' : Known) (kc' : Array Value), j ≤ ks.length ∧ i = .int .i64 j ∧ matchL (ks.drop j) (ks'.drop j) st' = matchL ks ks' st ∧ stOk st' ∧ KnownC S kc' st' ∧ Inv w X [.blk b1 (.cells #[.int .i64 k, .int .i64 n, .string s, kv] t_iTerm), .blk b2 (.cells #[.int .i64 k', .int .i64 n', .string s', kv'] t_iTerm), .blk kb (.cells kc' t_iTerm)] S w', fun i _ => ks.length - (intOf i).toNat, ⟨0, st, kc, Nat.zero_le _, rfl, rfl, hst, hkc, hI⟩, ?_⟩
  intro t5 _ _ _ _ _ _ _ _ _ _ _ _ _ _ _ _ _ _ _ _ _ w'
  rintro ⟨j, st', kc', hj, rfl, hrel, hst', hkc', hI⟩
  refine r_fieldL hI 0 rfl fo_iTerm_3 sc_SiTerm rfl ?_
  refine r_lenSl hks sl_SiTerm ?_
  refine r_lss ?_
  refine condP (fun hji => ?_) (fun hji => ?_)
  · have hj1 : j < ks.length := by omega
    have hj2 : j < ks'.length := by omega
    obtain ⟨c1, o1, cap1, a1, E1, fz1, rfl, hS1, hR1⟩ := hks.at_ hj1
    obtain ⟨c2, o2, cap2, a2, E2, fz2, rfl, hS2, hR2⟩ := hks'.at_ hj2
    rw [matchL_drop ks ks' st' j hj1 hj2] at hrel
    have hcall := ih _ (List.getElem_mem hj1) ks'[j] S _ _ kb kc' st' hR1 hR2 (okVL_mem hv2 _ (List.getElem_mem hj1)) (okKL_mem hu2 _ (List.getElem_mem hj2)) hst' hkc'
    have hsn := match_ok ks[j] ks'[j] st' hst' (okKL_mem hu2 _ (List.getElem_mem hj2))
    generalize hr : matchT ks[j] ks'[j] st' = r at hrel hcall hsn
    refine ⟨fun D x77 x76 x75 x74 x73 x72 x71 x70 x69 x68 x67 x66 x65 w_ => (D 0 = true → x65 = .pointer (some ⟨b1, 3, none⟩)) ∧ (D 1 = true → x66 = .slice (some ⟨c1, o1, none⟩) ks.length cap1) ∧ (D 2 = true → x67 = .int .i64 j) ∧ (D 3 = true → x68 = .pointer (some ⟨c1, o1 + j * 4, none⟩)) ∧ (D 4 = true → x69 = .agg (cellsAt a1 (o1 + j * 4) 4).toArray) ∧ (D 5 = true → x70 = .pointer (some ⟨b2, 3, none⟩)) ∧ (D 6 = true → x71 = .slice (some ⟨c2, o2, none⟩) ks'.length cap2) ∧ (D 7 = true → x72 = .int .i64 j) ∧ (D 8 = true → x73 = .pointer (some ⟨c2, o2 + j * 4, none⟩)) ∧ (D 9 = true → x74 = .agg (cellsAt a2 (o2 + j * 4) 4).toArray) ∧ (D 10 = true → x75 = kv0 kb) ∧ (D 11 = true → x76 = .bool r.1) ∧ (D 12 = true → x77 = .bool (!r.1)) ∧ (D 11 = false → Inv w X [.blk b1 (.cells #[.int .i64 k, .int .i64 n, .string s, .slice (some ⟨c1, o1, none⟩) ks.length cap1] t_iTerm), .blk b2 (.cells #[.int .i64 k', .int .i64 n', .string s', .slice (some ⟨c2, o2, none⟩) ks'.length cap2] t_iTerm), .blk kb (.cells kc' t_iTerm)] S w_) ∧ (D 11 = true → ∃ kc2, KnownC S kc2 r.2 ∧ Inv w X [.blk b1 (.cells #[.int .i64 k, .int .i64 n, .string s, .slice (some ⟨c1, o1, none⟩) ks.length cap1] t_iTerm), .blk b2 (.cells #[.int .i64 k', .int .i64 n', .string s', .slice (some ⟨c2, o2, none⟩) ks'.length cap2] t_iTerm), .blk kb (.cells kc2 t_iTerm)] S w_) ∧ ∃ kc3, Inv w X [.blk b1 (.cells #[.int .i64 k, .int .i64 n, .string s, .slice (some ⟨c1, o1, none⟩) ks.length cap1] t_iTerm), .blk b2 (.cells #[.int .i64 k', .int .i64 n', .string s', .slice (some ⟨c2, o2, none⟩) ks'.length cap2] t_iTerm), .blk kb (.cells kc3 t_iTerm)] S w_, ⟨fun h => Bool.noConfusion h, fun h => Bool.noConfusion h, fun h => Bool.noConfusion h, fun h => Bool.noConfusion h, fun h => Bool.noConfusion h, fun h => Bool.noConfusion h, fun h => Bool.noConfusion h, fun h => Bool.noConfusion h, fun h => Bool.noConfusion h, fun h => Bool.noConfusion h, fun h => Bool.noConfusion h, fun h => Bool.noConfusion h, fun h => Bool.noConfusion h, ⟨fun _ => hI.draw, fun h => Bool.noConfusion h, kc', hI.draw⟩⟩, ⟨?_, ?_, ?_, ?_, ?_, ?_, ?_, ?_, ?_, ?_, ?_, ?_, ?_, trivial⟩, ?_⟩
    · intro D hD_  x77 x76 x75 x74 x73 x72 x71 x70 x69 x68 x67 x66 x65 w_
      rintro ⟨h0_, h1_, h2_, h3_, h4_, h5_, h6_, h7_, h8_, h9_, h10_, h11_, h12_, ⟨hI0, hI1, kc3, hI⟩⟩
      refine r_field fo_iTerm_3 ?_
      exact ⟨fun _ => rfl, h1_, h2_, h3_, h4_, h5_, h6_, h7_, h8_, h9_, h10_, h11_, h12_, ⟨hI0, hI1, kc3, hI⟩⟩
    · intro D hD_ d0_0 x77 x76 x75 x74 x73 x72 x71 x70 x69 x68 x67 x66 x65 w_
      rintro ⟨h0_, h1_, h2_, h3_, h4_, h5_, h6_, h7_, h8_, h9_, h10_, h11_, h12_, ⟨hI0, hI1, kc3, hI⟩⟩
      obtain rfl := h0_ d0_0
      refine r_loadL hI 0 sc_SiTerm rfl rfl ?_
      exact ⟨h0_, fun _ => rfl, h2_, h3_, h4_, h5_, h6_, h7_, h8_, h9_, h10_, h11_, h12_, ⟨hI0, hI1, kc3, hI⟩⟩
    · intro D hD_  x77 x76 x75 x74 x73 x72 x71 x70 x69 x68 x67 x66 x65 w_
      rintro ⟨h0_, h1_, h2_, h3_, h4_, h5_, h6_, h7_, h8_, h9_, h10_, h11_, h12_, ⟨hI0, hI1, kc3, hI⟩⟩
      exact ⟨h0_, h1_, fun _ => rfl, h3_, h4_, h5_, h6_, h7_, h8_, h9_, h10_, h11_, h12_, ⟨hI0, hI1, kc3, hI⟩⟩
    · intro D hD_ d1_0 d2_1 x77 x76 x75 x74 x73 x72 x71 x70 x69 x68 x67 x66 x65 w_
      rintro ⟨h0_, h1_, h2_, h3_, h4_, h5_, h6_, h7_, h8_, h9_, h10_, h11_, h12_, ⟨hI0, hI1, kc3, hI⟩⟩
      obtain rfl := h1_ d1_0
      obtain rfl := h2_ d2_1
      refine r_indexAddr sl_SiTerm hj1 ?_
      exact ⟨h0_, h1_, h2_, fun _ => rfl, h4_, h5_, h6_, h7_, h8_, h9_, h10_, h11_, h12_, ⟨hI0, hI1, kc3, hI⟩⟩
    · intro D hD_ d3_0 x77 x76 x75 x74 x73 x72 x71 x70 x69 x68 x67 x66 x65 w_
      rintro ⟨h0_, h1_, h2_, h3_, h4_, h5_, h6_, h7_, h8_, h9_, h10_, h11_, h12_, ⟨hI0, hI1, kc3, hI⟩⟩
      obtain rfl := h3_ d3_0
      refine r_loadA ag_iTerm hR1.length (fun j v hj => by rw [hI.cellS hS1]; exact cellsAt_get rfl j v hj) ?_
      exact ⟨h0_, h1_, h2_, h3_, fun _ => rfl, h5_, h6_, h7_, h8_, h9_, h10_, h11_, h12_, ⟨hI0, hI1, kc3, hI⟩⟩
    · intro D hD_  x77 x76 x75 x74 x73 x72 x71 x70 x69 x68 x67 x66 x65 w_
      rintro ⟨h0_, h1_, h2_, h3_, h4_, h5_, h6_, h7_, h8_, h9_, h10_, h11_, h12_, ⟨hI0, hI1, kc3, hI⟩⟩
      refine r_field fo_iTerm_3 ?_
      exact ⟨h0_, h1_, h2_, h3_, h4_, fun _ => rfl, h6_, h7_, h8_, h9_, h10_, h11_, h12_, ⟨hI0, hI1, kc3, hI⟩⟩
    · intro D hD_ d5_0 x77 x76 x75 x74 x73 x72 x71 x70 x69 x68 x67 x66 x65 w_
      rintro ⟨h0_, h1_, h2_, h3_, h4_, h5_, h6_, h7_, h8_, h9_, h10_, h11_, h12_, ⟨hI0, hI1, kc3, hI⟩⟩
      obtain rfl := h5_ d5_0
      refine r_loadL hI 1 sc_SiTerm rfl rfl ?_
      exact ⟨h0_, h1_, h2_, h3_, h4_, h5_, fun _ => rfl, h7_, h8_, h9_, h10_, h11_, h12_, ⟨hI0, hI1, kc3, hI⟩⟩
    · intro D hD_  x77 x76 x75 x74 x73 x72 x71 x70 x69 x68 x67 x66 x65 w_
      rintro ⟨h0_, h1_, h2_, h3_, h4_, h5_, h6_, h7_, h8_, h9_, h10_, h11_, h12_, ⟨hI0, hI1, kc3, hI⟩⟩
      exact ⟨h0_, h1_, h2_, h3_, h4_, h5_, h6_, fun _ => rfl, h8_, h9_, h10_, h11_, h12_, ⟨hI0, hI1, kc3, hI⟩⟩
    · intro D hD_ d6_0 d7_1 x77 x76 x75 x74 x73 x72 x71 x70 x69 x68 x67 x66 x65 w_
      rintro ⟨h0_, h1_, h2_, h3_, h4_, h5_, h6_, h7_, h8_, h9_, h10_, h11_, h12_, ⟨hI0, hI1, kc3, hI⟩⟩
      obtain rfl := h6_ d6_0
      obtain rfl := h7_ d7_1
      refine r_indexAddr sl_SiTerm hj2 ?_
      exact ⟨h0_, h1_, h2_, h3_, h4_, h5_, h6_, h7_, fun _ => rfl, h9_, h10_, h11_, h12_, ⟨hI0, hI1, kc3, hI⟩⟩
    · intro D hD_ d8_0 x77 x76 x75 x74 x73 x72 x71 x70 x69 x68 x67 x66 x65 w_
      rintro ⟨h0_, h1_, h2_, h3_, h4_, h5_, h6_, h7_, h8_, h9_, h10_, h11_, h12_, ⟨hI0, hI1, kc3, hI⟩⟩
      obtain rfl := h8_ d8_0
      refine r_loadA ag_iTerm hR2.length (fun j v hj => by rw [hI.cellS hS2]; exact cellsAt_get rfl j v hj) ?_
      exact ⟨h0_, h1_, h2_, h3_, h4_, h5_, h6_, h7_, h8_, fun _ => rfl, h10_, h11_, h12_, ⟨hI0, hI1, kc3, hI⟩⟩
    · intro D hD_  x77 x76 x75 x74 x73 x72 x71 x70 x69 x68 x67 x66 x65 w_
      rintro ⟨h0_, h1_, h2_, h3_, h4_, h5_, h6_, h7_, h8_, h9_, h10_, h11_, h12_, ⟨hI0, hI1, kc3, hI⟩⟩
      exact ⟨h0_, h1_, h2_, h3_, h4_, h5_, h6_, h7_, h8_, h9_, fun _ => rfl, h11_, h12_, ⟨hI0, hI1, kc3, hI⟩⟩
    · intro D hD_ d4_0 d9_1 d10_2 x77 x76 x75 x74 x73 x72 x71 x70 x69 x68 x67 x66 x65 w_
      rintro ⟨h0_, h1_, h2_, h3_, h4_, h5_, h6_, h7_, h8_, h9_, h10_, h11_, h12_, ⟨hI0, hI1, kc3, hI⟩⟩
      obtain rfl := h4_ d4_0
      obtain rfl := h9_ d9_1
      obtain rfl := h10_ d10_2
      refine Run.call (A := [_, _]) fn_s_l3Match nm_s_l3Match (hI0 hD_) hcall fun v' I' S w_ => ?_
      rintro ⟨rfl, rfl, kc2, rfl, hk2⟩ _ hI
      have hI0 := fun (h : setD D 11 11 = false) => (Bool.noConfusion h : Inv w X [.blk b1 (.cells #[.int .i64 k, .int .i64 n, .string s, .slice (some ⟨c1, o1, none⟩) ks.length cap1] t_iTerm), .blk b2 (.cells #[.int .i64 k', .int .i64 n', .string s', .slice (some ⟨c2, o2, none⟩) ks'.length cap2] t_iTerm), .blk kb (.cells kc' t_iTerm)] S w_)
      have hI1 := fun (_ : setD D 11 11 = true) => (⟨kc2, hk2, hI⟩ : ∃ kc2, KnownC S kc2 r.2 ∧ Inv w X [.blk b1 (.cells #[.int .i64 k, .int .i64 n, .string s, .slice (some ⟨c1, o1, none⟩) ks.length cap1] t_iTerm), .blk b2 (.cells #[.int .i64 k', .int .i64 n', .string s', .slice (some ⟨c2, o2, none⟩) ks'.length cap2] t_iTerm), .blk kb (.cells kc2 t_iTerm)] S w_)
      obtain ⟨kc3, hI⟩ : ∃ kc3, Inv w X [.blk b1 (.cells #[.int .i64 k, .int .i64 n, .string s, .slice (some ⟨c1, o1, none⟩) ks.length cap1] t_iTerm), .blk b2 (.cells #[.int .i64 k', .int .i64 n', .string s', .slice (some ⟨c2, o2, none⟩) ks'.length cap2] t_iTerm), .blk kb (.cells kc3 t_iTerm)] S w_ := ⟨kc2, hI⟩
      exact ⟨h0_, h1_, h2_, h3_, h4_, h5_, h6_, h7_, h8_, h9_, h10_, fun _ => rfl, h12_, ⟨hI0, hI1, kc3, hI⟩⟩
    · intro D hD_ d11_0 x77 x76 x75 x74 x73 x72 x71 x70 x69 x68 x67 x66 x65 w_
      rintro ⟨h0_, h1_, h2_, h3_, h4_, h5_, h6_, h7_, h8_, h9_, h10_, h11_, h12_, ⟨hI0, hI1, kc3, hI⟩⟩
      obtain rfl := h11_ d11_0
      refine r_not ?_
      exact ⟨h0_, h1_, h2_, h3_, h4_, h5_, h6_, h7_, h8_, h9_, h10_, h11_, fun _ => rfl, ⟨hI0, hI1, kc3, hI⟩⟩
    intro D d12_ d11_ d10_ d9_ d8_ d7_ d6_ d5_ d4_ d3_ d2_ d1_ d0_ x77 x76 x75 x74 x73 x72 x71 x70 x69 x68 x67 x66 x65 w_
    rintro ⟨h0_, h1_, h2_, h3_, h4_, h5_, h6_, h7_, h8_, h9_, h10_, h11_, h12_, ⟨hI0, hI1, kc3, hI⟩⟩
    obtain rfl := h12_ d12_
    obtain rfl := h11_ d11_
    obtain rfl := h10_ d10_
    obtain rfl := h9_ d9_
    obtain rfl := h8_ d8_
    obtain rfl := h7_ d7_
    obtain rfl := h6_ d6_
    obtain rfl := h5_ d5_
    obtain rfl := h4_ d4_
    obtain rfl := h3_ d3_
    obtain rfl := h2_ d2_
    obtain rfl := h1_ d1_
    obtain rfl := h0_ d0_
    clear h0_ h1_ h2_ h3_ h4_ h5_ h6_ h7_ h8_ h9_ h10_ h11_ h12_
    obtain ⟨kc2, hk2, hI⟩ := hI1 d11_
    clear hI0 hI1
    refine condV (fun hne => ?_) (fun he' => ?_)
    · simp only [Bool.not_eq_true'] at hne
      rw [hne, if_neg (by decide)] at hrel
      rw [← hrel]
      exact ⟨_, _, _, rfl, hI.pick [false, false, true], Ext.refl _ _ _, rfl, rfl, _, rfl, hk2⟩
    · simp only [Bool.not_eq_false'] at he'
      rw [he', if_pos rfl] at hrel
      refine r_add (by omega) ?_
      exact ⟨⟨j + 1, r.2, kc2, hj1, rfl, hrel, hsn, hk2, hI⟩, by simp [intOf]; omega⟩
  · have : j = ks.length := by omega
    subst this
    rw [List.drop_length, hle, List.drop_length] at hrel
    rw [← hrel]
    exact ⟨_, _, _, rfl, hI.pick [false, false, true], Ext.refl _ _ _, rfl, rfl, _, rfl, hkc'⟩
end

end Go.Proofs.Ytnoieadimkgjcaa
